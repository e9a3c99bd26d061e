import Derived.Test.YteciijnpfapmhaaQB03
namespace Go.Proofs.Yteciijnpfapmhaa
set_option linter.unusedSimpArgs false
set_option linter.unusedVariables false
open Go.RowKit

def FS61_4 (x y : Int) (bx ox k n0 capr : Nat) (w W0 : World) (iq : Nat) (v : Value) (w1 : World) : Prop := match iq with
 | 0 => v = .slice (some ⟨bx, ox, none⟩) n0 capr
 | 1 => v = .int .i64 (0)
 | 2 => v = .pointer (some ⟨bx, ox + 0, none⟩)
 | 3 => v = .int .i64 (x)
 | 4 => v = .bool (true)
 | 5 => v = .bool (false)
 | 6 => v = .bool (false)
 | 7 => v = .int .i64 (0)
 | 8 => v = .bool (false)
 | 9 => v = .bool (false)
 | 10 => v = undef
 | 11 => v = undef
 | 12 => v = undef
 | 13 => v = undef
 | 14 => v = undef
 | 15 => v = undef
 | 16 => v = undef
 | 17 => v = undef
 | 18 => v = undef
 | 19 => v = undef
 | 20 => v = .bool (false)
 | 21 => v = .bool (false)
 | _ => True

def FS61_4_23 (x y : Int) (bx ox k n0 capr : Nat) (w W0 : World) (iq : Nat) (v : Value) (w1 : World) : Prop := match iq with
 | 0 => v = .slice (some ⟨bx, ox, none⟩) n0 capr
 | 1 => v = .int .i64 (0)
 | 2 => v = .pointer (some ⟨bx, ox + 0, none⟩)
 | 3 => v = .int .i64 (x)
 | 4 => v = .bool (false)
 | 5 => v = .bool (true)
 | 6 => v = .bool (true)
 | 7 => v = undef
 | 8 => v = undef
 | 9 => v = undef
 | 10 => v = undef
 | 11 => v = undef
 | 12 => v = undef
 | 13 => v = undef
 | 14 => v = undef
 | 15 => v = undef
 | 16 => v = undef
 | 17 => v = undef
 | 18 => v = undef
 | 19 => v = undef
 | 20 => v = undef
 | 21 => v = .bool (true)
 | _ => True

def FS61_4_24 (x y : Int) (bx ox k n0 capr : Nat) (w W0 : World) (iq : Nat) (v : Value) (w1 : World) : Prop := match iq with
 | 0 => v = .slice (some ⟨bx, ox, none⟩) n0 capr
 | 1 => v = .int .i64 (k + 1)
 | 2 => v = .pointer (some ⟨bx, ox + (k + 1), none⟩)
 | 3 => v = .int .i64 (x)
 | 4 => v = .bool (false)
 | 5 => v = .bool (true)
 | 6 => v = .bool (true)
 | 7 => v = undef
 | 8 => v = undef
 | 9 => v = undef
 | 10 => v = undef
 | 11 => v = undef
 | 12 => v = undef
 | 13 => v = undef
 | 14 => v = undef
 | 15 => v = undef
 | 16 => v = undef
 | 17 => v = undef
 | 18 => v = undef
 | 19 => v = undef
 | 20 => v = undef
 | 21 => v = .bool (true)
 | _ => True

def FS61_4_25 (x y : Int) (bx ox k n0 capr : Nat) (w W0 : World) (iq : Nat) (v : Value) (w1 : World) : Prop := match iq with
 | 0 => v = .slice (some ⟨bx, ox, none⟩) n0 capr
 | 1 => v = .int .i64 (k + 1)
 | 2 => v = .pointer (some ⟨bx, ox + (k + 1), none⟩)
 | 3 => v = .int .i64 (x)
 | 4 => v = .bool (true)
 | 5 => v = .bool (false)
 | 6 => v = .bool (false)
 | 7 => v = .int .i64 (k + 1)
 | 8 => v = .bool (true)
 | 9 => v = .bool (true)
 | 10 => v = .slice (some ⟨bx, ox, none⟩) n0 capr
 | 11 => v = .int .i64 (k + 1)
 | 12 => v = .int .i64 (k)
 | 13 => v = .pointer (some ⟨bx, ox + k, none⟩)
 | 14 => v = .int .i64 (y)
 | 15 => v = .slice (some ⟨bx, ox, none⟩) n0 capr
 | 16 => v = .int .i64 (k + 1)
 | 17 => v = .pointer (some ⟨bx, ox + (k + 1), none⟩)
 | 18 => v = .int .i64 (x)
 | 19 => v = .bool (false)
 | 20 => v = .bool (false)
 | 21 => v = .bool (false)
 | _ => True

def FS61_4_26 (x y : Int) (bx ox k n0 capr : Nat) (w W0 : World) (iq : Nat) (v : Value) (w1 : World) : Prop := match iq with
 | 0 => v = .slice (some ⟨bx, ox, none⟩) n0 capr
 | 1 => v = .int .i64 (k + 1)
 | 2 => v = .pointer (some ⟨bx, ox + (k + 1), none⟩)
 | 3 => v = .int .i64 (x)
 | 4 => v = .bool (true)
 | 5 => v = .bool (false)
 | 6 => v = .bool (false)
 | 7 => v = .int .i64 (k + 1)
 | 8 => v = .bool (true)
 | 9 => v = .bool (true)
 | 10 => v = .slice (some ⟨bx, ox, none⟩) n0 capr
 | 11 => v = .int .i64 (k + 1)
 | 12 => v = .int .i64 (k)
 | 13 => v = .pointer (some ⟨bx, ox + k, none⟩)
 | 14 => v = .int .i64 (y)
 | 15 => v = .slice (some ⟨bx, ox, none⟩) n0 capr
 | 16 => v = .int .i64 (k + 1)
 | 17 => v = .pointer (some ⟨bx, ox + (k + 1), none⟩)
 | 18 => v = .int .i64 (x)
 | 19 => v = .bool (true)
 | 20 => v = .bool (true)
 | 21 => v = .bool (true)
 | _ => True

set_option maxRecDepth 100000 in
set_option maxHeartbeats 4000000 in
theorem c_spec_l15Requests (d : Int) (A : Option Addr) (xs : List (Int × Int)) (cap : Nat) (B : Option Addr) (rs : List Int) (capr : Nat) (p : Int) (w : World) (hx : Rds cIv 2 w A xs) (hn : xs.length ≤ 9223372036854775807) (hr : Rds cIn 1 w B rs) (hnr : rs.length ≤ 9223372036854775807) :
  Calls Try.prog 61 #[.agg #[.int .i64 d, .slice A xs.length cap], .slice B rs.length capr, .int .i64 p] w fun e w' => e = .returned (.bool (reqB d xs rs p)) ∧ Below w.heap.size w w' := by
 go_enter Try.func61, Try.ntmps61
 go_wp2_with (fail)
 go_loopw [7] (fun i wr => ∃ k : Nat, k ≤ rs.length ∧ k ≤ 9 ∧ i = .int .i64 k ∧ (∀ j, j < k → vAt minB reqLe rs j = true) ∧ wr.cell? ⟨w.heap.size, 0, none⟩ = some (.int .i64 d) ∧ wr.cell? ⟨w.heap.size, 1, none⟩ = some (.slice A xs.length cap) ∧ w.heap.size + 1 ≤ wr.heap.size ∧ Below w.heap.size w wr) (fun i _ => rs.length - (intOf i).toNat)
 case atStart =>
  refine ⟨0, Nat.zero_le _, by omega, rfl, fun j hj => absurd hj (Nat.not_lt_zero j), ?_, ?_, ?_, by (repeat' (first | exact Below.refl _ _ | assumption | refine Below.setCell ?_ ?_ _ | refine Below.drew ?_ | refine Below.alloc ?_ ?_ _ | refine Below.trans ?_ (Below.mono (by assumption) ?_) | (simp; done) | (simp; omega) | omega))⟩
  all_goals first | (simp [go_sem, ↓IntWalk.iteOmega, *]; done) | (simp at *; omega)
 case round =>
  obtain ⟨k, hk, hk9, rfl, hl, hp0, hp1, hzz, hbr⟩ := hrel
  have hc := cellOf hbr
  have hf := frozOf hbr
  have hz := sizeOf hbr
  have hp0' : far wr w.heap.size 0 = _ := hp0
  have hp1' : far wr w.heap.size 1 = _ := hp1
  by_cases hlt : k < rs.length ∧ k ≤ 8
  ·obtain ⟨hlt, hk8⟩ := hlt
   obtain ⟨bx, ox, rfl, hbx, hcx⟩ := Rds.all hr (by omega)
   have HB := hid (fun e => reqB_no4 (d := d) (xs := xs) (p := p) (vB_bad (good := minB) (lt := reqLe) (n := 8) hlt e))
   have HL := hid hl
   clear hl hr
   cases k with
   | zero =>
    have HV := hid (vAt_zero (good := minB) (lt := reqLe) hlt)
    have hx0 := hcx 0 hlt 0 _ rfl
    simp only [Nat.zero_mul, Nat.add_zero] at hx0
    clear hcx
    generalize rs[0] = x at *
    by_cases hg : minB x = true
    ·have HG := hid hg
     go_wp2_with (fail)
     refine wp_region_w (n := 22) [] [] (FS61_4 x x bx ox 0 rs.length capr w) rfl (by kernel_rfl) (fun _ _ d _ _ h => by cases d <;> exact h) ?_ ?_ ?_ ?_ ?_ ?_
     ·intro iq
      match iq with
      | 0 | 1 | 2 | 3 | 4 | 5 | 6 | 7 | 8 | 9 | 10 | 11 | 12 | 13 | 14 | 15 | 16 | 17 | 18 | 19 | 20 | 21 => exact Stable.const _
      | n + 22 => exact Stable.const _
     ·intro iq hi
      exact absurd hi (by simp)
     ·intro iq hi
      exact absurd hi (by simp)
     ·intro iq o hi hl ho vals w1 hb1 hf
      exact absurd hl (by simp)
     ·intro iq o hi hl ho vals w1 hb1 hf
      match iq, hi with
      | 0, _ =>
       injection ho with ho
       subst ho
       clear hl
       simp only [fillA, List.take, List.drop, put_none, Act.put, List.setIfInBounds_toArray, List.set_cons_zero, List.set_cons_succ, Nat.reduceAdd]
       clear hf
       go_wp2_with (fail)
       exact RQ.mk rfl ⟨(by first | rfl | (simp [FS61_4]; done) | (simp [FS61_4, *]; done) | (simp [FS61_4, gotV]; done) | (simp [FS61_4, gotV]; omega)), fun h => absurd h (by decide)⟩ (Below.refl _ _)
      | 1, _ =>
       injection ho with ho
       subst ho
       clear hl
       simp only [fillA, List.take, List.drop, put_none, Act.put, List.setIfInBounds_toArray, List.set_cons_zero, List.set_cons_succ, Nat.reduceAdd]
       clear hf
       go_wp2_with (fail)
       exact RQ.mk rfl ⟨(by first | rfl | (simp [FS61_4]; done) | (simp [FS61_4, *]; done) | (simp [FS61_4, gotV]; done) | (simp [FS61_4, gotV]; omega)), fun h => absurd h (by decide)⟩ (Below.refl _ _)
      | 2, _ =>
       injection ho with ho
       subst ho
       clear hl
       simp only [fillA, List.take, List.drop, put_none, Act.put, List.setIfInBounds_toArray, List.set_cons_zero, List.set_cons_succ, Nat.reduceAdd]
       have f0 := hf 0 (by decide) (by kernel_rfl)
       generalize vals 0 = v0 at *
       subst f0
       have f1 := hf 1 (by decide) (by kernel_rfl)
       generalize vals 1 = v1 at *
       subst f1
       clear hf
       go_wp2_with (fail)
       exact RQ.mk rfl ⟨(by first | rfl | (simp [FS61_4]; done) | (simp [FS61_4, *]; done) | (simp [FS61_4, gotV]; done) | (simp [FS61_4, gotV]; omega)), fun h => absurd h (by decide)⟩ (Below.refl _ _)
      | 3, _ =>
       injection ho with ho
       subst ho
       clear hl
       simp only [fillA, List.take, List.drop, put_none, Act.put, List.setIfInBounds_toArray, List.set_cons_zero, List.set_cons_succ, Nat.reduceAdd]
       have f2 := hf 2 (by decide) (by kernel_rfl)
       generalize vals 2 = v2 at *
       subst f2
       clear hf
       have hc1 := cellOf hb1
       have hf1 := frozOf hb1
       have hz1 := sizeOf hb1
       try simp at hz1
       go_wp2_with (fail)
       exact RQ.mk rfl ⟨(by first | rfl | (simp [FS61_4]; done) | (simp [FS61_4, *]; done) | (simp [FS61_4, gotV]; done) | (simp [FS61_4, gotV]; omega)), fun h => absurd h (by decide)⟩ (Below.refl _ _)
      | 4, _ =>
       injection ho with ho
       subst ho
       clear hl
       simp only [fillA, List.take, List.drop, put_none, Act.put, List.setIfInBounds_toArray, List.set_cons_zero, List.set_cons_succ, Nat.reduceAdd]
       have f3 := hf 3 (by decide) (by kernel_rfl)
       generalize vals 3 = v3 at *
       subst f3
       clear hf
       have hc1 := cellOf hb1
       have hf1 := frozOf hb1
       have hz1 := sizeOf hb1
       try simp at hz1
       go_wp2_with (first | (go_at_call 55; refine (c_spec_l8Minute _ _ ).mono ?_; rintro e w' ⟨rfl, hb⟩; have hc := cellOf hb; have hf := frozOf hb; have hz := sizeOf hb; try simp at hz))
       exact RQ.mk rfl ⟨(by first | rfl | (simp [FS61_4]; done) | (simp [FS61_4, *]; done) | (simp [FS61_4, gotV]; done) | (simp [FS61_4, gotV]; omega)), fun h => absurd h (by decide)⟩ (by (repeat' (first | exact Below.refl _ _ | assumption | refine Below.setCell ?_ ?_ _ | refine Below.drew ?_ | refine Below.alloc ?_ ?_ _ | refine Below.trans ?_ (Below.mono (by assumption) ?_) | (simp; done) | (simp; omega) | omega)))
      | 5, _ =>
       injection ho with ho
       subst ho
       clear hl
       simp only [fillA, List.take, List.drop, put_none, Act.put, List.setIfInBounds_toArray, List.set_cons_zero, List.set_cons_succ, Nat.reduceAdd]
       have f4 := hf 4 (by decide) (by kernel_rfl)
       generalize vals 4 = v4 at *
       subst f4
       clear hf
       go_wp2_with (fail)
       exact RQ.mk rfl ⟨(by first | rfl | (simp [FS61_4]; done) | (simp [FS61_4, *]; done) | (simp [FS61_4, gotV]; done) | (simp [FS61_4, gotV]; omega)), fun h => absurd h (by decide)⟩ (Below.refl _ _)
      | 6, _ =>
       injection ho with ho
       subst ho
       clear hl
       simp only [fillA, List.take, List.drop, put_none, Act.put, List.setIfInBounds_toArray, List.set_cons_zero, List.set_cons_succ, Nat.reduceAdd]
       have f5 := hf 5 (by decide) (by kernel_rfl)
       generalize vals 5 = v5 at *
       subst f5
       have f4 := hf 4 (by decide) (by kernel_rfl)
       generalize vals 4 = v4 at *
       subst f4
       clear hf
       go_wp2_with (fail)
       exact RQ.mk rfl ⟨(by first | rfl | (simp [FS61_4]; done) | (simp [FS61_4, *]; done) | (simp [FS61_4, gotV]; done) | (simp [FS61_4, gotV]; omega)), fun h => absurd h (by decide)⟩ (Below.refl _ _)
      | 7, _ =>
       injection ho with ho
       subst ho
       clear hl
       simp only [fillA, List.take, List.drop, put_none, Act.put, List.setIfInBounds_toArray, List.set_cons_zero, List.set_cons_succ, Nat.reduceAdd]
       have f6 := hf 6 (by decide) (by kernel_rfl)
       generalize vals 6 = v6 at *
       subst f6
       clear hf
       go_wp2_with (fail)
       exact RQ.mk rfl ⟨(by first | rfl | (simp [FS61_4]; done) | (simp [FS61_4, *]; done) | (simp [FS61_4, gotV]; done) | (simp [FS61_4, gotV]; omega)), fun h => absurd h (by decide)⟩ (Below.refl _ _)
      | 8, _ =>
       injection ho with ho
       subst ho
       clear hl
       simp only [fillA, List.take, List.drop, put_none, Act.put, List.setIfInBounds_toArray, List.set_cons_zero, List.set_cons_succ, Nat.reduceAdd]
       have f7 := hf 7 (by decide) (by kernel_rfl)
       generalize vals 7 = v7 at *
       subst f7
       have f6 := hf 6 (by decide) (by kernel_rfl)
       generalize vals 6 = v6 at *
       subst f6
       clear hf
       go_wp2_with (fail)
       exact RQ.mk rfl ⟨(by first | rfl | (simp [FS61_4]; done) | (simp [FS61_4, *]; done) | (simp [FS61_4, gotV]; done) | (simp [FS61_4, gotV]; omega)), fun h => absurd h (by decide)⟩ (Below.refl _ _)
      | 9, _ =>
       injection ho with ho
       subst ho
       clear hl
       simp only [fillA, List.take, List.drop, put_none, Act.put, List.setIfInBounds_toArray, List.set_cons_zero, List.set_cons_succ, Nat.reduceAdd]
       have f8 := hf 8 (by decide) (by kernel_rfl)
       generalize vals 8 = v8 at *
       subst f8
       have f6 := hf 6 (by decide) (by kernel_rfl)
       generalize vals 6 = v6 at *
       subst f6
       clear hf
       go_wp2_with (fail)
       exact RQ.mk rfl ⟨(by first | rfl | (simp [FS61_4]; done) | (simp [FS61_4, *]; done) | (simp [FS61_4, gotV]; done) | (simp [FS61_4, gotV]; omega)), fun h => absurd h (by decide)⟩ (Below.refl _ _)
      | 10, _ =>
       injection ho with ho
       subst ho
       clear hl
       simp only [fillA, List.take, List.drop, put_none, Act.put, List.setIfInBounds_toArray, List.set_cons_zero, List.set_cons_succ, Nat.reduceAdd]
       have f9 := hf 9 (by decide) (by kernel_rfl)
       generalize vals 9 = v9 at *
       subst f9
       clear hf
       go_wp2_with (fail)
       exact RQ.mk rfl ⟨(by first | rfl | (simp [FS61_4]; done) | (simp [FS61_4, *]; done) | (simp [FS61_4, gotV]; done) | (simp [FS61_4, gotV]; omega)), fun h => absurd h (by decide)⟩ (Below.refl _ _)
      | 11, _ =>
       injection ho with ho
       subst ho
       clear hl
       simp only [fillA, List.take, List.drop, put_none, Act.put, List.setIfInBounds_toArray, List.set_cons_zero, List.set_cons_succ, Nat.reduceAdd]
       have f9 := hf 9 (by decide) (by kernel_rfl)
       generalize vals 9 = v9 at *
       subst f9
       clear hf
       go_wp2_with (fail)
       exact RQ.mk rfl ⟨(by first | rfl | (simp [FS61_4]; done) | (simp [FS61_4, *]; done) | (simp [FS61_4, gotV]; done) | (simp [FS61_4, gotV]; omega)), fun h => absurd h (by decide)⟩ (Below.refl _ _)
      | 12, _ =>
       injection ho with ho
       subst ho
       clear hl
       simp only [fillA, List.take, List.drop, put_none, Act.put, List.setIfInBounds_toArray, List.set_cons_zero, List.set_cons_succ, Nat.reduceAdd]
       have f11 := hf 11 (by decide) (by kernel_rfl)
       generalize vals 11 = v11 at *
       subst f11
       have f9 := hf 9 (by decide) (by kernel_rfl)
       generalize vals 9 = v9 at *
       subst f9
       clear hf
       go_wp2_with (fail)
       exact RQ.mk rfl ⟨(by first | rfl | (simp [FS61_4]; done) | (simp [FS61_4, *]; done) | (simp [FS61_4, gotV]; done) | (simp [FS61_4, gotV]; omega)), fun h => absurd h (by decide)⟩ (Below.refl _ _)
      | 13, _ =>
       injection ho with ho
       subst ho
       clear hl
       simp only [fillA, List.take, List.drop, put_none, Act.put, List.setIfInBounds_toArray, List.set_cons_zero, List.set_cons_succ, Nat.reduceAdd]
       have f10 := hf 10 (by decide) (by kernel_rfl)
       generalize vals 10 = v10 at *
       subst f10
       have f12 := hf 12 (by decide) (by kernel_rfl)
       generalize vals 12 = v12 at *
       subst f12
       have f9 := hf 9 (by decide) (by kernel_rfl)
       generalize vals 9 = v9 at *
       subst f9
       clear hf
       go_wp2_with (fail)
       exact RQ.mk rfl ⟨(by first | rfl | (simp [FS61_4]; done) | (simp [FS61_4, *]; done) | (simp [FS61_4, gotV]; done) | (simp [FS61_4, gotV]; omega)), fun h => absurd h (by decide)⟩ (Below.refl _ _)
      | 14, _ =>
       injection ho with ho
       subst ho
       clear hl
       simp only [fillA, List.take, List.drop, put_none, Act.put, List.setIfInBounds_toArray, List.set_cons_zero, List.set_cons_succ, Nat.reduceAdd]
       have f13 := hf 13 (by decide) (by kernel_rfl)
       generalize vals 13 = v13 at *
       subst f13
       have f9 := hf 9 (by decide) (by kernel_rfl)
       generalize vals 9 = v9 at *
       subst f9
       clear hf
       go_wp2_with (fail)
       exact RQ.mk rfl ⟨(by first | rfl | (simp [FS61_4]; done) | (simp [FS61_4, *]; done) | (simp [FS61_4, gotV]; done) | (simp [FS61_4, gotV]; omega)), fun h => absurd h (by decide)⟩ (Below.refl _ _)
      | 15, _ =>
       injection ho with ho
       subst ho
       clear hl
       simp only [fillA, List.take, List.drop, put_none, Act.put, List.setIfInBounds_toArray, List.set_cons_zero, List.set_cons_succ, Nat.reduceAdd]
       have f9 := hf 9 (by decide) (by kernel_rfl)
       generalize vals 9 = v9 at *
       subst f9
       clear hf
       go_wp2_with (fail)
       exact RQ.mk rfl ⟨(by first | rfl | (simp [FS61_4]; done) | (simp [FS61_4, *]; done) | (simp [FS61_4, gotV]; done) | (simp [FS61_4, gotV]; omega)), fun h => absurd h (by decide)⟩ (Below.refl _ _)
      | 16, _ =>
       injection ho with ho
       subst ho
       clear hl
       simp only [fillA, List.take, List.drop, put_none, Act.put, List.setIfInBounds_toArray, List.set_cons_zero, List.set_cons_succ, Nat.reduceAdd]
       have f9 := hf 9 (by decide) (by kernel_rfl)
       generalize vals 9 = v9 at *
       subst f9
       clear hf
       go_wp2_with (fail)
       exact RQ.mk rfl ⟨(by first | rfl | (simp [FS61_4]; done) | (simp [FS61_4, *]; done) | (simp [FS61_4, gotV]; done) | (simp [FS61_4, gotV]; omega)), fun h => absurd h (by decide)⟩ (Below.refl _ _)
      | 17, _ =>
       injection ho with ho
       subst ho
       clear hl
       simp only [fillA, List.take, List.drop, put_none, Act.put, List.setIfInBounds_toArray, List.set_cons_zero, List.set_cons_succ, Nat.reduceAdd]
       have f15 := hf 15 (by decide) (by kernel_rfl)
       generalize vals 15 = v15 at *
       subst f15
       have f16 := hf 16 (by decide) (by kernel_rfl)
       generalize vals 16 = v16 at *
       subst f16
       have f9 := hf 9 (by decide) (by kernel_rfl)
       generalize vals 9 = v9 at *
       subst f9
       clear hf
       go_wp2_with (fail)
       exact RQ.mk rfl ⟨(by first | rfl | (simp [FS61_4]; done) | (simp [FS61_4, *]; done) | (simp [FS61_4, gotV]; done) | (simp [FS61_4, gotV]; omega)), fun h => absurd h (by decide)⟩ (Below.refl _ _)
      | 18, _ =>
       injection ho with ho
       subst ho
       clear hl
       simp only [fillA, List.take, List.drop, put_none, Act.put, List.setIfInBounds_toArray, List.set_cons_zero, List.set_cons_succ, Nat.reduceAdd]
       have f17 := hf 17 (by decide) (by kernel_rfl)
       generalize vals 17 = v17 at *
       subst f17
       have f9 := hf 9 (by decide) (by kernel_rfl)
       generalize vals 9 = v9 at *
       subst f9
       clear hf
       go_wp2_with (fail)
       exact RQ.mk rfl ⟨(by first | rfl | (simp [FS61_4]; done) | (simp [FS61_4, *]; done) | (simp [FS61_4, gotV]; done) | (simp [FS61_4, gotV]; omega)), fun h => absurd h (by decide)⟩ (Below.refl _ _)
      | 19, _ =>
       injection ho with ho
       subst ho
       clear hl
       simp only [fillA, List.take, List.drop, put_none, Act.put, List.setIfInBounds_toArray, List.set_cons_zero, List.set_cons_succ, Nat.reduceAdd]
       have f14 := hf 14 (by decide) (by kernel_rfl)
       generalize vals 14 = v14 at *
       subst f14
       have f18 := hf 18 (by decide) (by kernel_rfl)
       generalize vals 18 = v18 at *
       subst f18
       have f9 := hf 9 (by decide) (by kernel_rfl)
       generalize vals 9 = v9 at *
       subst f9
       clear hf
       go_wp2_with (fail)
       exact RQ.mk rfl ⟨(by first | rfl | (simp [FS61_4]; done) | (simp [FS61_4, *]; done) | (simp [FS61_4, gotV]; done) | (simp [FS61_4, gotV]; omega)), fun h => absurd h (by decide)⟩ (Below.refl _ _)
      | 20, _ =>
       injection ho with ho
       subst ho
       clear hl
       simp only [fillA, List.take, List.drop, put_none, Act.put, List.setIfInBounds_toArray, List.set_cons_zero, List.set_cons_succ, Nat.reduceAdd]
       have f9 := hf 9 (by decide) (by kernel_rfl)
       generalize vals 9 = v9 at *
       subst f9
       have f19 := hf 19 (by decide) (by kernel_rfl)
       generalize vals 19 = v19 at *
       subst f19
       have f6 := hf 6 (by decide) (by kernel_rfl)
       generalize vals 6 = v6 at *
       subst f6
       clear hf
       go_wp2_with (fail)
       exact RQ.mk rfl ⟨(by first | rfl | (simp [FS61_4]; done) | (simp [FS61_4, *]; done) | (simp [FS61_4, gotV]; done) | (simp [FS61_4, gotV]; omega)), fun h => absurd h (by decide)⟩ (Below.refl _ _)
      | 21, _ =>
       injection ho with ho
       subst ho
       clear hl
       simp only [fillA, List.take, List.drop, put_none, Act.put, List.setIfInBounds_toArray, List.set_cons_zero, List.set_cons_succ, Nat.reduceAdd]
       have f6 := hf 6 (by decide) (by kernel_rfl)
       generalize vals 6 = v6 at *
       subst f6
       have f20 := hf 20 (by decide) (by kernel_rfl)
       generalize vals 20 = v20 at *
       subst f20
       clear hf
       go_wp2_with (fail)
       exact RQ.mk rfl ⟨(by first | rfl | (simp [FS61_4]; done) | (simp [FS61_4, *]; done) | (simp [FS61_4, gotV]; done) | (simp [FS61_4, gotV]; omega)), fun h => absurd h (by decide)⟩ (Below.refl _ _)
      | m + 22, h => exact absurd h (by omega)
     ·intro vals w1 hb1 hf hd
      simp only [fillA, List.take, List.drop, put_none, Act.put, List.setIfInBounds_toArray, List.set_cons_zero, List.set_cons_succ, Nat.reduceAdd]
      clear hd
      have f0 := hf 0 (by decide)
      generalize vals 0 = v0 at *
      subst f0
      have f1 := hf 1 (by decide)
      generalize vals 1 = v1 at *
      subst f1
      have f2 := hf 2 (by decide)
      generalize vals 2 = v2 at *
      subst f2
      have f3 := hf 3 (by decide)
      generalize vals 3 = v3 at *
      subst f3
      have f4 := hf 4 (by decide)
      generalize vals 4 = v4 at *
      subst f4
      have f5 := hf 5 (by decide)
      generalize vals 5 = v5 at *
      subst f5
      have f6 := hf 6 (by decide)
      generalize vals 6 = v6 at *
      subst f6
      have f7 := hf 7 (by decide)
      generalize vals 7 = v7 at *
      subst f7
      have f8 := hf 8 (by decide)
      generalize vals 8 = v8 at *
      subst f8
      have f9 := hf 9 (by decide)
      generalize vals 9 = v9 at *
      subst f9
      have f10 := hf 10 (by decide)
      generalize vals 10 = v10 at *
      subst f10
      have f11 := hf 11 (by decide)
      generalize vals 11 = v11 at *
      subst f11
      have f12 := hf 12 (by decide)
      generalize vals 12 = v12 at *
      subst f12
      have f13 := hf 13 (by decide)
      generalize vals 13 = v13 at *
      subst f13
      have f14 := hf 14 (by decide)
      generalize vals 14 = v14 at *
      subst f14
      have f15 := hf 15 (by decide)
      generalize vals 15 = v15 at *
      subst f15
      have f16 := hf 16 (by decide)
      generalize vals 16 = v16 at *
      subst f16
      have f17 := hf 17 (by decide)
      generalize vals 17 = v17 at *
      subst f17
      have f18 := hf 18 (by decide)
      generalize vals 18 = v18 at *
      subst f18
      have f19 := hf 19 (by decide)
      generalize vals 19 = v19 at *
      subst f19
      have f20 := hf 20 (by decide)
      generalize vals 20 = v20 at *
      subst f20
      have f21 := hf 21 (by decide)
      generalize vals 21 = v21 at *
      subst f21
      clear hf
      have hc1 := cellOf hb1
      have hf1 := frozOf hb1
      have hz1 := sizeOf hb1
      try simp at hz1
      go_wp2_with (fail)
      go_roundw
      case rel =>
       refine ⟨1, by omega, by omega, by go_num, fun j hj => ?_, ?_, ?_, ?_, by (repeat' (first | exact Below.refl _ _ | assumption | refine Below.setCell ?_ ?_ _ | refine Below.drew ?_ | refine Below.alloc ?_ ?_ _ | refine Below.trans ?_ (Below.mono (by assumption) ?_) | (simp; done) | (simp; omega) | omega))⟩
       ·obtain rfl : j = 0 := by omega
        rw [HV.out, HG.out]
       all_goals first | (simp [go_sem, ↓IntWalk.iteOmega, *]; done) | (simp [go_sem, ↓IntWalk.iteOmega, *]; omega) | omega
      case measure => simp [intOf]; omega
    ·have HG : Hid (minB x = false) := by show _ = _; simpa using hg
     clear hg
     have hg := HG.out
     go_wp2_with (fail)
     refine wp_region_w (n := 22) [] [] (FS61_4_23 x x bx ox 0 rs.length capr w) rfl (by kernel_rfl) (fun _ _ d _ _ h => by cases d <;> exact h) ?_ ?_ ?_ ?_ ?_ ?_
     ·intro iq
      match iq with
      | 0 | 1 | 2 | 3 | 4 | 5 | 6 | 7 | 8 | 9 | 10 | 11 | 12 | 13 | 14 | 15 | 16 | 17 | 18 | 19 | 20 | 21 => exact Stable.const _
      | n + 22 => exact Stable.const _
     ·intro iq hi
      exact absurd hi (by simp)
     ·intro iq hi
      exact absurd hi (by simp)
     ·intro iq o hi hl ho vals w1 hb1 hf
      exact absurd hl (by simp)
     ·intro iq o hi hl ho vals w1 hb1 hf
      match iq, hi with
      | 0, _ =>
       injection ho with ho
       subst ho
       clear hl
       simp only [fillA, List.take, List.drop, put_none, Act.put, List.setIfInBounds_toArray, List.set_cons_zero, List.set_cons_succ, Nat.reduceAdd]
       clear hf
       go_wp2_with (fail)
       exact RQ.mk rfl ⟨(by first | rfl | (simp [FS61_4_23]; done) | (simp [FS61_4_23, *]; done) | (simp [FS61_4_23, gotV]; done) | (simp [FS61_4_23, gotV]; omega)), fun h => absurd h (by decide)⟩ (Below.refl _ _)
      | 1, _ =>
       injection ho with ho
       subst ho
       clear hl
       simp only [fillA, List.take, List.drop, put_none, Act.put, List.setIfInBounds_toArray, List.set_cons_zero, List.set_cons_succ, Nat.reduceAdd]
       clear hf
       go_wp2_with (fail)
       exact RQ.mk rfl ⟨(by first | rfl | (simp [FS61_4_23]; done) | (simp [FS61_4_23, *]; done) | (simp [FS61_4_23, gotV]; done) | (simp [FS61_4_23, gotV]; omega)), fun h => absurd h (by decide)⟩ (Below.refl _ _)
      | 2, _ =>
       injection ho with ho
       subst ho
       clear hl
       simp only [fillA, List.take, List.drop, put_none, Act.put, List.setIfInBounds_toArray, List.set_cons_zero, List.set_cons_succ, Nat.reduceAdd]
       have f0 := hf 0 (by decide) (by kernel_rfl)
       generalize vals 0 = v0 at *
       subst f0
       have f1 := hf 1 (by decide) (by kernel_rfl)
       generalize vals 1 = v1 at *
       subst f1
       clear hf
       go_wp2_with (fail)
       exact RQ.mk rfl ⟨(by first | rfl | (simp [FS61_4_23]; done) | (simp [FS61_4_23, *]; done) | (simp [FS61_4_23, gotV]; done) | (simp [FS61_4_23, gotV]; omega)), fun h => absurd h (by decide)⟩ (Below.refl _ _)
      | 3, _ =>
       injection ho with ho
       subst ho
       clear hl
       simp only [fillA, List.take, List.drop, put_none, Act.put, List.setIfInBounds_toArray, List.set_cons_zero, List.set_cons_succ, Nat.reduceAdd]
       have f2 := hf 2 (by decide) (by kernel_rfl)
       generalize vals 2 = v2 at *
       subst f2
       clear hf
       have hc1 := cellOf hb1
       have hf1 := frozOf hb1
       have hz1 := sizeOf hb1
       try simp at hz1
       go_wp2_with (fail)
       exact RQ.mk rfl ⟨(by first | rfl | (simp [FS61_4_23]; done) | (simp [FS61_4_23, *]; done) | (simp [FS61_4_23, gotV]; done) | (simp [FS61_4_23, gotV]; omega)), fun h => absurd h (by decide)⟩ (Below.refl _ _)
      | 4, _ =>
       injection ho with ho
       subst ho
       clear hl
       simp only [fillA, List.take, List.drop, put_none, Act.put, List.setIfInBounds_toArray, List.set_cons_zero, List.set_cons_succ, Nat.reduceAdd]
       have f3 := hf 3 (by decide) (by kernel_rfl)
       generalize vals 3 = v3 at *
       subst f3
       clear hf
       have hc1 := cellOf hb1
       have hf1 := frozOf hb1
       have hz1 := sizeOf hb1
       try simp at hz1
       go_wp2_with (first | (go_at_call 55; refine (c_spec_l8Minute _ _ ).mono ?_; rintro e w' ⟨rfl, hb⟩; have hc := cellOf hb; have hf := frozOf hb; have hz := sizeOf hb; try simp at hz))
       exact RQ.mk rfl ⟨(by first | rfl | (simp [FS61_4_23]; done) | (simp [FS61_4_23, *]; done) | (simp [FS61_4_23, gotV]; done) | (simp [FS61_4_23, gotV]; omega)), fun h => absurd h (by decide)⟩ (by (repeat' (first | exact Below.refl _ _ | assumption | refine Below.setCell ?_ ?_ _ | refine Below.drew ?_ | refine Below.alloc ?_ ?_ _ | refine Below.trans ?_ (Below.mono (by assumption) ?_) | (simp; done) | (simp; omega) | omega)))
      | 5, _ =>
       injection ho with ho
       subst ho
       clear hl
       simp only [fillA, List.take, List.drop, put_none, Act.put, List.setIfInBounds_toArray, List.set_cons_zero, List.set_cons_succ, Nat.reduceAdd]
       have f4 := hf 4 (by decide) (by kernel_rfl)
       generalize vals 4 = v4 at *
       subst f4
       clear hf
       go_wp2_with (fail)
       exact RQ.mk rfl ⟨(by first | rfl | (simp [FS61_4_23]; done) | (simp [FS61_4_23, *]; done) | (simp [FS61_4_23, gotV]; done) | (simp [FS61_4_23, gotV]; omega)), fun h => absurd h (by decide)⟩ (Below.refl _ _)
      | 6, _ =>
       injection ho with ho
       subst ho
       clear hl
       simp only [fillA, List.take, List.drop, put_none, Act.put, List.setIfInBounds_toArray, List.set_cons_zero, List.set_cons_succ, Nat.reduceAdd]
       have f5 := hf 5 (by decide) (by kernel_rfl)
       generalize vals 5 = v5 at *
       subst f5
       have f4 := hf 4 (by decide) (by kernel_rfl)
       generalize vals 4 = v4 at *
       subst f4
       clear hf
       go_wp2_with (fail)
       exact RQ.mk rfl ⟨(by first | rfl | (simp [FS61_4_23]; done) | (simp [FS61_4_23, *]; done) | (simp [FS61_4_23, gotV]; done) | (simp [FS61_4_23, gotV]; omega)), fun h => absurd h (by decide)⟩ (Below.refl _ _)
      | 7, _ =>
       injection ho with ho
       subst ho
       clear hl
       simp only [fillA, List.take, List.drop, put_none, Act.put, List.setIfInBounds_toArray, List.set_cons_zero, List.set_cons_succ, Nat.reduceAdd]
       have f6 := hf 6 (by decide) (by kernel_rfl)
       generalize vals 6 = v6 at *
       subst f6
       clear hf
       go_wp2_with (fail)
       exact RQ.mk rfl ⟨(by first | rfl | (simp [FS61_4_23]; done) | (simp [FS61_4_23, *]; done) | (simp [FS61_4_23, gotV]; done) | (simp [FS61_4_23, gotV]; omega)), fun h => absurd h (by decide)⟩ (Below.refl _ _)
      | 8, _ =>
       injection ho with ho
       subst ho
       clear hl
       simp only [fillA, List.take, List.drop, put_none, Act.put, List.setIfInBounds_toArray, List.set_cons_zero, List.set_cons_succ, Nat.reduceAdd]
       have f7 := hf 7 (by decide) (by kernel_rfl)
       generalize vals 7 = v7 at *
       subst f7
       have f6 := hf 6 (by decide) (by kernel_rfl)
       generalize vals 6 = v6 at *
       subst f6
       clear hf
       go_wp2_with (fail)
       exact RQ.mk rfl ⟨(by first | rfl | (simp [FS61_4_23]; done) | (simp [FS61_4_23, *]; done) | (simp [FS61_4_23, gotV]; done) | (simp [FS61_4_23, gotV]; omega)), fun h => absurd h (by decide)⟩ (Below.refl _ _)
      | 9, _ =>
       injection ho with ho
       subst ho
       clear hl
       simp only [fillA, List.take, List.drop, put_none, Act.put, List.setIfInBounds_toArray, List.set_cons_zero, List.set_cons_succ, Nat.reduceAdd]
       have f8 := hf 8 (by decide) (by kernel_rfl)
       generalize vals 8 = v8 at *
       subst f8
       have f6 := hf 6 (by decide) (by kernel_rfl)
       generalize vals 6 = v6 at *
       subst f6
       clear hf
       go_wp2_with (fail)
       exact RQ.mk rfl ⟨(by first | rfl | (simp [FS61_4_23]; done) | (simp [FS61_4_23, *]; done) | (simp [FS61_4_23, gotV]; done) | (simp [FS61_4_23, gotV]; omega)), fun h => absurd h (by decide)⟩ (Below.refl _ _)
      | 10, _ =>
       injection ho with ho
       subst ho
       clear hl
       simp only [fillA, List.take, List.drop, put_none, Act.put, List.setIfInBounds_toArray, List.set_cons_zero, List.set_cons_succ, Nat.reduceAdd]
       have f9 := hf 9 (by decide) (by kernel_rfl)
       generalize vals 9 = v9 at *
       subst f9
       clear hf
       go_wp2_with (fail)
       exact RQ.mk rfl ⟨(by first | rfl | (simp [FS61_4_23]; done) | (simp [FS61_4_23, *]; done) | (simp [FS61_4_23, gotV]; done) | (simp [FS61_4_23, gotV]; omega)), fun h => absurd h (by decide)⟩ (Below.refl _ _)
      | 11, _ =>
       injection ho with ho
       subst ho
       clear hl
       simp only [fillA, List.take, List.drop, put_none, Act.put, List.setIfInBounds_toArray, List.set_cons_zero, List.set_cons_succ, Nat.reduceAdd]
       have f9 := hf 9 (by decide) (by kernel_rfl)
       generalize vals 9 = v9 at *
       subst f9
       clear hf
       go_wp2_with (fail)
       exact RQ.mk rfl ⟨(by first | rfl | (simp [FS61_4_23]; done) | (simp [FS61_4_23, *]; done) | (simp [FS61_4_23, gotV]; done) | (simp [FS61_4_23, gotV]; omega)), fun h => absurd h (by decide)⟩ (Below.refl _ _)
      | 12, _ =>
       injection ho with ho
       subst ho
       clear hl
       simp only [fillA, List.take, List.drop, put_none, Act.put, List.setIfInBounds_toArray, List.set_cons_zero, List.set_cons_succ, Nat.reduceAdd]
       have f11 := hf 11 (by decide) (by kernel_rfl)
       generalize vals 11 = v11 at *
       subst f11
       have f9 := hf 9 (by decide) (by kernel_rfl)
       generalize vals 9 = v9 at *
       subst f9
       clear hf
       go_wp2_with (fail)
       exact RQ.mk rfl ⟨(by first | rfl | (simp [FS61_4_23]; done) | (simp [FS61_4_23, *]; done) | (simp [FS61_4_23, gotV]; done) | (simp [FS61_4_23, gotV]; omega)), fun h => absurd h (by decide)⟩ (Below.refl _ _)
      | 13, _ =>
       injection ho with ho
       subst ho
       clear hl
       simp only [fillA, List.take, List.drop, put_none, Act.put, List.setIfInBounds_toArray, List.set_cons_zero, List.set_cons_succ, Nat.reduceAdd]
       have f10 := hf 10 (by decide) (by kernel_rfl)
       generalize vals 10 = v10 at *
       subst f10
       have f12 := hf 12 (by decide) (by kernel_rfl)
       generalize vals 12 = v12 at *
       subst f12
       have f9 := hf 9 (by decide) (by kernel_rfl)
       generalize vals 9 = v9 at *
       subst f9
       clear hf
       go_wp2_with (fail)
       exact RQ.mk rfl ⟨(by first | rfl | (simp [FS61_4_23]; done) | (simp [FS61_4_23, *]; done) | (simp [FS61_4_23, gotV]; done) | (simp [FS61_4_23, gotV]; omega)), fun h => absurd h (by decide)⟩ (Below.refl _ _)
      | 14, _ =>
       injection ho with ho
       subst ho
       clear hl
       simp only [fillA, List.take, List.drop, put_none, Act.put, List.setIfInBounds_toArray, List.set_cons_zero, List.set_cons_succ, Nat.reduceAdd]
       have f13 := hf 13 (by decide) (by kernel_rfl)
       generalize vals 13 = v13 at *
       subst f13
       have f9 := hf 9 (by decide) (by kernel_rfl)
       generalize vals 9 = v9 at *
       subst f9
       clear hf
       go_wp2_with (fail)
       exact RQ.mk rfl ⟨(by first | rfl | (simp [FS61_4_23]; done) | (simp [FS61_4_23, *]; done) | (simp [FS61_4_23, gotV]; done) | (simp [FS61_4_23, gotV]; omega)), fun h => absurd h (by decide)⟩ (Below.refl _ _)
      | 15, _ =>
       injection ho with ho
       subst ho
       clear hl
       simp only [fillA, List.take, List.drop, put_none, Act.put, List.setIfInBounds_toArray, List.set_cons_zero, List.set_cons_succ, Nat.reduceAdd]
       have f9 := hf 9 (by decide) (by kernel_rfl)
       generalize vals 9 = v9 at *
       subst f9
       clear hf
       go_wp2_with (fail)
       exact RQ.mk rfl ⟨(by first | rfl | (simp [FS61_4_23]; done) | (simp [FS61_4_23, *]; done) | (simp [FS61_4_23, gotV]; done) | (simp [FS61_4_23, gotV]; omega)), fun h => absurd h (by decide)⟩ (Below.refl _ _)
      | 16, _ =>
       injection ho with ho
       subst ho
       clear hl
       simp only [fillA, List.take, List.drop, put_none, Act.put, List.setIfInBounds_toArray, List.set_cons_zero, List.set_cons_succ, Nat.reduceAdd]
       have f9 := hf 9 (by decide) (by kernel_rfl)
       generalize vals 9 = v9 at *
       subst f9
       clear hf
       go_wp2_with (fail)
       exact RQ.mk rfl ⟨(by first | rfl | (simp [FS61_4_23]; done) | (simp [FS61_4_23, *]; done) | (simp [FS61_4_23, gotV]; done) | (simp [FS61_4_23, gotV]; omega)), fun h => absurd h (by decide)⟩ (Below.refl _ _)
      | 17, _ =>
       injection ho with ho
       subst ho
       clear hl
       simp only [fillA, List.take, List.drop, put_none, Act.put, List.setIfInBounds_toArray, List.set_cons_zero, List.set_cons_succ, Nat.reduceAdd]
       have f15 := hf 15 (by decide) (by kernel_rfl)
       generalize vals 15 = v15 at *
       subst f15
       have f16 := hf 16 (by decide) (by kernel_rfl)
       generalize vals 16 = v16 at *
       subst f16
       have f9 := hf 9 (by decide) (by kernel_rfl)
       generalize vals 9 = v9 at *
       subst f9
       clear hf
       go_wp2_with (fail)
       exact RQ.mk rfl ⟨(by first | rfl | (simp [FS61_4_23]; done) | (simp [FS61_4_23, *]; done) | (simp [FS61_4_23, gotV]; done) | (simp [FS61_4_23, gotV]; omega)), fun h => absurd h (by decide)⟩ (Below.refl _ _)
      | 18, _ =>
       injection ho with ho
       subst ho
       clear hl
       simp only [fillA, List.take, List.drop, put_none, Act.put, List.setIfInBounds_toArray, List.set_cons_zero, List.set_cons_succ, Nat.reduceAdd]
       have f17 := hf 17 (by decide) (by kernel_rfl)
       generalize vals 17 = v17 at *
       subst f17
       have f9 := hf 9 (by decide) (by kernel_rfl)
       generalize vals 9 = v9 at *
       subst f9
       clear hf
       go_wp2_with (fail)
       exact RQ.mk rfl ⟨(by first | rfl | (simp [FS61_4_23]; done) | (simp [FS61_4_23, *]; done) | (simp [FS61_4_23, gotV]; done) | (simp [FS61_4_23, gotV]; omega)), fun h => absurd h (by decide)⟩ (Below.refl _ _)
      | 19, _ =>
       injection ho with ho
       subst ho
       clear hl
       simp only [fillA, List.take, List.drop, put_none, Act.put, List.setIfInBounds_toArray, List.set_cons_zero, List.set_cons_succ, Nat.reduceAdd]
       have f14 := hf 14 (by decide) (by kernel_rfl)
       generalize vals 14 = v14 at *
       subst f14
       have f18 := hf 18 (by decide) (by kernel_rfl)
       generalize vals 18 = v18 at *
       subst f18
       have f9 := hf 9 (by decide) (by kernel_rfl)
       generalize vals 9 = v9 at *
       subst f9
       clear hf
       go_wp2_with (fail)
       exact RQ.mk rfl ⟨(by first | rfl | (simp [FS61_4_23]; done) | (simp [FS61_4_23, *]; done) | (simp [FS61_4_23, gotV]; done) | (simp [FS61_4_23, gotV]; omega)), fun h => absurd h (by decide)⟩ (Below.refl _ _)
      | 20, _ =>
       injection ho with ho
       subst ho
       clear hl
       simp only [fillA, List.take, List.drop, put_none, Act.put, List.setIfInBounds_toArray, List.set_cons_zero, List.set_cons_succ, Nat.reduceAdd]
       have f9 := hf 9 (by decide) (by kernel_rfl)
       generalize vals 9 = v9 at *
       subst f9
       have f19 := hf 19 (by decide) (by kernel_rfl)
       generalize vals 19 = v19 at *
       subst f19
       have f6 := hf 6 (by decide) (by kernel_rfl)
       generalize vals 6 = v6 at *
       subst f6
       clear hf
       go_wp2_with (fail)
       exact RQ.mk rfl ⟨(by first | rfl | (simp [FS61_4_23]; done) | (simp [FS61_4_23, *]; done) | (simp [FS61_4_23, gotV]; done) | (simp [FS61_4_23, gotV]; omega)), fun h => absurd h (by decide)⟩ (Below.refl _ _)
      | 21, _ =>
       injection ho with ho
       subst ho
       clear hl
       simp only [fillA, List.take, List.drop, put_none, Act.put, List.setIfInBounds_toArray, List.set_cons_zero, List.set_cons_succ, Nat.reduceAdd]
       have f6 := hf 6 (by decide) (by kernel_rfl)
       generalize vals 6 = v6 at *
       subst f6
       have f20 := hf 20 (by decide) (by kernel_rfl)
       generalize vals 20 = v20 at *
       subst f20
       clear hf
       go_wp2_with (fail)
       exact RQ.mk rfl ⟨(by first | rfl | (simp [FS61_4_23]; done) | (simp [FS61_4_23, *]; done) | (simp [FS61_4_23, gotV]; done) | (simp [FS61_4_23, gotV]; omega)), fun h => absurd h (by decide)⟩ (Below.refl _ _)
      | m + 22, h => exact absurd h (by omega)
     ·intro vals w1 hb1 hf hd
      simp only [fillA, List.take, List.drop, put_none, Act.put, List.setIfInBounds_toArray, List.set_cons_zero, List.set_cons_succ, Nat.reduceAdd]
      clear hd
      have f0 := hf 0 (by decide)
      generalize vals 0 = v0 at *
      subst f0
      have f1 := hf 1 (by decide)
      generalize vals 1 = v1 at *
      subst f1
      have f2 := hf 2 (by decide)
      generalize vals 2 = v2 at *
      subst f2
      have f3 := hf 3 (by decide)
      generalize vals 3 = v3 at *
      subst f3
      have f4 := hf 4 (by decide)
      generalize vals 4 = v4 at *
      subst f4
      have f5 := hf 5 (by decide)
      generalize vals 5 = v5 at *
      subst f5
      have f6 := hf 6 (by decide)
      generalize vals 6 = v6 at *
      subst f6
      have f7 := hf 7 (by decide)
      generalize vals 7 = v7 at *
      subst f7
      have f8 := hf 8 (by decide)
      generalize vals 8 = v8 at *
      subst f8
      have f9 := hf 9 (by decide)
      generalize vals 9 = v9 at *
      subst f9
      have f10 := hf 10 (by decide)
      generalize vals 10 = v10 at *
      subst f10
      have f11 := hf 11 (by decide)
      generalize vals 11 = v11 at *
      subst f11
      have f12 := hf 12 (by decide)
      generalize vals 12 = v12 at *
      subst f12
      have f13 := hf 13 (by decide)
      generalize vals 13 = v13 at *
      subst f13
      have f14 := hf 14 (by decide)
      generalize vals 14 = v14 at *
      subst f14
      have f15 := hf 15 (by decide)
      generalize vals 15 = v15 at *
      subst f15
      have f16 := hf 16 (by decide)
      generalize vals 16 = v16 at *
      subst f16
      have f17 := hf 17 (by decide)
      generalize vals 17 = v17 at *
      subst f17
      have f18 := hf 18 (by decide)
      generalize vals 18 = v18 at *
      subst f18
      have f19 := hf 19 (by decide)
      generalize vals 19 = v19 at *
      subst f19
      have f20 := hf 20 (by decide)
      generalize vals 20 = v20 at *
      subst f20
      have f21 := hf 21 (by decide)
      generalize vals 21 = v21 at *
      subst f21
      clear hf
      have hc1 := cellOf hb1
      have hf1 := frozOf hb1
      have hz1 := sizeOf hb1
      try simp at hz1
      go_wp2_with (fail)
      go_ret
      exact ⟨ret_bool (by rw [HB.out (by rw [HV.out, HG.out])]), by (repeat' (first | exact Below.refl _ _ | assumption | refine Below.setCell ?_ ?_ _ | refine Below.drew ?_ | refine Below.alloc ?_ ?_ _ | refine Below.trans ?_ (Below.mono (by assumption) ?_) | (simp; done) | (simp; omega) | omega))⟩
   | succ k =>
    have HV := hid (vAt_succ (good := minB) (lt := reqLe) k hlt)
    have hlt' : k < rs.length := by omega
    have hx0 := hcx (k + 1) hlt 0 _ rfl
    have hy0 := hcx k hlt' 0 _ rfl
    simp only [Nat.add_zero, Nat.mul_one] at hx0 hy0
    clear hcx
    generalize rs[k + 1] = x at *
    generalize rs[k] = y at *
    by_cases hg : minB x = true
    rotate_left
    ·have HG : Hid (minB x = false) := by show _ = _; simpa using hg
     clear hg
     have hg := HG.out
     go_wp2_with (fail)
     refine wp_region_w (n := 22) [] [] (FS61_4_24 x y bx ox k rs.length capr w) rfl (by kernel_rfl) (fun _ _ d _ _ h => by cases d <;> exact h) ?_ ?_ ?_ ?_ ?_ ?_
     ·intro iq
      match iq with
      | 0 | 1 | 2 | 3 | 4 | 5 | 6 | 7 | 8 | 9 | 10 | 11 | 12 | 13 | 14 | 15 | 16 | 17 | 18 | 19 | 20 | 21 => exact Stable.const _
      | n + 22 => exact Stable.const _
     ·intro iq hi
      exact absurd hi (by simp)
     ·intro iq hi
      exact absurd hi (by simp)
     ·intro iq o hi hl ho vals w1 hb1 hf
      exact absurd hl (by simp)
     ·intro iq o hi hl ho vals w1 hb1 hf
      match iq, hi with
      | 0, _ =>
       injection ho with ho
       subst ho
       clear hl
       simp only [fillA, List.take, List.drop, put_none, Act.put, List.setIfInBounds_toArray, List.set_cons_zero, List.set_cons_succ, Nat.reduceAdd]
       clear hf
       go_wp2_with (fail)
       exact RQ.mk rfl ⟨(by first | rfl | (simp [FS61_4_24]; done) | (simp [FS61_4_24, *]; done) | (simp [FS61_4_24, gotV]; done) | (simp [FS61_4_24, gotV]; omega)), fun h => absurd h (by decide)⟩ (Below.refl _ _)
      | 1, _ =>
       injection ho with ho
       subst ho
       clear hl
       simp only [fillA, List.take, List.drop, put_none, Act.put, List.setIfInBounds_toArray, List.set_cons_zero, List.set_cons_succ, Nat.reduceAdd]
       clear hf
       go_wp2_with (fail)
       exact RQ.mk rfl ⟨(by first | rfl | (simp [FS61_4_24]; done) | (simp [FS61_4_24, *]; done) | (simp [FS61_4_24, gotV]; done) | (simp [FS61_4_24, gotV]; omega)), fun h => absurd h (by decide)⟩ (Below.refl _ _)
      | 2, _ =>
       injection ho with ho
       subst ho
       clear hl
       simp only [fillA, List.take, List.drop, put_none, Act.put, List.setIfInBounds_toArray, List.set_cons_zero, List.set_cons_succ, Nat.reduceAdd]
       have f0 := hf 0 (by decide) (by kernel_rfl)
       generalize vals 0 = v0 at *
       subst f0
       have f1 := hf 1 (by decide) (by kernel_rfl)
       generalize vals 1 = v1 at *
       subst f1
       clear hf
       go_wp2_with (fail)
       exact RQ.mk rfl ⟨(by first | rfl | (simp [FS61_4_24]; done) | (simp [FS61_4_24, *]; done) | (simp [FS61_4_24, gotV]; done) | (simp [FS61_4_24, gotV]; omega)), fun h => absurd h (by decide)⟩ (Below.refl _ _)
      | 3, _ =>
       injection ho with ho
       subst ho
       clear hl
       simp only [fillA, List.take, List.drop, put_none, Act.put, List.setIfInBounds_toArray, List.set_cons_zero, List.set_cons_succ, Nat.reduceAdd]
       have f2 := hf 2 (by decide) (by kernel_rfl)
       generalize vals 2 = v2 at *
       subst f2
       clear hf
       have hc1 := cellOf hb1
       have hf1 := frozOf hb1
       have hz1 := sizeOf hb1
       try simp at hz1
       go_wp2_with (fail)
       exact RQ.mk rfl ⟨(by first | rfl | (simp [FS61_4_24]; done) | (simp [FS61_4_24, *]; done) | (simp [FS61_4_24, gotV]; done) | (simp [FS61_4_24, gotV]; omega)), fun h => absurd h (by decide)⟩ (Below.refl _ _)
      | 4, _ =>
       injection ho with ho
       subst ho
       clear hl
       simp only [fillA, List.take, List.drop, put_none, Act.put, List.setIfInBounds_toArray, List.set_cons_zero, List.set_cons_succ, Nat.reduceAdd]
       have f3 := hf 3 (by decide) (by kernel_rfl)
       generalize vals 3 = v3 at *
       subst f3
       clear hf
       have hc1 := cellOf hb1
       have hf1 := frozOf hb1
       have hz1 := sizeOf hb1
       try simp at hz1
       go_wp2_with (first | (go_at_call 55; refine (c_spec_l8Minute _ _ ).mono ?_; rintro e w' ⟨rfl, hb⟩; have hc := cellOf hb; have hf := frozOf hb; have hz := sizeOf hb; try simp at hz))
       exact RQ.mk rfl ⟨(by first | rfl | (simp [FS61_4_24]; done) | (simp [FS61_4_24, *]; done) | (simp [FS61_4_24, gotV]; done) | (simp [FS61_4_24, gotV]; omega)), fun h => absurd h (by decide)⟩ (by (repeat' (first | exact Below.refl _ _ | assumption | refine Below.setCell ?_ ?_ _ | refine Below.drew ?_ | refine Below.alloc ?_ ?_ _ | refine Below.trans ?_ (Below.mono (by assumption) ?_) | (simp; done) | (simp; omega) | omega)))
      | 5, _ =>
       injection ho with ho
       subst ho
       clear hl
       simp only [fillA, List.take, List.drop, put_none, Act.put, List.setIfInBounds_toArray, List.set_cons_zero, List.set_cons_succ, Nat.reduceAdd]
       have f4 := hf 4 (by decide) (by kernel_rfl)
       generalize vals 4 = v4 at *
       subst f4
       clear hf
       go_wp2_with (fail)
       exact RQ.mk rfl ⟨(by first | rfl | (simp [FS61_4_24]; done) | (simp [FS61_4_24, *]; done) | (simp [FS61_4_24, gotV]; done) | (simp [FS61_4_24, gotV]; omega)), fun h => absurd h (by decide)⟩ (Below.refl _ _)
      | 6, _ =>
       injection ho with ho
       subst ho
       clear hl
       simp only [fillA, List.take, List.drop, put_none, Act.put, List.setIfInBounds_toArray, List.set_cons_zero, List.set_cons_succ, Nat.reduceAdd]
       have f5 := hf 5 (by decide) (by kernel_rfl)
       generalize vals 5 = v5 at *
       subst f5
       have f4 := hf 4 (by decide) (by kernel_rfl)
       generalize vals 4 = v4 at *
       subst f4
       clear hf
       go_wp2_with (fail)
       exact RQ.mk rfl ⟨(by first | rfl | (simp [FS61_4_24]; done) | (simp [FS61_4_24, *]; done) | (simp [FS61_4_24, gotV]; done) | (simp [FS61_4_24, gotV]; omega)), fun h => absurd h (by decide)⟩ (Below.refl _ _)
      | 7, _ =>
       injection ho with ho
       subst ho
       clear hl
       simp only [fillA, List.take, List.drop, put_none, Act.put, List.setIfInBounds_toArray, List.set_cons_zero, List.set_cons_succ, Nat.reduceAdd]
       have f6 := hf 6 (by decide) (by kernel_rfl)
       generalize vals 6 = v6 at *
       subst f6
       clear hf
       go_wp2_with (fail)
       exact RQ.mk rfl ⟨(by first | rfl | (simp [FS61_4_24]; done) | (simp [FS61_4_24, *]; done) | (simp [FS61_4_24, gotV]; done) | (simp [FS61_4_24, gotV]; omega)), fun h => absurd h (by decide)⟩ (Below.refl _ _)
      | 8, _ =>
       injection ho with ho
       subst ho
       clear hl
       simp only [fillA, List.take, List.drop, put_none, Act.put, List.setIfInBounds_toArray, List.set_cons_zero, List.set_cons_succ, Nat.reduceAdd]
       have f7 := hf 7 (by decide) (by kernel_rfl)
       generalize vals 7 = v7 at *
       subst f7
       have f6 := hf 6 (by decide) (by kernel_rfl)
       generalize vals 6 = v6 at *
       subst f6
       clear hf
       go_wp2_with (fail)
       exact RQ.mk rfl ⟨(by first | rfl | (simp [FS61_4_24]; done) | (simp [FS61_4_24, *]; done) | (simp [FS61_4_24, gotV]; done) | (simp [FS61_4_24, gotV]; omega)), fun h => absurd h (by decide)⟩ (Below.refl _ _)
      | 9, _ =>
       injection ho with ho
       subst ho
       clear hl
       simp only [fillA, List.take, List.drop, put_none, Act.put, List.setIfInBounds_toArray, List.set_cons_zero, List.set_cons_succ, Nat.reduceAdd]
       have f8 := hf 8 (by decide) (by kernel_rfl)
       generalize vals 8 = v8 at *
       subst f8
       have f6 := hf 6 (by decide) (by kernel_rfl)
       generalize vals 6 = v6 at *
       subst f6
       clear hf
       go_wp2_with (fail)
       exact RQ.mk rfl ⟨(by first | rfl | (simp [FS61_4_24]; done) | (simp [FS61_4_24, *]; done) | (simp [FS61_4_24, gotV]; done) | (simp [FS61_4_24, gotV]; omega)), fun h => absurd h (by decide)⟩ (Below.refl _ _)
      | 10, _ =>
       injection ho with ho
       subst ho
       clear hl
       simp only [fillA, List.take, List.drop, put_none, Act.put, List.setIfInBounds_toArray, List.set_cons_zero, List.set_cons_succ, Nat.reduceAdd]
       have f9 := hf 9 (by decide) (by kernel_rfl)
       generalize vals 9 = v9 at *
       subst f9
       clear hf
       go_wp2_with (fail)
       exact RQ.mk rfl ⟨(by first | rfl | (simp [FS61_4_24]; done) | (simp [FS61_4_24, *]; done) | (simp [FS61_4_24, gotV]; done) | (simp [FS61_4_24, gotV]; omega)), fun h => absurd h (by decide)⟩ (Below.refl _ _)
      | 11, _ =>
       injection ho with ho
       subst ho
       clear hl
       simp only [fillA, List.take, List.drop, put_none, Act.put, List.setIfInBounds_toArray, List.set_cons_zero, List.set_cons_succ, Nat.reduceAdd]
       have f9 := hf 9 (by decide) (by kernel_rfl)
       generalize vals 9 = v9 at *
       subst f9
       clear hf
       go_wp2_with (fail)
       exact RQ.mk rfl ⟨(by first | rfl | (simp [FS61_4_24]; done) | (simp [FS61_4_24, *]; done) | (simp [FS61_4_24, gotV]; done) | (simp [FS61_4_24, gotV]; omega)), fun h => absurd h (by decide)⟩ (Below.refl _ _)
      | 12, _ =>
       injection ho with ho
       subst ho
       clear hl
       simp only [fillA, List.take, List.drop, put_none, Act.put, List.setIfInBounds_toArray, List.set_cons_zero, List.set_cons_succ, Nat.reduceAdd]
       have f11 := hf 11 (by decide) (by kernel_rfl)
       generalize vals 11 = v11 at *
       subst f11
       have f9 := hf 9 (by decide) (by kernel_rfl)
       generalize vals 9 = v9 at *
       subst f9
       clear hf
       go_wp2_with (fail)
       exact RQ.mk rfl ⟨(by first | rfl | (simp [FS61_4_24]; done) | (simp [FS61_4_24, *]; done) | (simp [FS61_4_24, gotV]; done) | (simp [FS61_4_24, gotV]; omega)), fun h => absurd h (by decide)⟩ (Below.refl _ _)
      | 13, _ =>
       injection ho with ho
       subst ho
       clear hl
       simp only [fillA, List.take, List.drop, put_none, Act.put, List.setIfInBounds_toArray, List.set_cons_zero, List.set_cons_succ, Nat.reduceAdd]
       have f10 := hf 10 (by decide) (by kernel_rfl)
       generalize vals 10 = v10 at *
       subst f10
       have f12 := hf 12 (by decide) (by kernel_rfl)
       generalize vals 12 = v12 at *
       subst f12
       have f9 := hf 9 (by decide) (by kernel_rfl)
       generalize vals 9 = v9 at *
       subst f9
       clear hf
       go_wp2_with (fail)
       exact RQ.mk rfl ⟨(by first | rfl | (simp [FS61_4_24]; done) | (simp [FS61_4_24, *]; done) | (simp [FS61_4_24, gotV]; done) | (simp [FS61_4_24, gotV]; omega)), fun h => absurd h (by decide)⟩ (Below.refl _ _)
      | 14, _ =>
       injection ho with ho
       subst ho
       clear hl
       simp only [fillA, List.take, List.drop, put_none, Act.put, List.setIfInBounds_toArray, List.set_cons_zero, List.set_cons_succ, Nat.reduceAdd]
       have f13 := hf 13 (by decide) (by kernel_rfl)
       generalize vals 13 = v13 at *
       subst f13
       have f9 := hf 9 (by decide) (by kernel_rfl)
       generalize vals 9 = v9 at *
       subst f9
       clear hf
       go_wp2_with (fail)
       exact RQ.mk rfl ⟨(by first | rfl | (simp [FS61_4_24]; done) | (simp [FS61_4_24, *]; done) | (simp [FS61_4_24, gotV]; done) | (simp [FS61_4_24, gotV]; omega)), fun h => absurd h (by decide)⟩ (Below.refl _ _)
      | 15, _ =>
       injection ho with ho
       subst ho
       clear hl
       simp only [fillA, List.take, List.drop, put_none, Act.put, List.setIfInBounds_toArray, List.set_cons_zero, List.set_cons_succ, Nat.reduceAdd]
       have f9 := hf 9 (by decide) (by kernel_rfl)
       generalize vals 9 = v9 at *
       subst f9
       clear hf
       go_wp2_with (fail)
       exact RQ.mk rfl ⟨(by first | rfl | (simp [FS61_4_24]; done) | (simp [FS61_4_24, *]; done) | (simp [FS61_4_24, gotV]; done) | (simp [FS61_4_24, gotV]; omega)), fun h => absurd h (by decide)⟩ (Below.refl _ _)
      | 16, _ =>
       injection ho with ho
       subst ho
       clear hl
       simp only [fillA, List.take, List.drop, put_none, Act.put, List.setIfInBounds_toArray, List.set_cons_zero, List.set_cons_succ, Nat.reduceAdd]
       have f9 := hf 9 (by decide) (by kernel_rfl)
       generalize vals 9 = v9 at *
       subst f9
       clear hf
       go_wp2_with (fail)
       exact RQ.mk rfl ⟨(by first | rfl | (simp [FS61_4_24]; done) | (simp [FS61_4_24, *]; done) | (simp [FS61_4_24, gotV]; done) | (simp [FS61_4_24, gotV]; omega)), fun h => absurd h (by decide)⟩ (Below.refl _ _)
      | 17, _ =>
       injection ho with ho
       subst ho
       clear hl
       simp only [fillA, List.take, List.drop, put_none, Act.put, List.setIfInBounds_toArray, List.set_cons_zero, List.set_cons_succ, Nat.reduceAdd]
       have f15 := hf 15 (by decide) (by kernel_rfl)
       generalize vals 15 = v15 at *
       subst f15
       have f16 := hf 16 (by decide) (by kernel_rfl)
       generalize vals 16 = v16 at *
       subst f16
       have f9 := hf 9 (by decide) (by kernel_rfl)
       generalize vals 9 = v9 at *
       subst f9
       clear hf
       go_wp2_with (fail)
       exact RQ.mk rfl ⟨(by first | rfl | (simp [FS61_4_24]; done) | (simp [FS61_4_24, *]; done) | (simp [FS61_4_24, gotV]; done) | (simp [FS61_4_24, gotV]; omega)), fun h => absurd h (by decide)⟩ (Below.refl _ _)
      | 18, _ =>
       injection ho with ho
       subst ho
       clear hl
       simp only [fillA, List.take, List.drop, put_none, Act.put, List.setIfInBounds_toArray, List.set_cons_zero, List.set_cons_succ, Nat.reduceAdd]
       have f17 := hf 17 (by decide) (by kernel_rfl)
       generalize vals 17 = v17 at *
       subst f17
       have f9 := hf 9 (by decide) (by kernel_rfl)
       generalize vals 9 = v9 at *
       subst f9
       clear hf
       go_wp2_with (fail)
       exact RQ.mk rfl ⟨(by first | rfl | (simp [FS61_4_24]; done) | (simp [FS61_4_24, *]; done) | (simp [FS61_4_24, gotV]; done) | (simp [FS61_4_24, gotV]; omega)), fun h => absurd h (by decide)⟩ (Below.refl _ _)
      | 19, _ =>
       injection ho with ho
       subst ho
       clear hl
       simp only [fillA, List.take, List.drop, put_none, Act.put, List.setIfInBounds_toArray, List.set_cons_zero, List.set_cons_succ, Nat.reduceAdd]
       have f14 := hf 14 (by decide) (by kernel_rfl)
       generalize vals 14 = v14 at *
       subst f14
       have f18 := hf 18 (by decide) (by kernel_rfl)
       generalize vals 18 = v18 at *
       subst f18
       have f9 := hf 9 (by decide) (by kernel_rfl)
       generalize vals 9 = v9 at *
       subst f9
       clear hf
       go_wp2_with (fail)
       exact RQ.mk rfl ⟨(by first | rfl | (simp [FS61_4_24]; done) | (simp [FS61_4_24, *]; done) | (simp [FS61_4_24, gotV]; done) | (simp [FS61_4_24, gotV]; omega)), fun h => absurd h (by decide)⟩ (Below.refl _ _)
      | 20, _ =>
       injection ho with ho
       subst ho
       clear hl
       simp only [fillA, List.take, List.drop, put_none, Act.put, List.setIfInBounds_toArray, List.set_cons_zero, List.set_cons_succ, Nat.reduceAdd]
       have f9 := hf 9 (by decide) (by kernel_rfl)
       generalize vals 9 = v9 at *
       subst f9
       have f19 := hf 19 (by decide) (by kernel_rfl)
       generalize vals 19 = v19 at *
       subst f19
       have f6 := hf 6 (by decide) (by kernel_rfl)
       generalize vals 6 = v6 at *
       subst f6
       clear hf
       go_wp2_with (fail)
       exact RQ.mk rfl ⟨(by first | rfl | (simp [FS61_4_24]; done) | (simp [FS61_4_24, *]; done) | (simp [FS61_4_24, gotV]; done) | (simp [FS61_4_24, gotV]; omega)), fun h => absurd h (by decide)⟩ (Below.refl _ _)
      | 21, _ =>
       injection ho with ho
       subst ho
       clear hl
       simp only [fillA, List.take, List.drop, put_none, Act.put, List.setIfInBounds_toArray, List.set_cons_zero, List.set_cons_succ, Nat.reduceAdd]
       have f6 := hf 6 (by decide) (by kernel_rfl)
       generalize vals 6 = v6 at *
       subst f6
       have f20 := hf 20 (by decide) (by kernel_rfl)
       generalize vals 20 = v20 at *
       subst f20
       clear hf
       go_wp2_with (fail)
       exact RQ.mk rfl ⟨(by first | rfl | (simp [FS61_4_24]; done) | (simp [FS61_4_24, *]; done) | (simp [FS61_4_24, gotV]; done) | (simp [FS61_4_24, gotV]; omega)), fun h => absurd h (by decide)⟩ (Below.refl _ _)
      | m + 22, h => exact absurd h (by omega)
     ·intro vals w1 hb1 hf hd
      simp only [fillA, List.take, List.drop, put_none, Act.put, List.setIfInBounds_toArray, List.set_cons_zero, List.set_cons_succ, Nat.reduceAdd]
      clear hd
      have f0 := hf 0 (by decide)
      generalize vals 0 = v0 at *
      subst f0
      have f1 := hf 1 (by decide)
      generalize vals 1 = v1 at *
      subst f1
      have f2 := hf 2 (by decide)
      generalize vals 2 = v2 at *
      subst f2
      have f3 := hf 3 (by decide)
      generalize vals 3 = v3 at *
      subst f3
      have f4 := hf 4 (by decide)
      generalize vals 4 = v4 at *
      subst f4
      have f5 := hf 5 (by decide)
      generalize vals 5 = v5 at *
      subst f5
      have f6 := hf 6 (by decide)
      generalize vals 6 = v6 at *
      subst f6
      have f7 := hf 7 (by decide)
      generalize vals 7 = v7 at *
      subst f7
      have f8 := hf 8 (by decide)
      generalize vals 8 = v8 at *
      subst f8
      have f9 := hf 9 (by decide)
      generalize vals 9 = v9 at *
      subst f9
      have f10 := hf 10 (by decide)
      generalize vals 10 = v10 at *
      subst f10
      have f11 := hf 11 (by decide)
      generalize vals 11 = v11 at *
      subst f11
      have f12 := hf 12 (by decide)
      generalize vals 12 = v12 at *
      subst f12
      have f13 := hf 13 (by decide)
      generalize vals 13 = v13 at *
      subst f13
      have f14 := hf 14 (by decide)
      generalize vals 14 = v14 at *
      subst f14
      have f15 := hf 15 (by decide)
      generalize vals 15 = v15 at *
      subst f15
      have f16 := hf 16 (by decide)
      generalize vals 16 = v16 at *
      subst f16
      have f17 := hf 17 (by decide)
      generalize vals 17 = v17 at *
      subst f17
      have f18 := hf 18 (by decide)
      generalize vals 18 = v18 at *
      subst f18
      have f19 := hf 19 (by decide)
      generalize vals 19 = v19 at *
      subst f19
      have f20 := hf 20 (by decide)
      generalize vals 20 = v20 at *
      subst f20
      have f21 := hf 21 (by decide)
      generalize vals 21 = v21 at *
      subst f21
      clear hf
      have hc1 := cellOf hb1
      have hf1 := frozOf hb1
      have hz1 := sizeOf hb1
      try simp at hz1
      go_wp2_with (fail)
      go_ret
      exact ⟨ret_bool (by rw [HB.out (by rw [HV.out, HG.out]; rfl)]), by (repeat' (first | exact Below.refl _ _ | assumption | refine Below.setCell ?_ ?_ _ | refine Below.drew ?_ | refine Below.alloc ?_ ?_ _ | refine Below.trans ?_ (Below.mono (by assumption) ?_) | (simp; done) | (simp; omega) | omega))⟩
    have HG := hid hg
    by_cases hl2 : y ≤ x
    ·have H2 : Hid (reqLe y x = true) := by show _ = _; simpa [reqLe] using hl2
     go_wp2_with (fail)
     refine wp_region_w (n := 22) [] [] (FS61_4_25 x y bx ox k rs.length capr w) rfl (by kernel_rfl) (fun _ _ d _ _ h => by cases d <;> exact h) ?_ ?_ ?_ ?_ ?_ ?_
     ·intro iq
      match iq with
      | 0 | 1 | 2 | 3 | 4 | 5 | 6 | 7 | 8 | 9 | 10 | 11 | 12 | 13 | 14 | 15 | 16 | 17 | 18 | 19 | 20 | 21 => exact Stable.const _
      | n + 22 => exact Stable.const _
     ·intro iq hi
      exact absurd hi (by simp)
     ·intro iq hi
      exact absurd hi (by simp)
     ·intro iq o hi hl ho vals w1 hb1 hf
      exact absurd hl (by simp)
     ·intro iq o hi hl ho vals w1 hb1 hf
      match iq, hi with
      | 0, _ =>
       injection ho with ho
       subst ho
       clear hl
       simp only [fillA, List.take, List.drop, put_none, Act.put, List.setIfInBounds_toArray, List.set_cons_zero, List.set_cons_succ, Nat.reduceAdd]
       clear hf
       go_wp2_with (fail)
       exact RQ.mk rfl ⟨(by first | rfl | (simp [FS61_4_25]; done) | (simp [FS61_4_25, *]; done) | (simp [FS61_4_25, gotV]; done) | (simp [FS61_4_25, gotV]; omega)), fun h => absurd h (by decide)⟩ (Below.refl _ _)
      | 1, _ =>
       injection ho with ho
       subst ho
       clear hl
       simp only [fillA, List.take, List.drop, put_none, Act.put, List.setIfInBounds_toArray, List.set_cons_zero, List.set_cons_succ, Nat.reduceAdd]
       clear hf
       go_wp2_with (fail)
       exact RQ.mk rfl ⟨(by first | rfl | (simp [FS61_4_25]; done) | (simp [FS61_4_25, *]; done) | (simp [FS61_4_25, gotV]; done) | (simp [FS61_4_25, gotV]; omega)), fun h => absurd h (by decide)⟩ (Below.refl _ _)
      | 2, _ =>
       injection ho with ho
       subst ho
       clear hl
       simp only [fillA, List.take, List.drop, put_none, Act.put, List.setIfInBounds_toArray, List.set_cons_zero, List.set_cons_succ, Nat.reduceAdd]
       have f0 := hf 0 (by decide) (by kernel_rfl)
       generalize vals 0 = v0 at *
       subst f0
       have f1 := hf 1 (by decide) (by kernel_rfl)
       generalize vals 1 = v1 at *
       subst f1
       clear hf
       go_wp2_with (fail)
       exact RQ.mk rfl ⟨(by first | rfl | (simp [FS61_4_25]; done) | (simp [FS61_4_25, *]; done) | (simp [FS61_4_25, gotV]; done) | (simp [FS61_4_25, gotV]; omega)), fun h => absurd h (by decide)⟩ (Below.refl _ _)
      | 3, _ =>
       injection ho with ho
       subst ho
       clear hl
       simp only [fillA, List.take, List.drop, put_none, Act.put, List.setIfInBounds_toArray, List.set_cons_zero, List.set_cons_succ, Nat.reduceAdd]
       have f2 := hf 2 (by decide) (by kernel_rfl)
       generalize vals 2 = v2 at *
       subst f2
       clear hf
       have hc1 := cellOf hb1
       have hf1 := frozOf hb1
       have hz1 := sizeOf hb1
       try simp at hz1
       go_wp2_with (fail)
       exact RQ.mk rfl ⟨(by first | rfl | (simp [FS61_4_25]; done) | (simp [FS61_4_25, *]; done) | (simp [FS61_4_25, gotV]; done) | (simp [FS61_4_25, gotV]; omega)), fun h => absurd h (by decide)⟩ (Below.refl _ _)
      | 4, _ =>
       injection ho with ho
       subst ho
       clear hl
       simp only [fillA, List.take, List.drop, put_none, Act.put, List.setIfInBounds_toArray, List.set_cons_zero, List.set_cons_succ, Nat.reduceAdd]
       have f3 := hf 3 (by decide) (by kernel_rfl)
       generalize vals 3 = v3 at *
       subst f3
       clear hf
       have hc1 := cellOf hb1
       have hf1 := frozOf hb1
       have hz1 := sizeOf hb1
       try simp at hz1
       go_wp2_with (first | (go_at_call 55; refine (c_spec_l8Minute _ _ ).mono ?_; rintro e w' ⟨rfl, hb⟩; have hc := cellOf hb; have hf := frozOf hb; have hz := sizeOf hb; try simp at hz))
       exact RQ.mk rfl ⟨(by first | rfl | (simp [FS61_4_25]; done) | (simp [FS61_4_25, *]; done) | (simp [FS61_4_25, gotV]; done) | (simp [FS61_4_25, gotV]; omega)), fun h => absurd h (by decide)⟩ (by (repeat' (first | exact Below.refl _ _ | assumption | refine Below.setCell ?_ ?_ _ | refine Below.drew ?_ | refine Below.alloc ?_ ?_ _ | refine Below.trans ?_ (Below.mono (by assumption) ?_) | (simp; done) | (simp; omega) | omega)))
      | 5, _ =>
       injection ho with ho
       subst ho
       clear hl
       simp only [fillA, List.take, List.drop, put_none, Act.put, List.setIfInBounds_toArray, List.set_cons_zero, List.set_cons_succ, Nat.reduceAdd]
       have f4 := hf 4 (by decide) (by kernel_rfl)
       generalize vals 4 = v4 at *
       subst f4
       clear hf
       go_wp2_with (fail)
       exact RQ.mk rfl ⟨(by first | rfl | (simp [FS61_4_25]; done) | (simp [FS61_4_25, *]; done) | (simp [FS61_4_25, gotV]; done) | (simp [FS61_4_25, gotV]; omega)), fun h => absurd h (by decide)⟩ (Below.refl _ _)
      | 6, _ =>
       injection ho with ho
       subst ho
       clear hl
       simp only [fillA, List.take, List.drop, put_none, Act.put, List.setIfInBounds_toArray, List.set_cons_zero, List.set_cons_succ, Nat.reduceAdd]
       have f5 := hf 5 (by decide) (by kernel_rfl)
       generalize vals 5 = v5 at *
       subst f5
       have f4 := hf 4 (by decide) (by kernel_rfl)
       generalize vals 4 = v4 at *
       subst f4
       clear hf
       go_wp2_with (fail)
       exact RQ.mk rfl ⟨(by first | rfl | (simp [FS61_4_25]; done) | (simp [FS61_4_25, *]; done) | (simp [FS61_4_25, gotV]; done) | (simp [FS61_4_25, gotV]; omega)), fun h => absurd h (by decide)⟩ (Below.refl _ _)
      | 7, _ =>
       injection ho with ho
       subst ho
       clear hl
       simp only [fillA, List.take, List.drop, put_none, Act.put, List.setIfInBounds_toArray, List.set_cons_zero, List.set_cons_succ, Nat.reduceAdd]
       have f6 := hf 6 (by decide) (by kernel_rfl)
       generalize vals 6 = v6 at *
       subst f6
       clear hf
       go_wp2_with (fail)
       exact RQ.mk rfl ⟨(by first | rfl | (simp [FS61_4_25]; done) | (simp [FS61_4_25, *]; done) | (simp [FS61_4_25, gotV]; done) | (simp [FS61_4_25, gotV]; omega)), fun h => absurd h (by decide)⟩ (Below.refl _ _)
      | 8, _ =>
       injection ho with ho
       subst ho
       clear hl
       simp only [fillA, List.take, List.drop, put_none, Act.put, List.setIfInBounds_toArray, List.set_cons_zero, List.set_cons_succ, Nat.reduceAdd]
       have f7 := hf 7 (by decide) (by kernel_rfl)
       generalize vals 7 = v7 at *
       subst f7
       have f6 := hf 6 (by decide) (by kernel_rfl)
       generalize vals 6 = v6 at *
       subst f6
       clear hf
       go_wp2_with (fail)
       exact RQ.mk rfl ⟨(by first | rfl | (simp [FS61_4_25]; done) | (simp [FS61_4_25, *]; done) | (simp [FS61_4_25, gotV]; done) | (simp [FS61_4_25, gotV]; omega)), fun h => absurd h (by decide)⟩ (Below.refl _ _)
      | 9, _ =>
       injection ho with ho
       subst ho
       clear hl
       simp only [fillA, List.take, List.drop, put_none, Act.put, List.setIfInBounds_toArray, List.set_cons_zero, List.set_cons_succ, Nat.reduceAdd]
       have f8 := hf 8 (by decide) (by kernel_rfl)
       generalize vals 8 = v8 at *
       subst f8
       have f6 := hf 6 (by decide) (by kernel_rfl)
       generalize vals 6 = v6 at *
       subst f6
       clear hf
       go_wp2_with (fail)
       exact RQ.mk rfl ⟨(by first | rfl | (simp [FS61_4_25]; done) | (simp [FS61_4_25, *]; done) | (simp [FS61_4_25, gotV]; done) | (simp [FS61_4_25, gotV]; omega)), fun h => absurd h (by decide)⟩ (Below.refl _ _)
      | 10, _ =>
       injection ho with ho
       subst ho
       clear hl
       simp only [fillA, List.take, List.drop, put_none, Act.put, List.setIfInBounds_toArray, List.set_cons_zero, List.set_cons_succ, Nat.reduceAdd]
       have f9 := hf 9 (by decide) (by kernel_rfl)
       generalize vals 9 = v9 at *
       subst f9
       clear hf
       go_wp2_with (fail)
       exact RQ.mk rfl ⟨(by first | rfl | (simp [FS61_4_25]; done) | (simp [FS61_4_25, *]; done) | (simp [FS61_4_25, gotV]; done) | (simp [FS61_4_25, gotV]; omega)), fun h => absurd h (by decide)⟩ (Below.refl _ _)
      | 11, _ =>
       injection ho with ho
       subst ho
       clear hl
       simp only [fillA, List.take, List.drop, put_none, Act.put, List.setIfInBounds_toArray, List.set_cons_zero, List.set_cons_succ, Nat.reduceAdd]
       have f9 := hf 9 (by decide) (by kernel_rfl)
       generalize vals 9 = v9 at *
       subst f9
       clear hf
       go_wp2_with (fail)
       exact RQ.mk rfl ⟨(by first | rfl | (simp [FS61_4_25]; done) | (simp [FS61_4_25, *]; done) | (simp [FS61_4_25, gotV]; done) | (simp [FS61_4_25, gotV]; omega)), fun h => absurd h (by decide)⟩ (Below.refl _ _)
      | 12, _ =>
       injection ho with ho
       subst ho
       clear hl
       simp only [fillA, List.take, List.drop, put_none, Act.put, List.setIfInBounds_toArray, List.set_cons_zero, List.set_cons_succ, Nat.reduceAdd]
       have f11 := hf 11 (by decide) (by kernel_rfl)
       generalize vals 11 = v11 at *
       subst f11
       have f9 := hf 9 (by decide) (by kernel_rfl)
       generalize vals 9 = v9 at *
       subst f9
       clear hf
       go_wp2_with (fail)
       exact RQ.mk rfl ⟨(by first | rfl | (simp [FS61_4_25]; done) | (simp [FS61_4_25, *]; done) | (simp [FS61_4_25, gotV]; done) | (simp [FS61_4_25, gotV]; omega)), fun h => absurd h (by decide)⟩ (Below.refl _ _)
      | 13, _ =>
       injection ho with ho
       subst ho
       clear hl
       simp only [fillA, List.take, List.drop, put_none, Act.put, List.setIfInBounds_toArray, List.set_cons_zero, List.set_cons_succ, Nat.reduceAdd]
       have f10 := hf 10 (by decide) (by kernel_rfl)
       generalize vals 10 = v10 at *
       subst f10
       have f12 := hf 12 (by decide) (by kernel_rfl)
       generalize vals 12 = v12 at *
       subst f12
       have f9 := hf 9 (by decide) (by kernel_rfl)
       generalize vals 9 = v9 at *
       subst f9
       clear hf
       go_wp2_with (fail)
       exact RQ.mk rfl ⟨(by first | rfl | (simp [FS61_4_25]; done) | (simp [FS61_4_25, *]; done) | (simp [FS61_4_25, gotV]; done) | (simp [FS61_4_25, gotV]; omega)), fun h => absurd h (by decide)⟩ (Below.refl _ _)
      | 14, _ =>
       injection ho with ho
       subst ho
       clear hl
       simp only [fillA, List.take, List.drop, put_none, Act.put, List.setIfInBounds_toArray, List.set_cons_zero, List.set_cons_succ, Nat.reduceAdd]
       have f13 := hf 13 (by decide) (by kernel_rfl)
       generalize vals 13 = v13 at *
       subst f13
       have f9 := hf 9 (by decide) (by kernel_rfl)
       generalize vals 9 = v9 at *
       subst f9
       clear hf
       have hc1 := cellOf hb1
       have hf1 := frozOf hb1
       have hz1 := sizeOf hb1
       try simp at hz1
       go_wp2_with (fail)
       exact RQ.mk rfl ⟨(by first | rfl | (simp [FS61_4_25]; done) | (simp [FS61_4_25, *]; done) | (simp [FS61_4_25, gotV]; done) | (simp [FS61_4_25, gotV]; omega)), fun h => absurd h (by decide)⟩ (Below.refl _ _)
      | 15, _ =>
       injection ho with ho
       subst ho
       clear hl
       simp only [fillA, List.take, List.drop, put_none, Act.put, List.setIfInBounds_toArray, List.set_cons_zero, List.set_cons_succ, Nat.reduceAdd]
       have f9 := hf 9 (by decide) (by kernel_rfl)
       generalize vals 9 = v9 at *
       subst f9
       clear hf
       go_wp2_with (fail)
       exact RQ.mk rfl ⟨(by first | rfl | (simp [FS61_4_25]; done) | (simp [FS61_4_25, *]; done) | (simp [FS61_4_25, gotV]; done) | (simp [FS61_4_25, gotV]; omega)), fun h => absurd h (by decide)⟩ (Below.refl _ _)
      | 16, _ =>
       injection ho with ho
       subst ho
       clear hl
       simp only [fillA, List.take, List.drop, put_none, Act.put, List.setIfInBounds_toArray, List.set_cons_zero, List.set_cons_succ, Nat.reduceAdd]
       have f9 := hf 9 (by decide) (by kernel_rfl)
       generalize vals 9 = v9 at *
       subst f9
       clear hf
       go_wp2_with (fail)
       exact RQ.mk rfl ⟨(by first | rfl | (simp [FS61_4_25]; done) | (simp [FS61_4_25, *]; done) | (simp [FS61_4_25, gotV]; done) | (simp [FS61_4_25, gotV]; omega)), fun h => absurd h (by decide)⟩ (Below.refl _ _)
      | 17, _ =>
       injection ho with ho
       subst ho
       clear hl
       simp only [fillA, List.take, List.drop, put_none, Act.put, List.setIfInBounds_toArray, List.set_cons_zero, List.set_cons_succ, Nat.reduceAdd]
       have f15 := hf 15 (by decide) (by kernel_rfl)
       generalize vals 15 = v15 at *
       subst f15
       have f16 := hf 16 (by decide) (by kernel_rfl)
       generalize vals 16 = v16 at *
       subst f16
       have f9 := hf 9 (by decide) (by kernel_rfl)
       generalize vals 9 = v9 at *
       subst f9
       clear hf
       go_wp2_with (fail)
       exact RQ.mk rfl ⟨(by first | rfl | (simp [FS61_4_25]; done) | (simp [FS61_4_25, *]; done) | (simp [FS61_4_25, gotV]; done) | (simp [FS61_4_25, gotV]; omega)), fun h => absurd h (by decide)⟩ (Below.refl _ _)
      | 18, _ =>
       injection ho with ho
       subst ho
       clear hl
       simp only [fillA, List.take, List.drop, put_none, Act.put, List.setIfInBounds_toArray, List.set_cons_zero, List.set_cons_succ, Nat.reduceAdd]
       have f17 := hf 17 (by decide) (by kernel_rfl)
       generalize vals 17 = v17 at *
       subst f17
       have f9 := hf 9 (by decide) (by kernel_rfl)
       generalize vals 9 = v9 at *
       subst f9
       clear hf
       have hc1 := cellOf hb1
       have hf1 := frozOf hb1
       have hz1 := sizeOf hb1
       try simp at hz1
       go_wp2_with (fail)
       exact RQ.mk rfl ⟨(by first | rfl | (simp [FS61_4_25]; done) | (simp [FS61_4_25, *]; done) | (simp [FS61_4_25, gotV]; done) | (simp [FS61_4_25, gotV]; omega)), fun h => absurd h (by decide)⟩ (Below.refl _ _)
      | 19, _ =>
       injection ho with ho
       subst ho
       clear hl
       simp only [fillA, List.take, List.drop, put_none, Act.put, List.setIfInBounds_toArray, List.set_cons_zero, List.set_cons_succ, Nat.reduceAdd]
       have f14 := hf 14 (by decide) (by kernel_rfl)
       generalize vals 14 = v14 at *
       subst f14
       have f18 := hf 18 (by decide) (by kernel_rfl)
       generalize vals 18 = v18 at *
       subst f18
       have f9 := hf 9 (by decide) (by kernel_rfl)
       generalize vals 9 = v9 at *
       subst f9
       clear hf
       go_wp2_with (fail)
       exact RQ.mk rfl ⟨(by first | rfl | (simp [FS61_4_25]; done) | (simp [FS61_4_25, *]; done) | (simp [FS61_4_25, gotV]; done) | (simp [FS61_4_25, gotV]; omega)), fun h => absurd h (by decide)⟩ (Below.refl _ _)
      | 20, _ =>
       injection ho with ho
       subst ho
       clear hl
       simp only [fillA, List.take, List.drop, put_none, Act.put, List.setIfInBounds_toArray, List.set_cons_zero, List.set_cons_succ, Nat.reduceAdd]
       have f9 := hf 9 (by decide) (by kernel_rfl)
       generalize vals 9 = v9 at *
       subst f9
       have f19 := hf 19 (by decide) (by kernel_rfl)
       generalize vals 19 = v19 at *
       subst f19
       have f6 := hf 6 (by decide) (by kernel_rfl)
       generalize vals 6 = v6 at *
       subst f6
       clear hf
       go_wp2_with (fail)
       exact RQ.mk rfl ⟨(by first | rfl | (simp [FS61_4_25]; done) | (simp [FS61_4_25, *]; done) | (simp [FS61_4_25, gotV]; done) | (simp [FS61_4_25, gotV]; omega)), fun h => absurd h (by decide)⟩ (Below.refl _ _)
      | 21, _ =>
       injection ho with ho
       subst ho
       clear hl
       simp only [fillA, List.take, List.drop, put_none, Act.put, List.setIfInBounds_toArray, List.set_cons_zero, List.set_cons_succ, Nat.reduceAdd]
       have f6 := hf 6 (by decide) (by kernel_rfl)
       generalize vals 6 = v6 at *
       subst f6
       have f20 := hf 20 (by decide) (by kernel_rfl)
       generalize vals 20 = v20 at *
       subst f20
       clear hf
       go_wp2_with (fail)
       exact RQ.mk rfl ⟨(by first | rfl | (simp [FS61_4_25]; done) | (simp [FS61_4_25, *]; done) | (simp [FS61_4_25, gotV]; done) | (simp [FS61_4_25, gotV]; omega)), fun h => absurd h (by decide)⟩ (Below.refl _ _)
      | m + 22, h => exact absurd h (by omega)
     ·intro vals w1 hb1 hf hd
      simp only [fillA, List.take, List.drop, put_none, Act.put, List.setIfInBounds_toArray, List.set_cons_zero, List.set_cons_succ, Nat.reduceAdd]
      clear hd
      have f0 := hf 0 (by decide)
      generalize vals 0 = v0 at *
      subst f0
      have f1 := hf 1 (by decide)
      generalize vals 1 = v1 at *
      subst f1
      have f2 := hf 2 (by decide)
      generalize vals 2 = v2 at *
      subst f2
      have f3 := hf 3 (by decide)
      generalize vals 3 = v3 at *
      subst f3
      have f4 := hf 4 (by decide)
      generalize vals 4 = v4 at *
      subst f4
      have f5 := hf 5 (by decide)
      generalize vals 5 = v5 at *
      subst f5
      have f6 := hf 6 (by decide)
      generalize vals 6 = v6 at *
      subst f6
      have f7 := hf 7 (by decide)
      generalize vals 7 = v7 at *
      subst f7
      have f8 := hf 8 (by decide)
      generalize vals 8 = v8 at *
      subst f8
      have f9 := hf 9 (by decide)
      generalize vals 9 = v9 at *
      subst f9
      have f10 := hf 10 (by decide)
      generalize vals 10 = v10 at *
      subst f10
      have f11 := hf 11 (by decide)
      generalize vals 11 = v11 at *
      subst f11
      have f12 := hf 12 (by decide)
      generalize vals 12 = v12 at *
      subst f12
      have f13 := hf 13 (by decide)
      generalize vals 13 = v13 at *
      subst f13
      have f14 := hf 14 (by decide)
      generalize vals 14 = v14 at *
      subst f14
      have f15 := hf 15 (by decide)
      generalize vals 15 = v15 at *
      subst f15
      have f16 := hf 16 (by decide)
      generalize vals 16 = v16 at *
      subst f16
      have f17 := hf 17 (by decide)
      generalize vals 17 = v17 at *
      subst f17
      have f18 := hf 18 (by decide)
      generalize vals 18 = v18 at *
      subst f18
      have f19 := hf 19 (by decide)
      generalize vals 19 = v19 at *
      subst f19
      have f20 := hf 20 (by decide)
      generalize vals 20 = v20 at *
      subst f20
      have f21 := hf 21 (by decide)
      generalize vals 21 = v21 at *
      subst f21
      clear hf
      have hc1 := cellOf hb1
      have hf1 := frozOf hb1
      have hz1 := sizeOf hb1
      try simp at hz1
      go_wp2_with (fail)
      go_roundw
      case rel =>
       refine ⟨k + 2, by omega, by omega, by go_num, fun j hj => ?_, ?_, ?_, ?_, by (repeat' (first | exact Below.refl _ _ | assumption | refine Below.setCell ?_ ?_ _ | refine Below.drew ?_ | refine Below.alloc ?_ ?_ _ | refine Below.trans ?_ (Below.mono (by assumption) ?_) | (simp; done) | (simp; omega) | omega))⟩
       ·rcases Nat.lt_or_ge j (k + 1) with h | h
        ·exact HL.out j h
        ·obtain rfl : j = k + 1 := by omega
         rw [HV.out, HG.out, H2.out]; rfl
       all_goals first | (simp [go_sem, ↓IntWalk.iteOmega, *]; done) | (simp [go_sem, ↓IntWalk.iteOmega, *]; omega) | omega
      case measure => simp [intOf]; omega
    ·have H2 : Hid (reqLe y x = false) := by show _ = _; simpa [reqLe] using hl2
     go_wp2_with (fail)
     refine wp_region_w (n := 22) [] [] (FS61_4_26 x y bx ox k rs.length capr w) rfl (by kernel_rfl) (fun _ _ d _ _ h => by cases d <;> exact h) ?_ ?_ ?_ ?_ ?_ ?_
     ·intro iq
      match iq with
      | 0 | 1 | 2 | 3 | 4 | 5 | 6 | 7 | 8 | 9 | 10 | 11 | 12 | 13 | 14 | 15 | 16 | 17 | 18 | 19 | 20 | 21 => exact Stable.const _
      | n + 22 => exact Stable.const _
     ·intro iq hi
      exact absurd hi (by simp)
     ·intro iq hi
      exact absurd hi (by simp)
     ·intro iq o hi hl ho vals w1 hb1 hf
      exact absurd hl (by simp)
     ·intro iq o hi hl ho vals w1 hb1 hf
      match iq, hi with
      | 0, _ =>
       injection ho with ho
       subst ho
       clear hl
       simp only [fillA, List.take, List.drop, put_none, Act.put, List.setIfInBounds_toArray, List.set_cons_zero, List.set_cons_succ, Nat.reduceAdd]
       clear hf
       go_wp2_with (fail)
       exact RQ.mk rfl ⟨(by first | rfl | (simp [FS61_4_26]; done) | (simp [FS61_4_26, *]; done) | (simp [FS61_4_26, gotV]; done) | (simp [FS61_4_26, gotV]; omega)), fun h => absurd h (by decide)⟩ (Below.refl _ _)
      | 1, _ =>
       injection ho with ho
       subst ho
       clear hl
       simp only [fillA, List.take, List.drop, put_none, Act.put, List.setIfInBounds_toArray, List.set_cons_zero, List.set_cons_succ, Nat.reduceAdd]
       clear hf
       go_wp2_with (fail)
       exact RQ.mk rfl ⟨(by first | rfl | (simp [FS61_4_26]; done) | (simp [FS61_4_26, *]; done) | (simp [FS61_4_26, gotV]; done) | (simp [FS61_4_26, gotV]; omega)), fun h => absurd h (by decide)⟩ (Below.refl _ _)
      | 2, _ =>
       injection ho with ho
       subst ho
       clear hl
       simp only [fillA, List.take, List.drop, put_none, Act.put, List.setIfInBounds_toArray, List.set_cons_zero, List.set_cons_succ, Nat.reduceAdd]
       have f0 := hf 0 (by decide) (by kernel_rfl)
       generalize vals 0 = v0 at *
       subst f0
       have f1 := hf 1 (by decide) (by kernel_rfl)
       generalize vals 1 = v1 at *
       subst f1
       clear hf
       go_wp2_with (fail)
       exact RQ.mk rfl ⟨(by first | rfl | (simp [FS61_4_26]; done) | (simp [FS61_4_26, *]; done) | (simp [FS61_4_26, gotV]; done) | (simp [FS61_4_26, gotV]; omega)), fun h => absurd h (by decide)⟩ (Below.refl _ _)
      | 3, _ =>
       injection ho with ho
       subst ho
       clear hl
       simp only [fillA, List.take, List.drop, put_none, Act.put, List.setIfInBounds_toArray, List.set_cons_zero, List.set_cons_succ, Nat.reduceAdd]
       have f2 := hf 2 (by decide) (by kernel_rfl)
       generalize vals 2 = v2 at *
       subst f2
       clear hf
       have hc1 := cellOf hb1
       have hf1 := frozOf hb1
       have hz1 := sizeOf hb1
       try simp at hz1
       go_wp2_with (fail)
       exact RQ.mk rfl ⟨(by first | rfl | (simp [FS61_4_26]; done) | (simp [FS61_4_26, *]; done) | (simp [FS61_4_26, gotV]; done) | (simp [FS61_4_26, gotV]; omega)), fun h => absurd h (by decide)⟩ (Below.refl _ _)
      | 4, _ =>
       injection ho with ho
       subst ho
       clear hl
       simp only [fillA, List.take, List.drop, put_none, Act.put, List.setIfInBounds_toArray, List.set_cons_zero, List.set_cons_succ, Nat.reduceAdd]
       have f3 := hf 3 (by decide) (by kernel_rfl)
       generalize vals 3 = v3 at *
       subst f3
       clear hf
       have hc1 := cellOf hb1
       have hf1 := frozOf hb1
       have hz1 := sizeOf hb1
       try simp at hz1
       go_wp2_with (first | (go_at_call 55; refine (c_spec_l8Minute _ _ ).mono ?_; rintro e w' ⟨rfl, hb⟩; have hc := cellOf hb; have hf := frozOf hb; have hz := sizeOf hb; try simp at hz))
       exact RQ.mk rfl ⟨(by first | rfl | (simp [FS61_4_26]; done) | (simp [FS61_4_26, *]; done) | (simp [FS61_4_26, gotV]; done) | (simp [FS61_4_26, gotV]; omega)), fun h => absurd h (by decide)⟩ (by (repeat' (first | exact Below.refl _ _ | assumption | refine Below.setCell ?_ ?_ _ | refine Below.drew ?_ | refine Below.alloc ?_ ?_ _ | refine Below.trans ?_ (Below.mono (by assumption) ?_) | (simp; done) | (simp; omega) | omega)))
      | 5, _ =>
       injection ho with ho
       subst ho
       clear hl
       simp only [fillA, List.take, List.drop, put_none, Act.put, List.setIfInBounds_toArray, List.set_cons_zero, List.set_cons_succ, Nat.reduceAdd]
       have f4 := hf 4 (by decide) (by kernel_rfl)
       generalize vals 4 = v4 at *
       subst f4
       clear hf
       go_wp2_with (fail)
       exact RQ.mk rfl ⟨(by first | rfl | (simp [FS61_4_26]; done) | (simp [FS61_4_26, *]; done) | (simp [FS61_4_26, gotV]; done) | (simp [FS61_4_26, gotV]; omega)), fun h => absurd h (by decide)⟩ (Below.refl _ _)
      | 6, _ =>
       injection ho with ho
       subst ho
       clear hl
       simp only [fillA, List.take, List.drop, put_none, Act.put, List.setIfInBounds_toArray, List.set_cons_zero, List.set_cons_succ, Nat.reduceAdd]
       have f5 := hf 5 (by decide) (by kernel_rfl)
       generalize vals 5 = v5 at *
       subst f5
       have f4 := hf 4 (by decide) (by kernel_rfl)
       generalize vals 4 = v4 at *
       subst f4
       clear hf
       go_wp2_with (fail)
       exact RQ.mk rfl ⟨(by first | rfl | (simp [FS61_4_26]; done) | (simp [FS61_4_26, *]; done) | (simp [FS61_4_26, gotV]; done) | (simp [FS61_4_26, gotV]; omega)), fun h => absurd h (by decide)⟩ (Below.refl _ _)
      | 7, _ =>
       injection ho with ho
       subst ho
       clear hl
       simp only [fillA, List.take, List.drop, put_none, Act.put, List.setIfInBounds_toArray, List.set_cons_zero, List.set_cons_succ, Nat.reduceAdd]
       have f6 := hf 6 (by decide) (by kernel_rfl)
       generalize vals 6 = v6 at *
       subst f6
       clear hf
       go_wp2_with (fail)
       exact RQ.mk rfl ⟨(by first | rfl | (simp [FS61_4_26]; done) | (simp [FS61_4_26, *]; done) | (simp [FS61_4_26, gotV]; done) | (simp [FS61_4_26, gotV]; omega)), fun h => absurd h (by decide)⟩ (Below.refl _ _)
      | 8, _ =>
       injection ho with ho
       subst ho
       clear hl
       simp only [fillA, List.take, List.drop, put_none, Act.put, List.setIfInBounds_toArray, List.set_cons_zero, List.set_cons_succ, Nat.reduceAdd]
       have f7 := hf 7 (by decide) (by kernel_rfl)
       generalize vals 7 = v7 at *
       subst f7
       have f6 := hf 6 (by decide) (by kernel_rfl)
       generalize vals 6 = v6 at *
       subst f6
       clear hf
       go_wp2_with (fail)
       exact RQ.mk rfl ⟨(by first | rfl | (simp [FS61_4_26]; done) | (simp [FS61_4_26, *]; done) | (simp [FS61_4_26, gotV]; done) | (simp [FS61_4_26, gotV]; omega)), fun h => absurd h (by decide)⟩ (Below.refl _ _)
      | 9, _ =>
       injection ho with ho
       subst ho
       clear hl
       simp only [fillA, List.take, List.drop, put_none, Act.put, List.setIfInBounds_toArray, List.set_cons_zero, List.set_cons_succ, Nat.reduceAdd]
       have f8 := hf 8 (by decide) (by kernel_rfl)
       generalize vals 8 = v8 at *
       subst f8
       have f6 := hf 6 (by decide) (by kernel_rfl)
       generalize vals 6 = v6 at *
       subst f6
       clear hf
       go_wp2_with (fail)
       exact RQ.mk rfl ⟨(by first | rfl | (simp [FS61_4_26]; done) | (simp [FS61_4_26, *]; done) | (simp [FS61_4_26, gotV]; done) | (simp [FS61_4_26, gotV]; omega)), fun h => absurd h (by decide)⟩ (Below.refl _ _)
      | 10, _ =>
       injection ho with ho
       subst ho
       clear hl
       simp only [fillA, List.take, List.drop, put_none, Act.put, List.setIfInBounds_toArray, List.set_cons_zero, List.set_cons_succ, Nat.reduceAdd]
       have f9 := hf 9 (by decide) (by kernel_rfl)
       generalize vals 9 = v9 at *
       subst f9
       clear hf
       go_wp2_with (fail)
       exact RQ.mk rfl ⟨(by first | rfl | (simp [FS61_4_26]; done) | (simp [FS61_4_26, *]; done) | (simp [FS61_4_26, gotV]; done) | (simp [FS61_4_26, gotV]; omega)), fun h => absurd h (by decide)⟩ (Below.refl _ _)
      | 11, _ =>
       injection ho with ho
       subst ho
       clear hl
       simp only [fillA, List.take, List.drop, put_none, Act.put, List.setIfInBounds_toArray, List.set_cons_zero, List.set_cons_succ, Nat.reduceAdd]
       have f9 := hf 9 (by decide) (by kernel_rfl)
       generalize vals 9 = v9 at *
       subst f9
       clear hf
       go_wp2_with (fail)
       exact RQ.mk rfl ⟨(by first | rfl | (simp [FS61_4_26]; done) | (simp [FS61_4_26, *]; done) | (simp [FS61_4_26, gotV]; done) | (simp [FS61_4_26, gotV]; omega)), fun h => absurd h (by decide)⟩ (Below.refl _ _)
      | 12, _ =>
       injection ho with ho
       subst ho
       clear hl
       simp only [fillA, List.take, List.drop, put_none, Act.put, List.setIfInBounds_toArray, List.set_cons_zero, List.set_cons_succ, Nat.reduceAdd]
       have f11 := hf 11 (by decide) (by kernel_rfl)
       generalize vals 11 = v11 at *
       subst f11
       have f9 := hf 9 (by decide) (by kernel_rfl)
       generalize vals 9 = v9 at *
       subst f9
       clear hf
       go_wp2_with (fail)
       exact RQ.mk rfl ⟨(by first | rfl | (simp [FS61_4_26]; done) | (simp [FS61_4_26, *]; done) | (simp [FS61_4_26, gotV]; done) | (simp [FS61_4_26, gotV]; omega)), fun h => absurd h (by decide)⟩ (Below.refl _ _)
      | 13, _ =>
       injection ho with ho
       subst ho
       clear hl
       simp only [fillA, List.take, List.drop, put_none, Act.put, List.setIfInBounds_toArray, List.set_cons_zero, List.set_cons_succ, Nat.reduceAdd]
       have f10 := hf 10 (by decide) (by kernel_rfl)
       generalize vals 10 = v10 at *
       subst f10
       have f12 := hf 12 (by decide) (by kernel_rfl)
       generalize vals 12 = v12 at *
       subst f12
       have f9 := hf 9 (by decide) (by kernel_rfl)
       generalize vals 9 = v9 at *
       subst f9
       clear hf
       go_wp2_with (fail)
       exact RQ.mk rfl ⟨(by first | rfl | (simp [FS61_4_26]; done) | (simp [FS61_4_26, *]; done) | (simp [FS61_4_26, gotV]; done) | (simp [FS61_4_26, gotV]; omega)), fun h => absurd h (by decide)⟩ (Below.refl _ _)
      | 14, _ =>
       injection ho with ho
       subst ho
       clear hl
       simp only [fillA, List.take, List.drop, put_none, Act.put, List.setIfInBounds_toArray, List.set_cons_zero, List.set_cons_succ, Nat.reduceAdd]
       have f13 := hf 13 (by decide) (by kernel_rfl)
       generalize vals 13 = v13 at *
       subst f13
       have f9 := hf 9 (by decide) (by kernel_rfl)
       generalize vals 9 = v9 at *
       subst f9
       clear hf
       have hc1 := cellOf hb1
       have hf1 := frozOf hb1
       have hz1 := sizeOf hb1
       try simp at hz1
       go_wp2_with (fail)
       exact RQ.mk rfl ⟨(by first | rfl | (simp [FS61_4_26]; done) | (simp [FS61_4_26, *]; done) | (simp [FS61_4_26, gotV]; done) | (simp [FS61_4_26, gotV]; omega)), fun h => absurd h (by decide)⟩ (Below.refl _ _)
      | 15, _ =>
       injection ho with ho
       subst ho
       clear hl
       simp only [fillA, List.take, List.drop, put_none, Act.put, List.setIfInBounds_toArray, List.set_cons_zero, List.set_cons_succ, Nat.reduceAdd]
       have f9 := hf 9 (by decide) (by kernel_rfl)
       generalize vals 9 = v9 at *
       subst f9
       clear hf
       go_wp2_with (fail)
       exact RQ.mk rfl ⟨(by first | rfl | (simp [FS61_4_26]; done) | (simp [FS61_4_26, *]; done) | (simp [FS61_4_26, gotV]; done) | (simp [FS61_4_26, gotV]; omega)), fun h => absurd h (by decide)⟩ (Below.refl _ _)
      | 16, _ =>
       injection ho with ho
       subst ho
       clear hl
       simp only [fillA, List.take, List.drop, put_none, Act.put, List.setIfInBounds_toArray, List.set_cons_zero, List.set_cons_succ, Nat.reduceAdd]
       have f9 := hf 9 (by decide) (by kernel_rfl)
       generalize vals 9 = v9 at *
       subst f9
       clear hf
       go_wp2_with (fail)
       exact RQ.mk rfl ⟨(by first | rfl | (simp [FS61_4_26]; done) | (simp [FS61_4_26, *]; done) | (simp [FS61_4_26, gotV]; done) | (simp [FS61_4_26, gotV]; omega)), fun h => absurd h (by decide)⟩ (Below.refl _ _)
      | 17, _ =>
       injection ho with ho
       subst ho
       clear hl
       simp only [fillA, List.take, List.drop, put_none, Act.put, List.setIfInBounds_toArray, List.set_cons_zero, List.set_cons_succ, Nat.reduceAdd]
       have f15 := hf 15 (by decide) (by kernel_rfl)
       generalize vals 15 = v15 at *
       subst f15
       have f16 := hf 16 (by decide) (by kernel_rfl)
       generalize vals 16 = v16 at *
       subst f16
       have f9 := hf 9 (by decide) (by kernel_rfl)
       generalize vals 9 = v9 at *
       subst f9
       clear hf
       go_wp2_with (fail)
       exact RQ.mk rfl ⟨(by first | rfl | (simp [FS61_4_26]; done) | (simp [FS61_4_26, *]; done) | (simp [FS61_4_26, gotV]; done) | (simp [FS61_4_26, gotV]; omega)), fun h => absurd h (by decide)⟩ (Below.refl _ _)
      | 18, _ =>
       injection ho with ho
       subst ho
       clear hl
       simp only [fillA, List.take, List.drop, put_none, Act.put, List.setIfInBounds_toArray, List.set_cons_zero, List.set_cons_succ, Nat.reduceAdd]
       have f17 := hf 17 (by decide) (by kernel_rfl)
       generalize vals 17 = v17 at *
       subst f17
       have f9 := hf 9 (by decide) (by kernel_rfl)
       generalize vals 9 = v9 at *
       subst f9
       clear hf
       have hc1 := cellOf hb1
       have hf1 := frozOf hb1
       have hz1 := sizeOf hb1
       try simp at hz1
       go_wp2_with (fail)
       exact RQ.mk rfl ⟨(by first | rfl | (simp [FS61_4_26]; done) | (simp [FS61_4_26, *]; done) | (simp [FS61_4_26, gotV]; done) | (simp [FS61_4_26, gotV]; omega)), fun h => absurd h (by decide)⟩ (Below.refl _ _)
      | 19, _ =>
       injection ho with ho
       subst ho
       clear hl
       simp only [fillA, List.take, List.drop, put_none, Act.put, List.setIfInBounds_toArray, List.set_cons_zero, List.set_cons_succ, Nat.reduceAdd]
       have f14 := hf 14 (by decide) (by kernel_rfl)
       generalize vals 14 = v14 at *
       subst f14
       have f18 := hf 18 (by decide) (by kernel_rfl)
       generalize vals 18 = v18 at *
       subst f18
       have f9 := hf 9 (by decide) (by kernel_rfl)
       generalize vals 9 = v9 at *
       subst f9
       clear hf
       go_wp2_with (fail)
       exact RQ.mk rfl ⟨(by first | rfl | (simp [FS61_4_26]; done) | (simp [FS61_4_26, *]; done) | (simp [FS61_4_26, gotV]; done) | (simp [FS61_4_26, gotV]; omega)), fun h => absurd h (by decide)⟩ (Below.refl _ _)
      | 20, _ =>
       injection ho with ho
       subst ho
       clear hl
       simp only [fillA, List.take, List.drop, put_none, Act.put, List.setIfInBounds_toArray, List.set_cons_zero, List.set_cons_succ, Nat.reduceAdd]
       have f9 := hf 9 (by decide) (by kernel_rfl)
       generalize vals 9 = v9 at *
       subst f9
       have f19 := hf 19 (by decide) (by kernel_rfl)
       generalize vals 19 = v19 at *
       subst f19
       have f6 := hf 6 (by decide) (by kernel_rfl)
       generalize vals 6 = v6 at *
       subst f6
       clear hf
       go_wp2_with (fail)
       exact RQ.mk rfl ⟨(by first | rfl | (simp [FS61_4_26]; done) | (simp [FS61_4_26, *]; done) | (simp [FS61_4_26, gotV]; done) | (simp [FS61_4_26, gotV]; omega)), fun h => absurd h (by decide)⟩ (Below.refl _ _)
      | 21, _ =>
       injection ho with ho
       subst ho
       clear hl
       simp only [fillA, List.take, List.drop, put_none, Act.put, List.setIfInBounds_toArray, List.set_cons_zero, List.set_cons_succ, Nat.reduceAdd]
       have f6 := hf 6 (by decide) (by kernel_rfl)
       generalize vals 6 = v6 at *
       subst f6
       have f20 := hf 20 (by decide) (by kernel_rfl)
       generalize vals 20 = v20 at *
       subst f20
       clear hf
       go_wp2_with (fail)
       exact RQ.mk rfl ⟨(by first | rfl | (simp [FS61_4_26]; done) | (simp [FS61_4_26, *]; done) | (simp [FS61_4_26, gotV]; done) | (simp [FS61_4_26, gotV]; omega)), fun h => absurd h (by decide)⟩ (Below.refl _ _)
      | m + 22, h => exact absurd h (by omega)
     ·intro vals w1 hb1 hf hd
      simp only [fillA, List.take, List.drop, put_none, Act.put, List.setIfInBounds_toArray, List.set_cons_zero, List.set_cons_succ, Nat.reduceAdd]
      clear hd
      have f0 := hf 0 (by decide)
      generalize vals 0 = v0 at *
      subst f0
      have f1 := hf 1 (by decide)
      generalize vals 1 = v1 at *
      subst f1
      have f2 := hf 2 (by decide)
      generalize vals 2 = v2 at *
      subst f2
      have f3 := hf 3 (by decide)
      generalize vals 3 = v3 at *
      subst f3
      have f4 := hf 4 (by decide)
      generalize vals 4 = v4 at *
      subst f4
      have f5 := hf 5 (by decide)
      generalize vals 5 = v5 at *
      subst f5
      have f6 := hf 6 (by decide)
      generalize vals 6 = v6 at *
      subst f6
      have f7 := hf 7 (by decide)
      generalize vals 7 = v7 at *
      subst f7
      have f8 := hf 8 (by decide)
      generalize vals 8 = v8 at *
      subst f8
      have f9 := hf 9 (by decide)
      generalize vals 9 = v9 at *
      subst f9
      have f10 := hf 10 (by decide)
      generalize vals 10 = v10 at *
      subst f10
      have f11 := hf 11 (by decide)
      generalize vals 11 = v11 at *
      subst f11
      have f12 := hf 12 (by decide)
      generalize vals 12 = v12 at *
      subst f12
      have f13 := hf 13 (by decide)
      generalize vals 13 = v13 at *
      subst f13
      have f14 := hf 14 (by decide)
      generalize vals 14 = v14 at *
      subst f14
      have f15 := hf 15 (by decide)
      generalize vals 15 = v15 at *
      subst f15
      have f16 := hf 16 (by decide)
      generalize vals 16 = v16 at *
      subst f16
      have f17 := hf 17 (by decide)
      generalize vals 17 = v17 at *
      subst f17
      have f18 := hf 18 (by decide)
      generalize vals 18 = v18 at *
      subst f18
      have f19 := hf 19 (by decide)
      generalize vals 19 = v19 at *
      subst f19
      have f20 := hf 20 (by decide)
      generalize vals 20 = v20 at *
      subst f20
      have f21 := hf 21 (by decide)
      generalize vals 21 = v21 at *
      subst f21
      clear hf
      have hc1 := cellOf hb1
      have hf1 := frozOf hb1
      have hz1 := sizeOf hb1
      try simp at hz1
      go_wp2_with (fail)
      go_ret
      exact ⟨ret_bool (by rw [HB.out (by rw [HV.out, HG.out, H2.out]; rfl)]), by (repeat' (first | exact Below.refl _ _ | assumption | refine Below.setCell ?_ ?_ _ | refine Below.drew ?_ | refine Below.alloc ?_ ?_ _ | refine Below.trans ?_ (Below.mono (by assumption) ?_) | (simp; done) | (simp; omega) | omega))⟩
  ·by_cases hle : k < rs.length
   ·have HD := hid (reqB_no2 (d := d) (xs := xs) (rs := rs) (p := p) (by omega))
    clear hl
    go_wp2_with (first | (go_at_call 50; refine (c_spec_l15Good _ _ _ _ _ (by first | assumption | exact Rds.below hx (by (repeat' (first | exact Below.refl _ _ | assumption | refine Below.setCell ?_ ?_ _ | refine Below.drew ?_ | refine Below.alloc ?_ ?_ _ | refine Below.trans ?_ (Below.mono (by assumption) ?_) | (simp; done) | (simp; omega) | omega)))) (by omega)).mono ?_; rintro e w' ⟨rfl, hb⟩; have hc := cellOf hb; have hf := frozOf hb; have hz := sizeOf hb; try simp at hz) | (go_at_call 81; refine (c_spec_l1In _ _ _ _ ).mono ?_; rintro e w' ⟨rfl, hb⟩; have hc := cellOf hb; have hf := frozOf hb; have hz := sizeOf hb; try simp at hz))
    all_goals go_ret
    all_goals exact ⟨ret_bool (by first | (rw [HD.out]; done) | (rw [HD.out]; simp [*]; done) | (rw [HD.out]; simp [*]; omega)), by (repeat' (first | exact Below.refl _ _ | assumption | refine Below.setCell ?_ ?_ _ | refine Below.drew ?_ | refine Below.alloc ?_ ?_ _ | refine Below.trans ?_ (Below.mono (by assumption) ?_) | (simp; done) | (simp; omega) | omega))⟩
   ·obtain rfl : k = rs.length := by omega
    have HD := hid (show reqB d xs rs p = (brB d xs && decide (rs.length ≤ 8) && inB p 0 120) by rw [reqB, vB_all (good := minB) (lt := reqLe) (n := 8) hl])
    clear hl
    go_wp2_with (first | (go_at_call 50; refine (c_spec_l15Good _ _ _ _ _ (by first | assumption | exact Rds.below hx (by (repeat' (first | exact Below.refl _ _ | assumption | refine Below.setCell ?_ ?_ _ | refine Below.drew ?_ | refine Below.alloc ?_ ?_ _ | refine Below.trans ?_ (Below.mono (by assumption) ?_) | (simp; done) | (simp; omega) | omega)))) (by omega)).mono ?_; rintro e w' ⟨rfl, hb⟩; have hc := cellOf hb; have hf := frozOf hb; have hz := sizeOf hb; try simp at hz) | (go_at_call 81; refine (c_spec_l1In _ _ _ _ ).mono ?_; rintro e w' ⟨rfl, hb⟩; have hc := cellOf hb; have hf := frozOf hb; have hz := sizeOf hb; try simp at hz))
    all_goals go_ret
    all_goals exact ⟨ret_bool (by first | (rw [HD.out]; done) | (rw [HD.out]; simp [*]; done) | (rw [HD.out]; simp [*]; omega)), by (repeat' (first | exact Below.refl _ _ | assumption | refine Below.setCell ?_ ?_ _ | refine Below.drew ?_ | refine Below.alloc ?_ ?_ _ | refine Below.trans ?_ (Below.mono (by assumption) ?_) | (simp; done) | (simp; omega) | omega))⟩

end Go.Proofs.Yteciijnpfapmhaa
namespace Go.Proofs.Yteciijnpfapmhaa
set_option linter.unusedSimpArgs false
set_option linter.unusedVariables false
open Go.RowKit

def FS56_6 (d t : Int) (x : Int × Int) (bx ox k n0 cap : Nat) (w W0 : World) (iq : Nat) (v : Value) (w1 : World) : Prop := match iq with
 | 0 => v = .int .i64 (t)
 | 1 => v = .pointer (some ⟨w.heap.size, 1, none⟩)
 | 2 => v = .slice (some ⟨bx, ox, none⟩) n0 cap
 | 3 => v = .int .i64 (k)
 | 4 => v = .pointer (some ⟨bx, ox + k * 2, none⟩)
 | 5 => v = .pointer (some ⟨bx, ox + k * 2 + 1, none⟩)
 | 6 => v = .int .i64 (x.2)
 | 7 => v = .bool (false)
 | 8 => v = .bool (false)
 | 9 => v = undef
 | 10 => v = undef
 | 11 => v = undef
 | 12 => v = undef
 | 13 => v = undef
 | 14 => v = undef
 | 15 => v = undef
 | 16 => v = undef
 | 17 => v = undef
 | 18 => v = undef
 | 19 => v = undef
 | 20 => v = undef
 | 21 => v = .bool (false)
 | _ => True

def FS56_6_12 (d t : Int) (x : Int × Int) (bx ox k n0 cap : Nat) (w W0 : World) (iq : Nat) (v : Value) (w1 : World) : Prop := match iq with
 | 0 => v = .int .i64 (t)
 | 1 => v = .pointer (some ⟨w.heap.size, 1, none⟩)
 | 2 => v = .slice (some ⟨bx, ox, none⟩) n0 cap
 | 3 => v = .int .i64 (k)
 | 4 => v = .pointer (some ⟨bx, ox + k * 2, none⟩)
 | 5 => v = .pointer (some ⟨bx, ox + k * 2 + 1, none⟩)
 | 6 => v = .int .i64 (x.2)
 | 7 => v = .bool (true)
 | 8 => v = .bool (true)
 | 9 => v = .pointer (some ⟨w.heap.size, 1, none⟩)
 | 10 => v = .slice (some ⟨bx, ox, none⟩) n0 cap
 | 11 => v = .int .i64 (k)
 | 12 => v = .pointer (some ⟨bx, ox + k * 2, none⟩)
 | 13 => v = .pointer (some ⟨bx, ox + k * 2, none⟩)
 | 14 => v = .int .i64 (x.1)
 | 15 => v = .int .i64 (t)
 | 16 => v = .pointer (some ⟨w.heap.size, 0, none⟩)
 | 17 => v = .int .i64 (d)
 | 18 => v = .int .i64 (t + d)
 | 19 => v = .int .i64 ((t + d) - 1)
 | 20 => v = .bool (false)
 | 21 => v = .bool (false)
 | _ => True

def FS56_6_13 (d t : Int) (x : Int × Int) (bx ox k n0 cap : Nat) (w W0 : World) (iq : Nat) (v : Value) (w1 : World) : Prop := match iq with
 | 0 => v = .int .i64 (t)
 | 1 => v = .pointer (some ⟨w.heap.size, 1, none⟩)
 | 2 => v = .slice (some ⟨bx, ox, none⟩) n0 cap
 | 3 => v = .int .i64 (k)
 | 4 => v = .pointer (some ⟨bx, ox + k * 2, none⟩)
 | 5 => v = .pointer (some ⟨bx, ox + k * 2 + 1, none⟩)
 | 6 => v = .int .i64 (x.2)
 | 7 => v = .bool (true)
 | 8 => v = .bool (true)
 | 9 => v = .pointer (some ⟨w.heap.size, 1, none⟩)
 | 10 => v = .slice (some ⟨bx, ox, none⟩) n0 cap
 | 11 => v = .int .i64 (k)
 | 12 => v = .pointer (some ⟨bx, ox + k * 2, none⟩)
 | 13 => v = .pointer (some ⟨bx, ox + k * 2, none⟩)
 | 14 => v = .int .i64 (x.1)
 | 15 => v = .int .i64 (t)
 | 16 => v = .pointer (some ⟨w.heap.size, 0, none⟩)
 | 17 => v = .int .i64 (d)
 | 18 => v = .int .i64 (t + d)
 | 19 => v = .int .i64 ((t + d) - 1)
 | 20 => v = .bool (true)
 | 21 => v = .bool (true)
 | _ => True

set_option maxRecDepth 100000 in
set_option maxHeartbeats 4000000 in
theorem c_spec_l15May (d : Int) (A : Option Addr) (xs : List (Int × Int)) (n cap : Nat) (t : Int) (w : World) (hx : Rds cIv 2 w A xs) (hxl : xs.length = n) (hn : xs.length ≤ 9223372036854775807) (hok : ∀ k (hk : k < xs.length), ivP xs[k]) (hd : 1 ≤ d ∧ d ≤ 30) :
  Calls Try.prog 56 #[.agg #[.int .i64 d, .slice A n cap], .int .i64 t] w fun e w' => e = .returned (.bool (mayB d xs t)) ∧ Below w.heap.size w w' := by
 subst hxl
 by_cases hs0 : 0 ≤ t
 rotate_left
 ·have HV := hid (show mayB d xs t = false by simp [mayB, hs0])
  go_enter Try.func56, Try.ntmps56
  go_wp2_with (fail)
  all_goals go_ret
  all_goals exact ⟨by first | (rw [HV.out]; done) | (rw [HV.out]; rfl), by (repeat' (first | exact Below.refl _ _ | assumption | refine Below.setCell ?_ ?_ _ | refine Below.drew ?_ | refine Below.alloc ?_ ?_ _ | refine Below.trans ?_ (Below.mono (by assumption) ?_) | (simp; done) | (simp; omega) | omega))⟩
 by_cases hs1 : t + d ≤ 10000
 rotate_left
 ·have HV := hid (show mayB d xs t = false by simp [mayB, hs1])
  go_enter Try.func56, Try.ntmps56
  go_wp2_with (fail)
  all_goals go_ret
  all_goals exact ⟨by first | (rw [HV.out]; done) | (rw [HV.out]; rfl), by (repeat' (first | exact Below.refl _ _ | assumption | refine Below.setCell ?_ ?_ _ | refine Below.drew ?_ | refine Below.alloc ?_ ?_ _ | refine Below.trans ?_ (Below.mono (by assumption) ?_) | (simp; done) | (simp; omega) | omega))⟩
 go_enter Try.func56, Try.ntmps56
 go_wp2_with (fail)
 go_loopw [5] (fun p wr => ∃ k : Nat, k ≤ xs.length ∧ p = .int .i64 k ∧ (xs.take k).any (hitI t d) = false ∧ wr.cell? ⟨w.heap.size, 0, none⟩ = some (.int .i64 d) ∧ wr.cell? ⟨w.heap.size, 1, none⟩ = some (.slice A xs.length cap) ∧ w.heap.size + 1 ≤ wr.heap.size ∧ Below w.heap.size w wr) (fun p _ => xs.length - (intOf p).toNat)
 case atStart =>
  refine ⟨0, Nat.zero_le _, rfl, rfl, ?_, ?_, ?_, by (repeat' (first | exact Below.refl _ _ | assumption | refine Below.setCell ?_ ?_ _ | refine Below.drew ?_ | refine Below.alloc ?_ ?_ _ | refine Below.trans ?_ (Below.mono (by assumption) ?_) | (simp; done) | (simp; omega) | omega))⟩
  all_goals first | (simp [go_sem, ↓IntWalk.iteOmega, *]; done) | (simp at *; omega)
 case round =>
  obtain ⟨k, hk, rfl, hme, hp0, hp1, hzz, hbr⟩ := hrel
  have hc := cellOf hbr
  have hf := frozOf hbr
  have hz := sizeOf hbr
  have HM := hid hme
  clear hme
  by_cases hlt : k < xs.length
  ·obtain ⟨bx, ox, rfl, hbx, hcx⟩ := hx k xs[k] (List.getElem?_eq_getElem hlt)
   have hp0' : far wr w.heap.size 0 = _ := hp0
   have hp1' : far wr w.heap.size 1 = _ := hp1
   have hx0 := hcx 0 _ rfl
   have hx1 := hcx 1 _ rfl
   simp only [Nat.add_zero] at hx0
   have hxb := hok k hlt
   unfold ivP at hxb
   have HS := hid (any_snoc (hitI t d) xs k hlt)
   have HT := hid (fun e => any_hit (p := hitI t d) hlt e)
   clear hcx hx hok
   generalize xs[k] = x at *
   by_cases h1 : t ≤ x.2
   rotate_left
   ·have HN := hid (show hitI t d x = false by simp [hitI, h1])
    clear HT
    go_wp2_with (fail)
    refine wp_region_w (n := 22) [] [] (FS56_6 d t x bx ox k xs.length cap w) rfl (by kernel_rfl) (fun _ _ d _ _ h => by cases d <;> exact h) ?_ ?_ ?_ ?_ ?_ ?_
    ·intro iq
     match iq with
     | 0 | 1 | 2 | 3 | 4 | 5 | 6 | 7 | 8 | 9 | 10 | 11 | 12 | 13 | 14 | 15 | 16 | 17 | 18 | 19 | 20 | 21 => exact Stable.const _
     | n + 22 => exact Stable.const _
    ·intro iq hi
     exact absurd hi (by simp)
    ·intro iq hi
     exact absurd hi (by simp)
    ·intro iq o hi hl ho vals w1 hb1 hf
     exact absurd hl (by simp)
    ·intro iq o hi hl ho vals w1 hb1 hf
     match iq, hi with
     | 0, _ =>
      injection ho with ho
      subst ho
      clear hl
      simp only [fillA, List.take, List.drop, put_none, Act.put, List.setIfInBounds_toArray, List.set_cons_zero, List.set_cons_succ, Nat.reduceAdd]
      clear hf
      go_wp2_with (fail)
      exact RQ.mk rfl ⟨(by first | rfl | (simp [FS56_6]; done) | (simp [FS56_6, *]; done) | (simp [FS56_6, gotV]; done) | (simp [FS56_6, gotV]; omega)), fun h => absurd h (by decide)⟩ (Below.refl _ _)
     | 1, _ =>
      injection ho with ho
      subst ho
      clear hl
      simp only [fillA, List.take, List.drop, put_none, Act.put, List.setIfInBounds_toArray, List.set_cons_zero, List.set_cons_succ, Nat.reduceAdd]
      clear hf
      go_wp2_with (fail)
      exact RQ.mk rfl ⟨(by first | rfl | (simp [FS56_6]; done) | (simp [FS56_6, *]; done) | (simp [FS56_6, gotV]; done) | (simp [FS56_6, gotV]; omega)), fun h => absurd h (by decide)⟩ (Below.refl _ _)
     | 2, _ =>
      injection ho with ho
      subst ho
      clear hl
      simp only [fillA, List.take, List.drop, put_none, Act.put, List.setIfInBounds_toArray, List.set_cons_zero, List.set_cons_succ, Nat.reduceAdd]
      have f1 := hf 1 (by decide) (by kernel_rfl)
      generalize vals 1 = v1 at *
      subst f1
      clear hf
      have hc1 := cellOf hb1
      have hf1 := frozOf hb1
      have hz1 := sizeOf hb1
      try simp at hz1
      go_wp2_with (fail)
      exact RQ.mk rfl ⟨(by first | rfl | (simp [FS56_6]; done) | (simp [FS56_6, *]; done) | (simp [FS56_6, gotV]; done) | (simp [FS56_6, gotV]; omega)), fun h => absurd h (by decide)⟩ (Below.refl _ _)
     | 3, _ =>
      injection ho with ho
      subst ho
      clear hl
      simp only [fillA, List.take, List.drop, put_none, Act.put, List.setIfInBounds_toArray, List.set_cons_zero, List.set_cons_succ, Nat.reduceAdd]
      clear hf
      go_wp2_with (fail)
      exact RQ.mk rfl ⟨(by first | rfl | (simp [FS56_6]; done) | (simp [FS56_6, *]; done) | (simp [FS56_6, gotV]; done) | (simp [FS56_6, gotV]; omega)), fun h => absurd h (by decide)⟩ (Below.refl _ _)
     | 4, _ =>
      injection ho with ho
      subst ho
      clear hl
      simp only [fillA, List.take, List.drop, put_none, Act.put, List.setIfInBounds_toArray, List.set_cons_zero, List.set_cons_succ, Nat.reduceAdd]
      have f2 := hf 2 (by decide) (by kernel_rfl)
      generalize vals 2 = v2 at *
      subst f2
      have f3 := hf 3 (by decide) (by kernel_rfl)
      generalize vals 3 = v3 at *
      subst f3
      clear hf
      go_wp2_with (fail)
      exact RQ.mk rfl ⟨(by first | rfl | (simp [FS56_6]; done) | (simp [FS56_6, *]; done) | (simp [FS56_6, gotV]; done) | (simp [FS56_6, gotV]; omega)), fun h => absurd h (by decide)⟩ (Below.refl _ _)
     | 5, _ =>
      injection ho with ho
      subst ho
      clear hl
      simp only [fillA, List.take, List.drop, put_none, Act.put, List.setIfInBounds_toArray, List.set_cons_zero, List.set_cons_succ, Nat.reduceAdd]
      have f4 := hf 4 (by decide) (by kernel_rfl)
      generalize vals 4 = v4 at *
      subst f4
      clear hf
      go_wp2_with (fail)
      exact RQ.mk rfl ⟨(by first | rfl | (simp [FS56_6]; done) | (simp [FS56_6, *]; done) | (simp [FS56_6, gotV]; done) | (simp [FS56_6, gotV]; omega)), fun h => absurd h (by decide)⟩ (Below.refl _ _)
     | 6, _ =>
      injection ho with ho
      subst ho
      clear hl
      simp only [fillA, List.take, List.drop, put_none, Act.put, List.setIfInBounds_toArray, List.set_cons_zero, List.set_cons_succ, Nat.reduceAdd]
      have f5 := hf 5 (by decide) (by kernel_rfl)
      generalize vals 5 = v5 at *
      subst f5
      clear hf
      have hc1 := cellOf hb1
      have hf1 := frozOf hb1
      have hz1 := sizeOf hb1
      try simp at hz1
      go_wp2_with (fail)
      exact RQ.mk rfl ⟨(by first | rfl | (simp [FS56_6]; done) | (simp [FS56_6, *]; done) | (simp [FS56_6, gotV]; done) | (simp [FS56_6, gotV]; omega)), fun h => absurd h (by decide)⟩ (Below.refl _ _)
     | 7, _ =>
      injection ho with ho
      subst ho
      clear hl
      simp only [fillA, List.take, List.drop, put_none, Act.put, List.setIfInBounds_toArray, List.set_cons_zero, List.set_cons_succ, Nat.reduceAdd]
      have f0 := hf 0 (by decide) (by kernel_rfl)
      generalize vals 0 = v0 at *
      subst f0
      have f6 := hf 6 (by decide) (by kernel_rfl)
      generalize vals 6 = v6 at *
      subst f6
      clear hf
      go_wp2_with (fail)
      exact RQ.mk rfl ⟨(by first | rfl | (simp [FS56_6]; done) | (simp [FS56_6, *]; done) | (simp [FS56_6, gotV]; done) | (simp [FS56_6, gotV]; omega)), fun h => absurd h (by decide)⟩ (Below.refl _ _)
     | 8, _ =>
      injection ho with ho
      subst ho
      clear hl
      simp only [fillA, List.take, List.drop, put_none, Act.put, List.setIfInBounds_toArray, List.set_cons_zero, List.set_cons_succ, Nat.reduceAdd]
      have f7 := hf 7 (by decide) (by kernel_rfl)
      generalize vals 7 = v7 at *
      subst f7
      clear hf
      go_wp2_with (fail)
      exact RQ.mk rfl ⟨(by first | rfl | (simp [FS56_6]; done) | (simp [FS56_6, *]; done) | (simp [FS56_6, gotV]; done) | (simp [FS56_6, gotV]; omega)), fun h => absurd h (by decide)⟩ (Below.refl _ _)
     | 9, _ =>
      injection ho with ho
      subst ho
      clear hl
      simp only [fillA, List.take, List.drop, put_none, Act.put, List.setIfInBounds_toArray, List.set_cons_zero, List.set_cons_succ, Nat.reduceAdd]
      have f8 := hf 8 (by decide) (by kernel_rfl)
      generalize vals 8 = v8 at *
      subst f8
      clear hf
      go_wp2_with (fail)
      exact RQ.mk rfl ⟨(by first | rfl | (simp [FS56_6]; done) | (simp [FS56_6, *]; done) | (simp [FS56_6, gotV]; done) | (simp [FS56_6, gotV]; omega)), fun h => absurd h (by decide)⟩ (Below.refl _ _)
     | 10, _ =>
      injection ho with ho
      subst ho
      clear hl
      simp only [fillA, List.take, List.drop, put_none, Act.put, List.setIfInBounds_toArray, List.set_cons_zero, List.set_cons_succ, Nat.reduceAdd]
      have f9 := hf 9 (by decide) (by kernel_rfl)
      generalize vals 9 = v9 at *
      subst f9
      have f8 := hf 8 (by decide) (by kernel_rfl)
      generalize vals 8 = v8 at *
      subst f8
      clear hf
      go_wp2_with (fail)
      exact RQ.mk rfl ⟨(by first | rfl | (simp [FS56_6]; done) | (simp [FS56_6, *]; done) | (simp [FS56_6, gotV]; done) | (simp [FS56_6, gotV]; omega)), fun h => absurd h (by decide)⟩ (Below.refl _ _)
     | 11, _ =>
      injection ho with ho
      subst ho
      clear hl
      simp only [fillA, List.take, List.drop, put_none, Act.put, List.setIfInBounds_toArray, List.set_cons_zero, List.set_cons_succ, Nat.reduceAdd]
      have f8 := hf 8 (by decide) (by kernel_rfl)
      generalize vals 8 = v8 at *
      subst f8
      clear hf
      go_wp2_with (fail)
      exact RQ.mk rfl ⟨(by first | rfl | (simp [FS56_6]; done) | (simp [FS56_6, *]; done) | (simp [FS56_6, gotV]; done) | (simp [FS56_6, gotV]; omega)), fun h => absurd h (by decide)⟩ (Below.refl _ _)
     | 12, _ =>
      injection ho with ho
      subst ho
      clear hl
      simp only [fillA, List.take, List.drop, put_none, Act.put, List.setIfInBounds_toArray, List.set_cons_zero, List.set_cons_succ, Nat.reduceAdd]
      have f10 := hf 10 (by decide) (by kernel_rfl)
      generalize vals 10 = v10 at *
      subst f10
      have f11 := hf 11 (by decide) (by kernel_rfl)
      generalize vals 11 = v11 at *
      subst f11
      have f8 := hf 8 (by decide) (by kernel_rfl)
      generalize vals 8 = v8 at *
      subst f8
      clear hf
      go_wp2_with (fail)
      exact RQ.mk rfl ⟨(by first | rfl | (simp [FS56_6]; done) | (simp [FS56_6, *]; done) | (simp [FS56_6, gotV]; done) | (simp [FS56_6, gotV]; omega)), fun h => absurd h (by decide)⟩ (Below.refl _ _)
     | 13, _ =>
      injection ho with ho
      subst ho
      clear hl
      simp only [fillA, List.take, List.drop, put_none, Act.put, List.setIfInBounds_toArray, List.set_cons_zero, List.set_cons_succ, Nat.reduceAdd]
      have f12 := hf 12 (by decide) (by kernel_rfl)
      generalize vals 12 = v12 at *
      subst f12
      have f8 := hf 8 (by decide) (by kernel_rfl)
      generalize vals 8 = v8 at *
      subst f8
      clear hf
      go_wp2_with (fail)
      exact RQ.mk rfl ⟨(by first | rfl | (simp [FS56_6]; done) | (simp [FS56_6, *]; done) | (simp [FS56_6, gotV]; done) | (simp [FS56_6, gotV]; omega)), fun h => absurd h (by decide)⟩ (Below.refl _ _)
     | 14, _ =>
      injection ho with ho
      subst ho
      clear hl
      simp only [fillA, List.take, List.drop, put_none, Act.put, List.setIfInBounds_toArray, List.set_cons_zero, List.set_cons_succ, Nat.reduceAdd]
      have f13 := hf 13 (by decide) (by kernel_rfl)
      generalize vals 13 = v13 at *
      subst f13
      have f8 := hf 8 (by decide) (by kernel_rfl)
      generalize vals 8 = v8 at *
      subst f8
      clear hf
      go_wp2_with (fail)
      exact RQ.mk rfl ⟨(by first | rfl | (simp [FS56_6]; done) | (simp [FS56_6, *]; done) | (simp [FS56_6, gotV]; done) | (simp [FS56_6, gotV]; omega)), fun h => absurd h (by decide)⟩ (Below.refl _ _)
     | 15, _ =>
      injection ho with ho
      subst ho
      clear hl
      simp only [fillA, List.take, List.drop, put_none, Act.put, List.setIfInBounds_toArray, List.set_cons_zero, List.set_cons_succ, Nat.reduceAdd]
      have f8 := hf 8 (by decide) (by kernel_rfl)
      generalize vals 8 = v8 at *
      subst f8
      clear hf
      go_wp2_with (fail)
      exact RQ.mk rfl ⟨(by first | rfl | (simp [FS56_6]; done) | (simp [FS56_6, *]; done) | (simp [FS56_6, gotV]; done) | (simp [FS56_6, gotV]; omega)), fun h => absurd h (by decide)⟩ (Below.refl _ _)
     | 16, _ =>
      injection ho with ho
      subst ho
      clear hl
      simp only [fillA, List.take, List.drop, put_none, Act.put, List.setIfInBounds_toArray, List.set_cons_zero, List.set_cons_succ, Nat.reduceAdd]
      have f8 := hf 8 (by decide) (by kernel_rfl)
      generalize vals 8 = v8 at *
      subst f8
      clear hf
      go_wp2_with (fail)
      exact RQ.mk rfl ⟨(by first | rfl | (simp [FS56_6]; done) | (simp [FS56_6, *]; done) | (simp [FS56_6, gotV]; done) | (simp [FS56_6, gotV]; omega)), fun h => absurd h (by decide)⟩ (Below.refl _ _)
     | 17, _ =>
      injection ho with ho
      subst ho
      clear hl
      simp only [fillA, List.take, List.drop, put_none, Act.put, List.setIfInBounds_toArray, List.set_cons_zero, List.set_cons_succ, Nat.reduceAdd]
      have f16 := hf 16 (by decide) (by kernel_rfl)
      generalize vals 16 = v16 at *
      subst f16
      have f8 := hf 8 (by decide) (by kernel_rfl)
      generalize vals 8 = v8 at *
      subst f8
      clear hf
      go_wp2_with (fail)
      exact RQ.mk rfl ⟨(by first | rfl | (simp [FS56_6]; done) | (simp [FS56_6, *]; done) | (simp [FS56_6, gotV]; done) | (simp [FS56_6, gotV]; omega)), fun h => absurd h (by decide)⟩ (Below.refl _ _)
     | 18, _ =>
      injection ho with ho
      subst ho
      clear hl
      simp only [fillA, List.take, List.drop, put_none, Act.put, List.setIfInBounds_toArray, List.set_cons_zero, List.set_cons_succ, Nat.reduceAdd]
      have f15 := hf 15 (by decide) (by kernel_rfl)
      generalize vals 15 = v15 at *
      subst f15
      have f17 := hf 17 (by decide) (by kernel_rfl)
      generalize vals 17 = v17 at *
      subst f17
      have f8 := hf 8 (by decide) (by kernel_rfl)
      generalize vals 8 = v8 at *
      subst f8
      clear hf
      go_wp2_with (fail)
      exact RQ.mk rfl ⟨(by first | rfl | (simp [FS56_6]; done) | (simp [FS56_6, *]; done) | (simp [FS56_6, gotV]; done) | (simp [FS56_6, gotV]; omega)), fun h => absurd h (by decide)⟩ (Below.refl _ _)
     | 19, _ =>
      injection ho with ho
      subst ho
      clear hl
      simp only [fillA, List.take, List.drop, put_none, Act.put, List.setIfInBounds_toArray, List.set_cons_zero, List.set_cons_succ, Nat.reduceAdd]
      have f18 := hf 18 (by decide) (by kernel_rfl)
      generalize vals 18 = v18 at *
      subst f18
      have f8 := hf 8 (by decide) (by kernel_rfl)
      generalize vals 8 = v8 at *
      subst f8
      clear hf
      go_wp2_with (fail)
      exact RQ.mk rfl ⟨(by first | rfl | (simp [FS56_6]; done) | (simp [FS56_6, *]; done) | (simp [FS56_6, gotV]; done) | (simp [FS56_6, gotV]; omega)), fun h => absurd h (by decide)⟩ (Below.refl _ _)
     | 20, _ =>
      injection ho with ho
      subst ho
      clear hl
      simp only [fillA, List.take, List.drop, put_none, Act.put, List.setIfInBounds_toArray, List.set_cons_zero, List.set_cons_succ, Nat.reduceAdd]
      have f14 := hf 14 (by decide) (by kernel_rfl)
      generalize vals 14 = v14 at *
      subst f14
      have f19 := hf 19 (by decide) (by kernel_rfl)
      generalize vals 19 = v19 at *
      subst f19
      have f8 := hf 8 (by decide) (by kernel_rfl)
      generalize vals 8 = v8 at *
      subst f8
      clear hf
      go_wp2_with (fail)
      exact RQ.mk rfl ⟨(by first | rfl | (simp [FS56_6]; done) | (simp [FS56_6, *]; done) | (simp [FS56_6, gotV]; done) | (simp [FS56_6, gotV]; omega)), fun h => absurd h (by decide)⟩ (Below.refl _ _)
     | 21, _ =>
      injection ho with ho
      subst ho
      clear hl
      simp only [fillA, List.take, List.drop, put_none, Act.put, List.setIfInBounds_toArray, List.set_cons_zero, List.set_cons_succ, Nat.reduceAdd]
      have f8 := hf 8 (by decide) (by kernel_rfl)
      generalize vals 8 = v8 at *
      subst f8
      have f20 := hf 20 (by decide) (by kernel_rfl)
      generalize vals 20 = v20 at *
      subst f20
      clear hf
      go_wp2_with (fail)
      exact RQ.mk rfl ⟨(by first | rfl | (simp [FS56_6]; done) | (simp [FS56_6, *]; done) | (simp [FS56_6, gotV]; done) | (simp [FS56_6, gotV]; omega)), fun h => absurd h (by decide)⟩ (Below.refl _ _)
     | m + 22, h => exact absurd h (by omega)
    ·intro vals w1 hb1 hf hd
     simp only [fillA, List.take, List.drop, put_none, Act.put, List.setIfInBounds_toArray, List.set_cons_zero, List.set_cons_succ, Nat.reduceAdd]
     clear hd
     have f0 := hf 0 (by decide)
     generalize vals 0 = v0 at *
     subst f0
     have f1 := hf 1 (by decide)
     generalize vals 1 = v1 at *
     subst f1
     have f2 := hf 2 (by decide)
     generalize vals 2 = v2 at *
     subst f2
     have f3 := hf 3 (by decide)
     generalize vals 3 = v3 at *
     subst f3
     have f4 := hf 4 (by decide)
     generalize vals 4 = v4 at *
     subst f4
     have f5 := hf 5 (by decide)
     generalize vals 5 = v5 at *
     subst f5
     have f6 := hf 6 (by decide)
     generalize vals 6 = v6 at *
     subst f6
     have f7 := hf 7 (by decide)
     generalize vals 7 = v7 at *
     subst f7
     have f8 := hf 8 (by decide)
     generalize vals 8 = v8 at *
     subst f8
     have f9 := hf 9 (by decide)
     generalize vals 9 = v9 at *
     subst f9
     have f10 := hf 10 (by decide)
     generalize vals 10 = v10 at *
     subst f10
     have f11 := hf 11 (by decide)
     generalize vals 11 = v11 at *
     subst f11
     have f12 := hf 12 (by decide)
     generalize vals 12 = v12 at *
     subst f12
     have f13 := hf 13 (by decide)
     generalize vals 13 = v13 at *
     subst f13
     have f14 := hf 14 (by decide)
     generalize vals 14 = v14 at *
     subst f14
     have f15 := hf 15 (by decide)
     generalize vals 15 = v15 at *
     subst f15
     have f16 := hf 16 (by decide)
     generalize vals 16 = v16 at *
     subst f16
     have f17 := hf 17 (by decide)
     generalize vals 17 = v17 at *
     subst f17
     have f18 := hf 18 (by decide)
     generalize vals 18 = v18 at *
     subst f18
     have f19 := hf 19 (by decide)
     generalize vals 19 = v19 at *
     subst f19
     have f20 := hf 20 (by decide)
     generalize vals 20 = v20 at *
     subst f20
     have f21 := hf 21 (by decide)
     generalize vals 21 = v21 at *
     subst f21
     clear hf
     have hc1 := cellOf hb1
     have hf1 := frozOf hb1
     have hz1 := sizeOf hb1
     try simp at hz1
     go_wp2_with (fail)
     go_roundw
     case rel =>
      refine ⟨k + 1, by omega, by go_num, by rw [HS.out, HM.out, HN.out]; rfl, ?_, ?_, ?_, by (repeat' (first | exact Below.refl _ _ | assumption | refine Below.setCell ?_ ?_ _ | refine Below.drew ?_ | refine Below.alloc ?_ ?_ _ | refine Below.trans ?_ (Below.mono (by assumption) ?_) | (simp; done) | (simp; omega) | omega))⟩
      all_goals first | (simp [go_sem, ↓IntWalk.iteOmega, *]; done) | omega | (simp [go_sem, ↓IntWalk.iteOmega, *]; omega)
     case measure => simp [intOf]; omega
   by_cases h2 : x.1 ≤ t + d - 1
   rotate_left
   ·have HN := hid (show hitI t d x = false by simp [hitI, h2])
    clear HT
    go_wp2_with (fail)
    refine wp_region_w (n := 22) [] [] (FS56_6_12 d t x bx ox k xs.length cap w) rfl (by kernel_rfl) (fun _ _ d _ _ h => by cases d <;> exact h) ?_ ?_ ?_ ?_ ?_ ?_
    ·intro iq
     match iq with
     | 0 | 1 | 2 | 3 | 4 | 5 | 6 | 7 | 8 | 9 | 10 | 11 | 12 | 13 | 14 | 15 | 16 | 17 | 18 | 19 | 20 | 21 => exact Stable.const _
     | n + 22 => exact Stable.const _
    ·intro iq hi
     exact absurd hi (by simp)
    ·intro iq hi
     exact absurd hi (by simp)
    ·intro iq o hi hl ho vals w1 hb1 hf
     exact absurd hl (by simp)
    ·intro iq o hi hl ho vals w1 hb1 hf
     match iq, hi with
     | 0, _ =>
      injection ho with ho
      subst ho
      clear hl
      simp only [fillA, List.take, List.drop, put_none, Act.put, List.setIfInBounds_toArray, List.set_cons_zero, List.set_cons_succ, Nat.reduceAdd]
      clear hf
      go_wp2_with (fail)
      exact RQ.mk rfl ⟨(by first | rfl | (simp [FS56_6_12]; done) | (simp [FS56_6_12, *]; done) | (simp [FS56_6_12, gotV]; done) | (simp [FS56_6_12, gotV]; omega)), fun h => absurd h (by decide)⟩ (Below.refl _ _)
     | 1, _ =>
      injection ho with ho
      subst ho
      clear hl
      simp only [fillA, List.take, List.drop, put_none, Act.put, List.setIfInBounds_toArray, List.set_cons_zero, List.set_cons_succ, Nat.reduceAdd]
      clear hf
      go_wp2_with (fail)
      exact RQ.mk rfl ⟨(by first | rfl | (simp [FS56_6_12]; done) | (simp [FS56_6_12, *]; done) | (simp [FS56_6_12, gotV]; done) | (simp [FS56_6_12, gotV]; omega)), fun h => absurd h (by decide)⟩ (Below.refl _ _)
     | 2, _ =>
      injection ho with ho
      subst ho
      clear hl
      simp only [fillA, List.take, List.drop, put_none, Act.put, List.setIfInBounds_toArray, List.set_cons_zero, List.set_cons_succ, Nat.reduceAdd]
      have f1 := hf 1 (by decide) (by kernel_rfl)
      generalize vals 1 = v1 at *
      subst f1
      clear hf
      have hc1 := cellOf hb1
      have hf1 := frozOf hb1
      have hz1 := sizeOf hb1
      try simp at hz1
      go_wp2_with (fail)
      exact RQ.mk rfl ⟨(by first | rfl | (simp [FS56_6_12]; done) | (simp [FS56_6_12, *]; done) | (simp [FS56_6_12, gotV]; done) | (simp [FS56_6_12, gotV]; omega)), fun h => absurd h (by decide)⟩ (Below.refl _ _)
     | 3, _ =>
      injection ho with ho
      subst ho
      clear hl
      simp only [fillA, List.take, List.drop, put_none, Act.put, List.setIfInBounds_toArray, List.set_cons_zero, List.set_cons_succ, Nat.reduceAdd]
      clear hf
      go_wp2_with (fail)
      exact RQ.mk rfl ⟨(by first | rfl | (simp [FS56_6_12]; done) | (simp [FS56_6_12, *]; done) | (simp [FS56_6_12, gotV]; done) | (simp [FS56_6_12, gotV]; omega)), fun h => absurd h (by decide)⟩ (Below.refl _ _)
     | 4, _ =>
      injection ho with ho
      subst ho
      clear hl
      simp only [fillA, List.take, List.drop, put_none, Act.put, List.setIfInBounds_toArray, List.set_cons_zero, List.set_cons_succ, Nat.reduceAdd]
      have f2 := hf 2 (by decide) (by kernel_rfl)
      generalize vals 2 = v2 at *
      subst f2
      have f3 := hf 3 (by decide) (by kernel_rfl)
      generalize vals 3 = v3 at *
      subst f3
      clear hf
      go_wp2_with (fail)
      exact RQ.mk rfl ⟨(by first | rfl | (simp [FS56_6_12]; done) | (simp [FS56_6_12, *]; done) | (simp [FS56_6_12, gotV]; done) | (simp [FS56_6_12, gotV]; omega)), fun h => absurd h (by decide)⟩ (Below.refl _ _)
     | 5, _ =>
      injection ho with ho
      subst ho
      clear hl
      simp only [fillA, List.take, List.drop, put_none, Act.put, List.setIfInBounds_toArray, List.set_cons_zero, List.set_cons_succ, Nat.reduceAdd]
      have f4 := hf 4 (by decide) (by kernel_rfl)
      generalize vals 4 = v4 at *
      subst f4
      clear hf
      go_wp2_with (fail)
      exact RQ.mk rfl ⟨(by first | rfl | (simp [FS56_6_12]; done) | (simp [FS56_6_12, *]; done) | (simp [FS56_6_12, gotV]; done) | (simp [FS56_6_12, gotV]; omega)), fun h => absurd h (by decide)⟩ (Below.refl _ _)
     | 6, _ =>
      injection ho with ho
      subst ho
      clear hl
      simp only [fillA, List.take, List.drop, put_none, Act.put, List.setIfInBounds_toArray, List.set_cons_zero, List.set_cons_succ, Nat.reduceAdd]
      have f5 := hf 5 (by decide) (by kernel_rfl)
      generalize vals 5 = v5 at *
      subst f5
      clear hf
      have hc1 := cellOf hb1
      have hf1 := frozOf hb1
      have hz1 := sizeOf hb1
      try simp at hz1
      go_wp2_with (fail)
      exact RQ.mk rfl ⟨(by first | rfl | (simp [FS56_6_12]; done) | (simp [FS56_6_12, *]; done) | (simp [FS56_6_12, gotV]; done) | (simp [FS56_6_12, gotV]; omega)), fun h => absurd h (by decide)⟩ (Below.refl _ _)
     | 7, _ =>
      injection ho with ho
      subst ho
      clear hl
      simp only [fillA, List.take, List.drop, put_none, Act.put, List.setIfInBounds_toArray, List.set_cons_zero, List.set_cons_succ, Nat.reduceAdd]
      have f0 := hf 0 (by decide) (by kernel_rfl)
      generalize vals 0 = v0 at *
      subst f0
      have f6 := hf 6 (by decide) (by kernel_rfl)
      generalize vals 6 = v6 at *
      subst f6
      clear hf
      go_wp2_with (fail)
      exact RQ.mk rfl ⟨(by first | rfl | (simp [FS56_6_12]; done) | (simp [FS56_6_12, *]; done) | (simp [FS56_6_12, gotV]; done) | (simp [FS56_6_12, gotV]; omega)), fun h => absurd h (by decide)⟩ (Below.refl _ _)
     | 8, _ =>
      injection ho with ho
      subst ho
      clear hl
      simp only [fillA, List.take, List.drop, put_none, Act.put, List.setIfInBounds_toArray, List.set_cons_zero, List.set_cons_succ, Nat.reduceAdd]
      have f7 := hf 7 (by decide) (by kernel_rfl)
      generalize vals 7 = v7 at *
      subst f7
      clear hf
      go_wp2_with (fail)
      exact RQ.mk rfl ⟨(by first | rfl | (simp [FS56_6_12]; done) | (simp [FS56_6_12, *]; done) | (simp [FS56_6_12, gotV]; done) | (simp [FS56_6_12, gotV]; omega)), fun h => absurd h (by decide)⟩ (Below.refl _ _)
     | 9, _ =>
      injection ho with ho
      subst ho
      clear hl
      simp only [fillA, List.take, List.drop, put_none, Act.put, List.setIfInBounds_toArray, List.set_cons_zero, List.set_cons_succ, Nat.reduceAdd]
      have f8 := hf 8 (by decide) (by kernel_rfl)
      generalize vals 8 = v8 at *
      subst f8
      clear hf
      go_wp2_with (fail)
      exact RQ.mk rfl ⟨(by first | rfl | (simp [FS56_6_12]; done) | (simp [FS56_6_12, *]; done) | (simp [FS56_6_12, gotV]; done) | (simp [FS56_6_12, gotV]; omega)), fun h => absurd h (by decide)⟩ (Below.refl _ _)
     | 10, _ =>
      injection ho with ho
      subst ho
      clear hl
      simp only [fillA, List.take, List.drop, put_none, Act.put, List.setIfInBounds_toArray, List.set_cons_zero, List.set_cons_succ, Nat.reduceAdd]
      have f9 := hf 9 (by decide) (by kernel_rfl)
      generalize vals 9 = v9 at *
      subst f9
      have f8 := hf 8 (by decide) (by kernel_rfl)
      generalize vals 8 = v8 at *
      subst f8
      clear hf
      have hc1 := cellOf hb1
      have hf1 := frozOf hb1
      have hz1 := sizeOf hb1
      try simp at hz1
      go_wp2_with (fail)
      exact RQ.mk rfl ⟨(by first | rfl | (simp [FS56_6_12]; done) | (simp [FS56_6_12, *]; done) | (simp [FS56_6_12, gotV]; done) | (simp [FS56_6_12, gotV]; omega)), fun h => absurd h (by decide)⟩ (Below.refl _ _)
     | 11, _ =>
      injection ho with ho
      subst ho
      clear hl
      simp only [fillA, List.take, List.drop, put_none, Act.put, List.setIfInBounds_toArray, List.set_cons_zero, List.set_cons_succ, Nat.reduceAdd]
      have f8 := hf 8 (by decide) (by kernel_rfl)
      generalize vals 8 = v8 at *
      subst f8
      clear hf
      go_wp2_with (fail)
      exact RQ.mk rfl ⟨(by first | rfl | (simp [FS56_6_12]; done) | (simp [FS56_6_12, *]; done) | (simp [FS56_6_12, gotV]; done) | (simp [FS56_6_12, gotV]; omega)), fun h => absurd h (by decide)⟩ (Below.refl _ _)
     | 12, _ =>
      injection ho with ho
      subst ho
      clear hl
      simp only [fillA, List.take, List.drop, put_none, Act.put, List.setIfInBounds_toArray, List.set_cons_zero, List.set_cons_succ, Nat.reduceAdd]
      have f10 := hf 10 (by decide) (by kernel_rfl)
      generalize vals 10 = v10 at *
      subst f10
      have f11 := hf 11 (by decide) (by kernel_rfl)
      generalize vals 11 = v11 at *
      subst f11
      have f8 := hf 8 (by decide) (by kernel_rfl)
      generalize vals 8 = v8 at *
      subst f8
      clear hf
      go_wp2_with (fail)
      exact RQ.mk rfl ⟨(by first | rfl | (simp [FS56_6_12]; done) | (simp [FS56_6_12, *]; done) | (simp [FS56_6_12, gotV]; done) | (simp [FS56_6_12, gotV]; omega)), fun h => absurd h (by decide)⟩ (Below.refl _ _)
     | 13, _ =>
      injection ho with ho
      subst ho
      clear hl
      simp only [fillA, List.take, List.drop, put_none, Act.put, List.setIfInBounds_toArray, List.set_cons_zero, List.set_cons_succ, Nat.reduceAdd]
      have f12 := hf 12 (by decide) (by kernel_rfl)
      generalize vals 12 = v12 at *
      subst f12
      have f8 := hf 8 (by decide) (by kernel_rfl)
      generalize vals 8 = v8 at *
      subst f8
      clear hf
      go_wp2_with (fail)
      exact RQ.mk rfl ⟨(by first | rfl | (simp [FS56_6_12]; done) | (simp [FS56_6_12, *]; done) | (simp [FS56_6_12, gotV]; done) | (simp [FS56_6_12, gotV]; omega)), fun h => absurd h (by decide)⟩ (Below.refl _ _)
     | 14, _ =>
      injection ho with ho
      subst ho
      clear hl
      simp only [fillA, List.take, List.drop, put_none, Act.put, List.setIfInBounds_toArray, List.set_cons_zero, List.set_cons_succ, Nat.reduceAdd]
      have f13 := hf 13 (by decide) (by kernel_rfl)
      generalize vals 13 = v13 at *
      subst f13
      have f8 := hf 8 (by decide) (by kernel_rfl)
      generalize vals 8 = v8 at *
      subst f8
      clear hf
      have hc1 := cellOf hb1
      have hf1 := frozOf hb1
      have hz1 := sizeOf hb1
      try simp at hz1
      go_wp2_with (fail)
      exact RQ.mk rfl ⟨(by first | rfl | (simp [FS56_6_12]; done) | (simp [FS56_6_12, *]; done) | (simp [FS56_6_12, gotV]; done) | (simp [FS56_6_12, gotV]; omega)), fun h => absurd h (by decide)⟩ (Below.refl _ _)
     | 15, _ =>
      injection ho with ho
      subst ho
      clear hl
      simp only [fillA, List.take, List.drop, put_none, Act.put, List.setIfInBounds_toArray, List.set_cons_zero, List.set_cons_succ, Nat.reduceAdd]
      have f8 := hf 8 (by decide) (by kernel_rfl)
      generalize vals 8 = v8 at *
      subst f8
      clear hf
      go_wp2_with (fail)
      exact RQ.mk rfl ⟨(by first | rfl | (simp [FS56_6_12]; done) | (simp [FS56_6_12, *]; done) | (simp [FS56_6_12, gotV]; done) | (simp [FS56_6_12, gotV]; omega)), fun h => absurd h (by decide)⟩ (Below.refl _ _)
     | 16, _ =>
      injection ho with ho
      subst ho
      clear hl
      simp only [fillA, List.take, List.drop, put_none, Act.put, List.setIfInBounds_toArray, List.set_cons_zero, List.set_cons_succ, Nat.reduceAdd]
      have f8 := hf 8 (by decide) (by kernel_rfl)
      generalize vals 8 = v8 at *
      subst f8
      clear hf
      go_wp2_with (fail)
      exact RQ.mk rfl ⟨(by first | rfl | (simp [FS56_6_12]; done) | (simp [FS56_6_12, *]; done) | (simp [FS56_6_12, gotV]; done) | (simp [FS56_6_12, gotV]; omega)), fun h => absurd h (by decide)⟩ (Below.refl _ _)
     | 17, _ =>
      injection ho with ho
      subst ho
      clear hl
      simp only [fillA, List.take, List.drop, put_none, Act.put, List.setIfInBounds_toArray, List.set_cons_zero, List.set_cons_succ, Nat.reduceAdd]
      have f16 := hf 16 (by decide) (by kernel_rfl)
      generalize vals 16 = v16 at *
      subst f16
      have f8 := hf 8 (by decide) (by kernel_rfl)
      generalize vals 8 = v8 at *
      subst f8
      clear hf
      have hc1 := cellOf hb1
      have hf1 := frozOf hb1
      have hz1 := sizeOf hb1
      try simp at hz1
      go_wp2_with (fail)
      exact RQ.mk rfl ⟨(by first | rfl | (simp [FS56_6_12]; done) | (simp [FS56_6_12, *]; done) | (simp [FS56_6_12, gotV]; done) | (simp [FS56_6_12, gotV]; omega)), fun h => absurd h (by decide)⟩ (Below.refl _ _)
     | 18, _ =>
      injection ho with ho
      subst ho
      clear hl
      simp only [fillA, List.take, List.drop, put_none, Act.put, List.setIfInBounds_toArray, List.set_cons_zero, List.set_cons_succ, Nat.reduceAdd]
      have f15 := hf 15 (by decide) (by kernel_rfl)
      generalize vals 15 = v15 at *
      subst f15
      have f17 := hf 17 (by decide) (by kernel_rfl)
      generalize vals 17 = v17 at *
      subst f17
      have f8 := hf 8 (by decide) (by kernel_rfl)
      generalize vals 8 = v8 at *
      subst f8
      clear hf
      go_wp2_with (fail)
      exact RQ.mk rfl ⟨(by first | rfl | (simp [FS56_6_12]; done) | (simp [FS56_6_12, *]; done) | (simp [FS56_6_12, gotV]; done) | (simp [FS56_6_12, gotV]; omega)), fun h => absurd h (by decide)⟩ (Below.refl _ _)
     | 19, _ =>
      injection ho with ho
      subst ho
      clear hl
      simp only [fillA, List.take, List.drop, put_none, Act.put, List.setIfInBounds_toArray, List.set_cons_zero, List.set_cons_succ, Nat.reduceAdd]
      have f18 := hf 18 (by decide) (by kernel_rfl)
      generalize vals 18 = v18 at *
      subst f18
      have f8 := hf 8 (by decide) (by kernel_rfl)
      generalize vals 8 = v8 at *
      subst f8
      clear hf
      go_wp2_with (fail)
      exact RQ.mk rfl ⟨(by first | rfl | (simp [FS56_6_12]; done) | (simp [FS56_6_12, *]; done) | (simp [FS56_6_12, gotV]; done) | (simp [FS56_6_12, gotV]; omega)), fun h => absurd h (by decide)⟩ (Below.refl _ _)
     | 20, _ =>
      injection ho with ho
      subst ho
      clear hl
      simp only [fillA, List.take, List.drop, put_none, Act.put, List.setIfInBounds_toArray, List.set_cons_zero, List.set_cons_succ, Nat.reduceAdd]
      have f14 := hf 14 (by decide) (by kernel_rfl)
      generalize vals 14 = v14 at *
      subst f14
      have f19 := hf 19 (by decide) (by kernel_rfl)
      generalize vals 19 = v19 at *
      subst f19
      have f8 := hf 8 (by decide) (by kernel_rfl)
      generalize vals 8 = v8 at *
      subst f8
      clear hf
      go_wp2_with (fail)
      exact RQ.mk rfl ⟨(by first | rfl | (simp [FS56_6_12]; done) | (simp [FS56_6_12, *]; done) | (simp [FS56_6_12, gotV]; done) | (simp [FS56_6_12, gotV]; omega)), fun h => absurd h (by decide)⟩ (Below.refl _ _)
     | 21, _ =>
      injection ho with ho
      subst ho
      clear hl
      simp only [fillA, List.take, List.drop, put_none, Act.put, List.setIfInBounds_toArray, List.set_cons_zero, List.set_cons_succ, Nat.reduceAdd]
      have f8 := hf 8 (by decide) (by kernel_rfl)
      generalize vals 8 = v8 at *
      subst f8
      have f20 := hf 20 (by decide) (by kernel_rfl)
      generalize vals 20 = v20 at *
      subst f20
      clear hf
      go_wp2_with (fail)
      exact RQ.mk rfl ⟨(by first | rfl | (simp [FS56_6_12]; done) | (simp [FS56_6_12, *]; done) | (simp [FS56_6_12, gotV]; done) | (simp [FS56_6_12, gotV]; omega)), fun h => absurd h (by decide)⟩ (Below.refl _ _)
     | m + 22, h => exact absurd h (by omega)
    ·intro vals w1 hb1 hf hd
     simp only [fillA, List.take, List.drop, put_none, Act.put, List.setIfInBounds_toArray, List.set_cons_zero, List.set_cons_succ, Nat.reduceAdd]
     clear hd
     have f0 := hf 0 (by decide)
     generalize vals 0 = v0 at *
     subst f0
     have f1 := hf 1 (by decide)
     generalize vals 1 = v1 at *
     subst f1
     have f2 := hf 2 (by decide)
     generalize vals 2 = v2 at *
     subst f2
     have f3 := hf 3 (by decide)
     generalize vals 3 = v3 at *
     subst f3
     have f4 := hf 4 (by decide)
     generalize vals 4 = v4 at *
     subst f4
     have f5 := hf 5 (by decide)
     generalize vals 5 = v5 at *
     subst f5
     have f6 := hf 6 (by decide)
     generalize vals 6 = v6 at *
     subst f6
     have f7 := hf 7 (by decide)
     generalize vals 7 = v7 at *
     subst f7
     have f8 := hf 8 (by decide)
     generalize vals 8 = v8 at *
     subst f8
     have f9 := hf 9 (by decide)
     generalize vals 9 = v9 at *
     subst f9
     have f10 := hf 10 (by decide)
     generalize vals 10 = v10 at *
     subst f10
     have f11 := hf 11 (by decide)
     generalize vals 11 = v11 at *
     subst f11
     have f12 := hf 12 (by decide)
     generalize vals 12 = v12 at *
     subst f12
     have f13 := hf 13 (by decide)
     generalize vals 13 = v13 at *
     subst f13
     have f14 := hf 14 (by decide)
     generalize vals 14 = v14 at *
     subst f14
     have f15 := hf 15 (by decide)
     generalize vals 15 = v15 at *
     subst f15
     have f16 := hf 16 (by decide)
     generalize vals 16 = v16 at *
     subst f16
     have f17 := hf 17 (by decide)
     generalize vals 17 = v17 at *
     subst f17
     have f18 := hf 18 (by decide)
     generalize vals 18 = v18 at *
     subst f18
     have f19 := hf 19 (by decide)
     generalize vals 19 = v19 at *
     subst f19
     have f20 := hf 20 (by decide)
     generalize vals 20 = v20 at *
     subst f20
     have f21 := hf 21 (by decide)
     generalize vals 21 = v21 at *
     subst f21
     clear hf
     have hc1 := cellOf hb1
     have hf1 := frozOf hb1
     have hz1 := sizeOf hb1
     try simp at hz1
     go_wp2_with (fail)
     go_roundw
     case rel =>
      refine ⟨k + 1, by omega, by go_num, by rw [HS.out, HM.out, HN.out]; rfl, ?_, ?_, ?_, by (repeat' (first | exact Below.refl _ _ | assumption | refine Below.setCell ?_ ?_ _ | refine Below.drew ?_ | refine Below.alloc ?_ ?_ _ | refine Below.trans ?_ (Below.mono (by assumption) ?_) | (simp; done) | (simp; omega) | omega))⟩
      all_goals first | (simp [go_sem, ↓IntWalk.iteOmega, *]; done) | omega | (simp [go_sem, ↓IntWalk.iteOmega, *]; omega)
     case measure => simp [intOf]; omega
   have HV := hid (show mayB d xs t = false by unfold mayB; rw [HT.out (by simp [hitI, h1, h2])]; simp)
   clear HT
   go_wp2_with (fail)
   refine wp_region_w (n := 22) [] [] (FS56_6_13 d t x bx ox k xs.length cap w) rfl (by kernel_rfl) (fun _ _ d _ _ h => by cases d <;> exact h) ?_ ?_ ?_ ?_ ?_ ?_
   ·intro iq
    match iq with
    | 0 | 1 | 2 | 3 | 4 | 5 | 6 | 7 | 8 | 9 | 10 | 11 | 12 | 13 | 14 | 15 | 16 | 17 | 18 | 19 | 20 | 21 => exact Stable.const _
    | n + 22 => exact Stable.const _
   ·intro iq hi
    exact absurd hi (by simp)
   ·intro iq hi
    exact absurd hi (by simp)
   ·intro iq o hi hl ho vals w1 hb1 hf
    exact absurd hl (by simp)
   ·intro iq o hi hl ho vals w1 hb1 hf
    match iq, hi with
    | 0, _ =>
     injection ho with ho
     subst ho
     clear hl
     simp only [fillA, List.take, List.drop, put_none, Act.put, List.setIfInBounds_toArray, List.set_cons_zero, List.set_cons_succ, Nat.reduceAdd]
     clear hf
     go_wp2_with (fail)
     exact RQ.mk rfl ⟨(by first | rfl | (simp [FS56_6_13]; done) | (simp [FS56_6_13, *]; done) | (simp [FS56_6_13, gotV]; done) | (simp [FS56_6_13, gotV]; omega)), fun h => absurd h (by decide)⟩ (Below.refl _ _)
    | 1, _ =>
     injection ho with ho
     subst ho
     clear hl
     simp only [fillA, List.take, List.drop, put_none, Act.put, List.setIfInBounds_toArray, List.set_cons_zero, List.set_cons_succ, Nat.reduceAdd]
     clear hf
     go_wp2_with (fail)
     exact RQ.mk rfl ⟨(by first | rfl | (simp [FS56_6_13]; done) | (simp [FS56_6_13, *]; done) | (simp [FS56_6_13, gotV]; done) | (simp [FS56_6_13, gotV]; omega)), fun h => absurd h (by decide)⟩ (Below.refl _ _)
    | 2, _ =>
     injection ho with ho
     subst ho
     clear hl
     simp only [fillA, List.take, List.drop, put_none, Act.put, List.setIfInBounds_toArray, List.set_cons_zero, List.set_cons_succ, Nat.reduceAdd]
     have f1 := hf 1 (by decide) (by kernel_rfl)
     generalize vals 1 = v1 at *
     subst f1
     clear hf
     have hc1 := cellOf hb1
     have hf1 := frozOf hb1
     have hz1 := sizeOf hb1
     try simp at hz1
     go_wp2_with (fail)
     exact RQ.mk rfl ⟨(by first | rfl | (simp [FS56_6_13]; done) | (simp [FS56_6_13, *]; done) | (simp [FS56_6_13, gotV]; done) | (simp [FS56_6_13, gotV]; omega)), fun h => absurd h (by decide)⟩ (Below.refl _ _)
    | 3, _ =>
     injection ho with ho
     subst ho
     clear hl
     simp only [fillA, List.take, List.drop, put_none, Act.put, List.setIfInBounds_toArray, List.set_cons_zero, List.set_cons_succ, Nat.reduceAdd]
     clear hf
     go_wp2_with (fail)
     exact RQ.mk rfl ⟨(by first | rfl | (simp [FS56_6_13]; done) | (simp [FS56_6_13, *]; done) | (simp [FS56_6_13, gotV]; done) | (simp [FS56_6_13, gotV]; omega)), fun h => absurd h (by decide)⟩ (Below.refl _ _)
    | 4, _ =>
     injection ho with ho
     subst ho
     clear hl
     simp only [fillA, List.take, List.drop, put_none, Act.put, List.setIfInBounds_toArray, List.set_cons_zero, List.set_cons_succ, Nat.reduceAdd]
     have f2 := hf 2 (by decide) (by kernel_rfl)
     generalize vals 2 = v2 at *
     subst f2
     have f3 := hf 3 (by decide) (by kernel_rfl)
     generalize vals 3 = v3 at *
     subst f3
     clear hf
     go_wp2_with (fail)
     exact RQ.mk rfl ⟨(by first | rfl | (simp [FS56_6_13]; done) | (simp [FS56_6_13, *]; done) | (simp [FS56_6_13, gotV]; done) | (simp [FS56_6_13, gotV]; omega)), fun h => absurd h (by decide)⟩ (Below.refl _ _)
    | 5, _ =>
     injection ho with ho
     subst ho
     clear hl
     simp only [fillA, List.take, List.drop, put_none, Act.put, List.setIfInBounds_toArray, List.set_cons_zero, List.set_cons_succ, Nat.reduceAdd]
     have f4 := hf 4 (by decide) (by kernel_rfl)
     generalize vals 4 = v4 at *
     subst f4
     clear hf
     go_wp2_with (fail)
     exact RQ.mk rfl ⟨(by first | rfl | (simp [FS56_6_13]; done) | (simp [FS56_6_13, *]; done) | (simp [FS56_6_13, gotV]; done) | (simp [FS56_6_13, gotV]; omega)), fun h => absurd h (by decide)⟩ (Below.refl _ _)
    | 6, _ =>
     injection ho with ho
     subst ho
     clear hl
     simp only [fillA, List.take, List.drop, put_none, Act.put, List.setIfInBounds_toArray, List.set_cons_zero, List.set_cons_succ, Nat.reduceAdd]
     have f5 := hf 5 (by decide) (by kernel_rfl)
     generalize vals 5 = v5 at *
     subst f5
     clear hf
     have hc1 := cellOf hb1
     have hf1 := frozOf hb1
     have hz1 := sizeOf hb1
     try simp at hz1
     go_wp2_with (fail)
     exact RQ.mk rfl ⟨(by first | rfl | (simp [FS56_6_13]; done) | (simp [FS56_6_13, *]; done) | (simp [FS56_6_13, gotV]; done) | (simp [FS56_6_13, gotV]; omega)), fun h => absurd h (by decide)⟩ (Below.refl _ _)
    | 7, _ =>
     injection ho with ho
     subst ho
     clear hl
     simp only [fillA, List.take, List.drop, put_none, Act.put, List.setIfInBounds_toArray, List.set_cons_zero, List.set_cons_succ, Nat.reduceAdd]
     have f0 := hf 0 (by decide) (by kernel_rfl)
     generalize vals 0 = v0 at *
     subst f0
     have f6 := hf 6 (by decide) (by kernel_rfl)
     generalize vals 6 = v6 at *
     subst f6
     clear hf
     go_wp2_with (fail)
     exact RQ.mk rfl ⟨(by first | rfl | (simp [FS56_6_13]; done) | (simp [FS56_6_13, *]; done) | (simp [FS56_6_13, gotV]; done) | (simp [FS56_6_13, gotV]; omega)), fun h => absurd h (by decide)⟩ (Below.refl _ _)
    | 8, _ =>
     injection ho with ho
     subst ho
     clear hl
     simp only [fillA, List.take, List.drop, put_none, Act.put, List.setIfInBounds_toArray, List.set_cons_zero, List.set_cons_succ, Nat.reduceAdd]
     have f7 := hf 7 (by decide) (by kernel_rfl)
     generalize vals 7 = v7 at *
     subst f7
     clear hf
     go_wp2_with (fail)
     exact RQ.mk rfl ⟨(by first | rfl | (simp [FS56_6_13]; done) | (simp [FS56_6_13, *]; done) | (simp [FS56_6_13, gotV]; done) | (simp [FS56_6_13, gotV]; omega)), fun h => absurd h (by decide)⟩ (Below.refl _ _)
    | 9, _ =>
     injection ho with ho
     subst ho
     clear hl
     simp only [fillA, List.take, List.drop, put_none, Act.put, List.setIfInBounds_toArray, List.set_cons_zero, List.set_cons_succ, Nat.reduceAdd]
     have f8 := hf 8 (by decide) (by kernel_rfl)
     generalize vals 8 = v8 at *
     subst f8
     clear hf
     go_wp2_with (fail)
     exact RQ.mk rfl ⟨(by first | rfl | (simp [FS56_6_13]; done) | (simp [FS56_6_13, *]; done) | (simp [FS56_6_13, gotV]; done) | (simp [FS56_6_13, gotV]; omega)), fun h => absurd h (by decide)⟩ (Below.refl _ _)
    | 10, _ =>
     injection ho with ho
     subst ho
     clear hl
     simp only [fillA, List.take, List.drop, put_none, Act.put, List.setIfInBounds_toArray, List.set_cons_zero, List.set_cons_succ, Nat.reduceAdd]
     have f9 := hf 9 (by decide) (by kernel_rfl)
     generalize vals 9 = v9 at *
     subst f9
     have f8 := hf 8 (by decide) (by kernel_rfl)
     generalize vals 8 = v8 at *
     subst f8
     clear hf
     have hc1 := cellOf hb1
     have hf1 := frozOf hb1
     have hz1 := sizeOf hb1
     try simp at hz1
     go_wp2_with (fail)
     exact RQ.mk rfl ⟨(by first | rfl | (simp [FS56_6_13]; done) | (simp [FS56_6_13, *]; done) | (simp [FS56_6_13, gotV]; done) | (simp [FS56_6_13, gotV]; omega)), fun h => absurd h (by decide)⟩ (Below.refl _ _)
    | 11, _ =>
     injection ho with ho
     subst ho
     clear hl
     simp only [fillA, List.take, List.drop, put_none, Act.put, List.setIfInBounds_toArray, List.set_cons_zero, List.set_cons_succ, Nat.reduceAdd]
     have f8 := hf 8 (by decide) (by kernel_rfl)
     generalize vals 8 = v8 at *
     subst f8
     clear hf
     go_wp2_with (fail)
     exact RQ.mk rfl ⟨(by first | rfl | (simp [FS56_6_13]; done) | (simp [FS56_6_13, *]; done) | (simp [FS56_6_13, gotV]; done) | (simp [FS56_6_13, gotV]; omega)), fun h => absurd h (by decide)⟩ (Below.refl _ _)
    | 12, _ =>
     injection ho with ho
     subst ho
     clear hl
     simp only [fillA, List.take, List.drop, put_none, Act.put, List.setIfInBounds_toArray, List.set_cons_zero, List.set_cons_succ, Nat.reduceAdd]
     have f10 := hf 10 (by decide) (by kernel_rfl)
     generalize vals 10 = v10 at *
     subst f10
     have f11 := hf 11 (by decide) (by kernel_rfl)
     generalize vals 11 = v11 at *
     subst f11
     have f8 := hf 8 (by decide) (by kernel_rfl)
     generalize vals 8 = v8 at *
     subst f8
     clear hf
     go_wp2_with (fail)
     exact RQ.mk rfl ⟨(by first | rfl | (simp [FS56_6_13]; done) | (simp [FS56_6_13, *]; done) | (simp [FS56_6_13, gotV]; done) | (simp [FS56_6_13, gotV]; omega)), fun h => absurd h (by decide)⟩ (Below.refl _ _)
    | 13, _ =>
     injection ho with ho
     subst ho
     clear hl
     simp only [fillA, List.take, List.drop, put_none, Act.put, List.setIfInBounds_toArray, List.set_cons_zero, List.set_cons_succ, Nat.reduceAdd]
     have f12 := hf 12 (by decide) (by kernel_rfl)
     generalize vals 12 = v12 at *
     subst f12
     have f8 := hf 8 (by decide) (by kernel_rfl)
     generalize vals 8 = v8 at *
     subst f8
     clear hf
     go_wp2_with (fail)
     exact RQ.mk rfl ⟨(by first | rfl | (simp [FS56_6_13]; done) | (simp [FS56_6_13, *]; done) | (simp [FS56_6_13, gotV]; done) | (simp [FS56_6_13, gotV]; omega)), fun h => absurd h (by decide)⟩ (Below.refl _ _)
    | 14, _ =>
     injection ho with ho
     subst ho
     clear hl
     simp only [fillA, List.take, List.drop, put_none, Act.put, List.setIfInBounds_toArray, List.set_cons_zero, List.set_cons_succ, Nat.reduceAdd]
     have f13 := hf 13 (by decide) (by kernel_rfl)
     generalize vals 13 = v13 at *
     subst f13
     have f8 := hf 8 (by decide) (by kernel_rfl)
     generalize vals 8 = v8 at *
     subst f8
     clear hf
     have hc1 := cellOf hb1
     have hf1 := frozOf hb1
     have hz1 := sizeOf hb1
     try simp at hz1
     go_wp2_with (fail)
     exact RQ.mk rfl ⟨(by first | rfl | (simp [FS56_6_13]; done) | (simp [FS56_6_13, *]; done) | (simp [FS56_6_13, gotV]; done) | (simp [FS56_6_13, gotV]; omega)), fun h => absurd h (by decide)⟩ (Below.refl _ _)
    | 15, _ =>
     injection ho with ho
     subst ho
     clear hl
     simp only [fillA, List.take, List.drop, put_none, Act.put, List.setIfInBounds_toArray, List.set_cons_zero, List.set_cons_succ, Nat.reduceAdd]
     have f8 := hf 8 (by decide) (by kernel_rfl)
     generalize vals 8 = v8 at *
     subst f8
     clear hf
     go_wp2_with (fail)
     exact RQ.mk rfl ⟨(by first | rfl | (simp [FS56_6_13]; done) | (simp [FS56_6_13, *]; done) | (simp [FS56_6_13, gotV]; done) | (simp [FS56_6_13, gotV]; omega)), fun h => absurd h (by decide)⟩ (Below.refl _ _)
    | 16, _ =>
     injection ho with ho
     subst ho
     clear hl
     simp only [fillA, List.take, List.drop, put_none, Act.put, List.setIfInBounds_toArray, List.set_cons_zero, List.set_cons_succ, Nat.reduceAdd]
     have f8 := hf 8 (by decide) (by kernel_rfl)
     generalize vals 8 = v8 at *
     subst f8
     clear hf
     go_wp2_with (fail)
     exact RQ.mk rfl ⟨(by first | rfl | (simp [FS56_6_13]; done) | (simp [FS56_6_13, *]; done) | (simp [FS56_6_13, gotV]; done) | (simp [FS56_6_13, gotV]; omega)), fun h => absurd h (by decide)⟩ (Below.refl _ _)
    | 17, _ =>
     injection ho with ho
     subst ho
     clear hl
     simp only [fillA, List.take, List.drop, put_none, Act.put, List.setIfInBounds_toArray, List.set_cons_zero, List.set_cons_succ, Nat.reduceAdd]
     have f16 := hf 16 (by decide) (by kernel_rfl)
     generalize vals 16 = v16 at *
     subst f16
     have f8 := hf 8 (by decide) (by kernel_rfl)
     generalize vals 8 = v8 at *
     subst f8
     clear hf
     have hc1 := cellOf hb1
     have hf1 := frozOf hb1
     have hz1 := sizeOf hb1
     try simp at hz1
     go_wp2_with (fail)
     exact RQ.mk rfl ⟨(by first | rfl | (simp [FS56_6_13]; done) | (simp [FS56_6_13, *]; done) | (simp [FS56_6_13, gotV]; done) | (simp [FS56_6_13, gotV]; omega)), fun h => absurd h (by decide)⟩ (Below.refl _ _)
    | 18, _ =>
     injection ho with ho
     subst ho
     clear hl
     simp only [fillA, List.take, List.drop, put_none, Act.put, List.setIfInBounds_toArray, List.set_cons_zero, List.set_cons_succ, Nat.reduceAdd]
     have f15 := hf 15 (by decide) (by kernel_rfl)
     generalize vals 15 = v15 at *
     subst f15
     have f17 := hf 17 (by decide) (by kernel_rfl)
     generalize vals 17 = v17 at *
     subst f17
     have f8 := hf 8 (by decide) (by kernel_rfl)
     generalize vals 8 = v8 at *
     subst f8
     clear hf
     go_wp2_with (fail)
     exact RQ.mk rfl ⟨(by first | rfl | (simp [FS56_6_13]; done) | (simp [FS56_6_13, *]; done) | (simp [FS56_6_13, gotV]; done) | (simp [FS56_6_13, gotV]; omega)), fun h => absurd h (by decide)⟩ (Below.refl _ _)
    | 19, _ =>
     injection ho with ho
     subst ho
     clear hl
     simp only [fillA, List.take, List.drop, put_none, Act.put, List.setIfInBounds_toArray, List.set_cons_zero, List.set_cons_succ, Nat.reduceAdd]
     have f18 := hf 18 (by decide) (by kernel_rfl)
     generalize vals 18 = v18 at *
     subst f18
     have f8 := hf 8 (by decide) (by kernel_rfl)
     generalize vals 8 = v8 at *
     subst f8
     clear hf
     go_wp2_with (fail)
     exact RQ.mk rfl ⟨(by first | rfl | (simp [FS56_6_13]; done) | (simp [FS56_6_13, *]; done) | (simp [FS56_6_13, gotV]; done) | (simp [FS56_6_13, gotV]; omega)), fun h => absurd h (by decide)⟩ (Below.refl _ _)
    | 20, _ =>
     injection ho with ho
     subst ho
     clear hl
     simp only [fillA, List.take, List.drop, put_none, Act.put, List.setIfInBounds_toArray, List.set_cons_zero, List.set_cons_succ, Nat.reduceAdd]
     have f14 := hf 14 (by decide) (by kernel_rfl)
     generalize vals 14 = v14 at *
     subst f14
     have f19 := hf 19 (by decide) (by kernel_rfl)
     generalize vals 19 = v19 at *
     subst f19
     have f8 := hf 8 (by decide) (by kernel_rfl)
     generalize vals 8 = v8 at *
     subst f8
     clear hf
     go_wp2_with (fail)
     exact RQ.mk rfl ⟨(by first | rfl | (simp [FS56_6_13]; done) | (simp [FS56_6_13, *]; done) | (simp [FS56_6_13, gotV]; done) | (simp [FS56_6_13, gotV]; omega)), fun h => absurd h (by decide)⟩ (Below.refl _ _)
    | 21, _ =>
     injection ho with ho
     subst ho
     clear hl
     simp only [fillA, List.take, List.drop, put_none, Act.put, List.setIfInBounds_toArray, List.set_cons_zero, List.set_cons_succ, Nat.reduceAdd]
     have f8 := hf 8 (by decide) (by kernel_rfl)
     generalize vals 8 = v8 at *
     subst f8
     have f20 := hf 20 (by decide) (by kernel_rfl)
     generalize vals 20 = v20 at *
     subst f20
     clear hf
     go_wp2_with (fail)
     exact RQ.mk rfl ⟨(by first | rfl | (simp [FS56_6_13]; done) | (simp [FS56_6_13, *]; done) | (simp [FS56_6_13, gotV]; done) | (simp [FS56_6_13, gotV]; omega)), fun h => absurd h (by decide)⟩ (Below.refl _ _)
    | m + 22, h => exact absurd h (by omega)
   ·intro vals w1 hb1 hf hd
    simp only [fillA, List.take, List.drop, put_none, Act.put, List.setIfInBounds_toArray, List.set_cons_zero, List.set_cons_succ, Nat.reduceAdd]
    clear hd
    have f0 := hf 0 (by decide)
    generalize vals 0 = v0 at *
    subst f0
    have f1 := hf 1 (by decide)
    generalize vals 1 = v1 at *
    subst f1
    have f2 := hf 2 (by decide)
    generalize vals 2 = v2 at *
    subst f2
    have f3 := hf 3 (by decide)
    generalize vals 3 = v3 at *
    subst f3
    have f4 := hf 4 (by decide)
    generalize vals 4 = v4 at *
    subst f4
    have f5 := hf 5 (by decide)
    generalize vals 5 = v5 at *
    subst f5
    have f6 := hf 6 (by decide)
    generalize vals 6 = v6 at *
    subst f6
    have f7 := hf 7 (by decide)
    generalize vals 7 = v7 at *
    subst f7
    have f8 := hf 8 (by decide)
    generalize vals 8 = v8 at *
    subst f8
    have f9 := hf 9 (by decide)
    generalize vals 9 = v9 at *
    subst f9
    have f10 := hf 10 (by decide)
    generalize vals 10 = v10 at *
    subst f10
    have f11 := hf 11 (by decide)
    generalize vals 11 = v11 at *
    subst f11
    have f12 := hf 12 (by decide)
    generalize vals 12 = v12 at *
    subst f12
    have f13 := hf 13 (by decide)
    generalize vals 13 = v13 at *
    subst f13
    have f14 := hf 14 (by decide)
    generalize vals 14 = v14 at *
    subst f14
    have f15 := hf 15 (by decide)
    generalize vals 15 = v15 at *
    subst f15
    have f16 := hf 16 (by decide)
    generalize vals 16 = v16 at *
    subst f16
    have f17 := hf 17 (by decide)
    generalize vals 17 = v17 at *
    subst f17
    have f18 := hf 18 (by decide)
    generalize vals 18 = v18 at *
    subst f18
    have f19 := hf 19 (by decide)
    generalize vals 19 = v19 at *
    subst f19
    have f20 := hf 20 (by decide)
    generalize vals 20 = v20 at *
    subst f20
    have f21 := hf 21 (by decide)
    generalize vals 21 = v21 at *
    subst f21
    clear hf
    have hc1 := cellOf hb1
    have hf1 := frozOf hb1
    have hz1 := sizeOf hb1
    try simp at hz1
    go_wp2_with (fail)
    go_ret
    exact ⟨ret_bool (by rw [HV.out]), by (repeat' (first | exact Below.refl _ _ | assumption | refine Below.setCell ?_ ?_ _ | refine Below.drew ?_ | refine Below.alloc ?_ ?_ _ | refine Below.trans ?_ (Below.mono (by assumption) ?_) | (simp; done) | (simp; omega) | omega))⟩
  ·obtain rfl : k = xs.length := by omega
   have hp0' : far wr w.heap.size 0 = _ := hp0
   have hp1' : far wr w.heap.size 1 = _ := hp1
   have HV := hid (show mayB d xs t = true by have := HM.out; rw [List.take_length] at this; unfold mayB; rw [this]; simp; omega)
   go_wp2_with (fail)
   go_ret
   exact ⟨ret_bool (by rw [HV.out]), by (repeat' (first | exact Below.refl _ _ | assumption | refine Below.setCell ?_ ?_ _ | refine Below.drew ?_ | refine Below.alloc ?_ ?_ _ | refine Below.trans ?_ (Below.mono (by assumption) ?_) | (simp; done) | (simp; omega) | omega))⟩

end Go.Proofs.Yteciijnpfapmhaa
namespace Go.Proofs.Yteciijnpfapmhaa
set_option linter.unusedSimpArgs false
set_option linter.unusedVariables false
open Go.RowKit

set_option maxRecDepth 100000 in
set_option maxHeartbeats 4000000 in
theorem c_spec_l15Last (d : Int) (A : Option Addr) (xs : List (Int × Int)) (n cap : Nat) (f t : Int) (w : World) (hx : Rds cIv 2 w A xs) (hxl : xs.length = n) (hn : xs.length ≤ 9223372036854775807) (hok : ∀ k (hk : k < xs.length), ivP xs[k]) (hd : 1 ≤ d ∧ d ≤ 30) (hft : 0 ≤ f ∧ f ≤ 99999 ∧ -1 ≤ t ∧ t ≤ 99999) :
  Calls Try.prog 59 #[.agg #[.int .i64 d, .slice A n cap], .int .i64 f, .int .i64 t] w fun e w' => e = .returned (.int .i64 (lastI (lastF d xs f t))) ∧ Below w.heap.size w w' := by
 subst hxl
 go_enter Try.func59, Try.ntmps59
 go_wp2_with (fail)
 go_loopw [7] (fun p wr => ∃ j : Nat, p = .int .i64 (t - (j : Int)) ∧ -1 ≤ t - (j : Int) ∧ (∀ v : Int, t - (j : Int) < v → v ≤ t → mayB d xs v = false) ∧ wr.cell? ⟨w.heap.size, 0, none⟩ = some (.int .i64 d) ∧ wr.cell? ⟨w.heap.size, 1, none⟩ = some (.slice A xs.length cap) ∧ w.heap.size + 1 ≤ wr.heap.size ∧ Below w.heap.size w wr) (fun p _ => (intOf p - f + 1).toNat)
 case atStart =>
  refine ⟨0, by simp, by omega, fun v h1 h2 => absurd h1 (by omega), ?_, ?_, ?_, by (repeat' (first | exact Below.refl _ _ | assumption | refine Below.setCell ?_ ?_ _ | refine Below.drew ?_ | refine Below.alloc ?_ ?_ _ | refine Below.trans ?_ (Below.mono (by assumption) ?_) | (simp; done) | (simp; omega) | omega))⟩
  all_goals first | (simp [go_sem, ↓IntWalk.iteOmega, *]; done) | (simp at *; omega)
 case round =>
  obtain ⟨j, rfl, hj, hl, hp0, hp1, hzz, hbr⟩ := hrel
  have hc := cellOf hbr
  have hf := frozOf hbr
  have hz := sizeOf hbr
  have hp0' : far wr w.heap.size 0 = _ := hp0
  have hp1' : far wr w.heap.size 1 = _ := hp1
  have HL := hid hl
  clear hl
  by_cases hlt : f ≤ t - (j : Int)
  rotate_left
  ·have HE := hid (lastF_none (d := d) (xs := xs) (f := f) (t := t) (fun v h1 h2 => HL.out v (by omega) h2))
   go_wp2_with (fail)
   go_ret
   exact ⟨by first | (rw [HE.out]; done) | (rw [HE.out]; rfl), by (repeat' (first | exact Below.refl _ _ | assumption | refine Below.setCell ?_ ?_ _ | refine Below.drew ?_ | refine Below.alloc ?_ ?_ _ | refine Below.trans ?_ (Below.mono (by assumption) ?_) | (simp; done) | (simp; omega) | omega))⟩
  by_cases hm : mayB d xs (t - (j : Int)) = true
  ·have HE := hid (lastF_hit (f := f) hlt (by omega) HL.out hm)
   go_wp2_with (first | (go_at_call 56; refine (c_spec_l15May _ _ _ _ _ _ _ (by first | assumption | exact Rds.below hx (by (repeat' (first | exact Below.refl _ _ | assumption | refine Below.setCell ?_ ?_ _ | refine Below.drew ?_ | refine Below.alloc ?_ ?_ _ | refine Below.trans ?_ (Below.mono (by assumption) ?_) | (simp; done) | (simp; omega) | omega)))) rfl (by omega) hok (by omega)).mono ?_; rintro e w' ⟨rfl, hb⟩; have hc := cellOf hb; have hf := frozOf hb; have hz := sizeOf hb; try simp at hz))
   go_ret
   exact ⟨by first | (rw [HE.out]; done) | (rw [HE.out]; rfl), by (repeat' (first | exact Below.refl _ _ | assumption | refine Below.setCell ?_ ?_ _ | refine Below.drew ?_ | refine Below.alloc ?_ ?_ _ | refine Below.trans ?_ (Below.mono (by assumption) ?_) | (simp; done) | (simp; omega) | omega))⟩
  ·have hmf : mayB d xs (t - (j : Int)) = false := by simpa using hm
   have HM := hid hmf
   clear hm
   go_wp2_with (first | (go_at_call 56; refine (c_spec_l15May _ _ _ _ _ _ _ (by first | assumption | exact Rds.below hx (by (repeat' (first | exact Below.refl _ _ | assumption | refine Below.setCell ?_ ?_ _ | refine Below.drew ?_ | refine Below.alloc ?_ ?_ _ | refine Below.trans ?_ (Below.mono (by assumption) ?_) | (simp; done) | (simp; omega) | omega)))) rfl (by omega) hok (by omega)).mono ?_; rintro e w' ⟨rfl, hb⟩; have hc := cellOf hb; have hf := frozOf hb; have hz := sizeOf hb; try simp at hz))
   go_roundw
   case rel =>
    refine ⟨j + 1, by go_num, by omega, fun v h1 h2 => ?_, ?_, ?_, ?_, by (repeat' (first | exact Below.refl _ _ | assumption | refine Below.setCell ?_ ?_ _ | refine Below.drew ?_ | refine Below.alloc ?_ ?_ _ | refine Below.trans ?_ (Below.mono (by assumption) ?_) | (simp; done) | (simp; omega) | omega))⟩
    ·by_cases hyj : t - (j : Int) < v
     ·exact HL.out v hyj h2
     ·obtain rfl : v = t - (j : Int) := by omega
      exact HM.out
    all_goals first | (simp [go_sem, ↓IntWalk.iteOmega, *]; done) | omega | (simp [go_sem, ↓IntWalk.iteOmega, *]; omega)
   case measure => simp [intOf]; omega

set_option maxRecDepth 100000 in
set_option maxHeartbeats 4000000 in
theorem c_spec_LastOpening (d : Int) (A : Option Addr) (xs : List (Int × Int)) (cap : Nat) (f t : Int) (w : World) (hx : Rds cIv 2 w A xs) (hn : xs.length ≤ 9223372036854775807) :
  Calls Try.prog 23 #[.agg #[.int .i64 d, .slice A xs.length cap], .int .i64 f, .int .i64 t] w fun e w' => e = .returned (.tuple #[.int .i64 (lastV d xs f t).1, .bool (lastV d xs f t).2]) ∧ Below w.heap.size w w' := by
 by_cases hs0 : brB d xs = true
 rotate_left
 ·have hn0 : brB d xs = false := Bool.eq_false_iff.2 hs0
  have HV := hid (show lastV d xs f t = (0, false) by simp [lastV, hn0])
  clear hs0
  go_enter Try.func23, Try.ntmps23
  go_wp2_with (first | (go_at_call 50; refine (c_spec_l15Good _ _ _ _ _ (by first | assumption | exact Rds.below hx (by (repeat' (first | exact Below.refl _ _ | assumption | refine Below.setCell ?_ ?_ _ | refine Below.drew ?_ | refine Below.alloc ?_ ?_ _ | refine Below.trans ?_ (Below.mono (by assumption) ?_) | (simp; done) | (simp; omega) | omega)))) (by omega)).mono ?_; rintro e w' ⟨rfl, hb⟩; have hc := cellOf hb; have hf := frozOf hb; have hz := sizeOf hb; try simp at hz) | (go_at_call 55; refine (c_spec_l8Minute _ _ ).mono ?_; rintro e w' ⟨rfl, hb⟩; have hc := cellOf hb; have hf := frozOf hb; have hz := sizeOf hb; try simp at hz))
  all_goals go_ret2
  all_goals exact ⟨by first | (rw [HV.out]; done) | (rw [HV.out]; rfl), by (repeat' (first | exact Below.refl _ _ | assumption | refine Below.setCell ?_ ?_ _ | refine Below.drew ?_ | refine Below.alloc ?_ ?_ _ | refine Below.trans ?_ (Below.mono (by assumption) ?_) | (simp; done) | (simp; omega) | omega))⟩
 by_cases hs1 : minB f = true
 rotate_left
 ·have hn1 : minB f = false := Bool.eq_false_iff.2 hs1
  have HV := hid (show lastV d xs f t = (0, false) by simp [lastV, hn1])
  clear hs1
  go_enter Try.func23, Try.ntmps23
  go_wp2_with (first | (go_at_call 50; refine (c_spec_l15Good _ _ _ _ _ (by first | assumption | exact Rds.below hx (by (repeat' (first | exact Below.refl _ _ | assumption | refine Below.setCell ?_ ?_ _ | refine Below.drew ?_ | refine Below.alloc ?_ ?_ _ | refine Below.trans ?_ (Below.mono (by assumption) ?_) | (simp; done) | (simp; omega) | omega)))) (by omega)).mono ?_; rintro e w' ⟨rfl, hb⟩; have hc := cellOf hb; have hf := frozOf hb; have hz := sizeOf hb; try simp at hz) | (go_at_call 55; refine (c_spec_l8Minute _ _ ).mono ?_; rintro e w' ⟨rfl, hb⟩; have hc := cellOf hb; have hf := frozOf hb; have hz := sizeOf hb; try simp at hz))
  all_goals go_ret2
  all_goals exact ⟨by first | (rw [HV.out]; done) | (rw [HV.out]; rfl), by (repeat' (first | exact Below.refl _ _ | assumption | refine Below.setCell ?_ ?_ _ | refine Below.drew ?_ | refine Below.alloc ?_ ?_ _ | refine Below.trans ?_ (Below.mono (by assumption) ?_) | (simp; done) | (simp; omega) | omega))⟩
 by_cases hs2 : minB t = true
 rotate_left
 ·have hn2 : minB t = false := Bool.eq_false_iff.2 hs2
  have HV := hid (show lastV d xs f t = (0, false) by simp [lastV, hn2])
  clear hs2
  go_enter Try.func23, Try.ntmps23
  go_wp2_with (first | (go_at_call 50; refine (c_spec_l15Good _ _ _ _ _ (by first | assumption | exact Rds.below hx (by (repeat' (first | exact Below.refl _ _ | assumption | refine Below.setCell ?_ ?_ _ | refine Below.drew ?_ | refine Below.alloc ?_ ?_ _ | refine Below.trans ?_ (Below.mono (by assumption) ?_) | (simp; done) | (simp; omega) | omega)))) (by omega)).mono ?_; rintro e w' ⟨rfl, hb⟩; have hc := cellOf hb; have hf := frozOf hb; have hz := sizeOf hb; try simp at hz) | (go_at_call 55; refine (c_spec_l8Minute _ _ ).mono ?_; rintro e w' ⟨rfl, hb⟩; have hc := cellOf hb; have hf := frozOf hb; have hz := sizeOf hb; try simp at hz))
  all_goals go_ret2
  all_goals exact ⟨by first | (rw [HV.out]; done) | (rw [HV.out]; rfl), by (repeat' (first | exact Below.refl _ _ | assumption | refine Below.setCell ?_ ?_ _ | refine Below.drew ?_ | refine Below.alloc ?_ ?_ _ | refine Below.trans ?_ (Below.mono (by assumption) ?_) | (simp; done) | (simp; omega) | omega))⟩
 have hfb := minB_bd hs1
 have htb := minB_bd hs2
 have hdb := brB_dur hs0
 have hok := brB_P hs0
 have HV := hid (show lastV d xs f t = lastR (lastF d xs f t) by simp [lastV, hs0, hs1, hs2])
 cases hlf : lastF d xs f t with
 | none =>
  rw [hlf] at HV
  go_enter Try.func23, Try.ntmps23
  go_wp2_with (first | (first | (go_at_call 50; refine (c_spec_l15Good _ _ _ _ _ (by first | assumption | exact Rds.below hx (by (repeat' (first | exact Below.refl _ _ | assumption | refine Below.setCell ?_ ?_ _ | refine Below.drew ?_ | refine Below.alloc ?_ ?_ _ | refine Below.trans ?_ (Below.mono (by assumption) ?_) | (simp; done) | (simp; omega) | omega)))) (by omega)).mono ?_; rintro e w' ⟨rfl, hb⟩; have hc := cellOf hb; have hf := frozOf hb; have hz := sizeOf hb; try simp at hz) | (go_at_call 55; refine (c_spec_l8Minute _ _ ).mono ?_; rintro e w' ⟨rfl, hb⟩; have hc := cellOf hb; have hf := frozOf hb; have hz := sizeOf hb; try simp at hz)) | (go_at_call 59; refine (c_spec_l15Last _ _ _ _ _ _ _ _ (by first | assumption | exact Rds.below hx (by (repeat' (first | exact Below.refl _ _ | assumption | refine Below.setCell ?_ ?_ _ | refine Below.drew ?_ | refine Below.alloc ?_ ?_ _ | refine Below.trans ?_ (Below.mono (by assumption) ?_) | (simp; done) | (simp; omega) | omega)))) rfl (by omega) hok (by omega) (by omega)).mono ?_; simp only [hlf, lastR, lastI]; rintro e w' ⟨rfl, hb⟩; have hc := cellOf hb; have hf := frozOf hb; have hz := sizeOf hb; try simp at hz))
  go_ret2
  exact ⟨by first | (rw [HV.out]; done) | (rw [HV.out]; rfl), by (repeat' (first | exact Below.refl _ _ | assumption | refine Below.setCell ?_ ?_ _ | refine Below.drew ?_ | refine Below.alloc ?_ ?_ _ | refine Below.trans ?_ (Below.mono (by assumption) ?_) | (simp; done) | (simp; omega) | omega))⟩
 | some u =>
  have hub := lastF_some hlf
  have hu0 : 0 ≤ u := by omega
  clear hub
  rw [hlf] at HV
  go_enter Try.func23, Try.ntmps23
  go_wp2_with (first | (first | (go_at_call 50; refine (c_spec_l15Good _ _ _ _ _ (by first | assumption | exact Rds.below hx (by (repeat' (first | exact Below.refl _ _ | assumption | refine Below.setCell ?_ ?_ _ | refine Below.drew ?_ | refine Below.alloc ?_ ?_ _ | refine Below.trans ?_ (Below.mono (by assumption) ?_) | (simp; done) | (simp; omega) | omega)))) (by omega)).mono ?_; rintro e w' ⟨rfl, hb⟩; have hc := cellOf hb; have hf := frozOf hb; have hz := sizeOf hb; try simp at hz) | (go_at_call 55; refine (c_spec_l8Minute _ _ ).mono ?_; rintro e w' ⟨rfl, hb⟩; have hc := cellOf hb; have hf := frozOf hb; have hz := sizeOf hb; try simp at hz)) | (go_at_call 59; refine (c_spec_l15Last _ _ _ _ _ _ _ _ (by first | assumption | exact Rds.below hx (by (repeat' (first | exact Below.refl _ _ | assumption | refine Below.setCell ?_ ?_ _ | refine Below.drew ?_ | refine Below.alloc ?_ ?_ _ | refine Below.trans ?_ (Below.mono (by assumption) ?_) | (simp; done) | (simp; omega) | omega)))) rfl (by omega) hok (by omega) (by omega)).mono ?_; simp only [hlf, lastR, lastI]; rintro e w' ⟨rfl, hb⟩; have hc := cellOf hb; have hf := frozOf hb; have hz := sizeOf hb; try simp at hz))
  go_ret2
  exact ⟨by first | (rw [HV.out]; done) | (rw [HV.out]; rfl), by (repeat' (first | exact Below.refl _ _ | assumption | refine Below.setCell ?_ ?_ _ | refine Below.drew ?_ | refine Below.alloc ?_ ?_ _ | refine Below.trans ?_ (Below.mono (by assumption) ?_) | (simp; done) | (simp; omega) | omega))⟩

end Go.Proofs.Yteciijnpfapmhaa
namespace Go.Proofs.Yteciijnpfapmhaa
set_option linter.unusedSimpArgs false
set_option linter.unusedVariables false
open Go.RowKit

def FS38_9 (d : Int) (A : Option Addr) (xs : List (Int × Int)) (cap n1 : Nat) (r m p : Int) (bx ox k n0 capr : Nat) (w W0 : World) (iq : Nat) (v : Value) (w1 : World) : Prop := match iq with
 | 0 => v = .agg #[.int .i64 (d), .slice A n1 cap]
 | 1 => v = .int .i64 (r)
 | 2 => v = .slice (some ⟨bx, ox, none⟩) n0 capr
 | 3 => v = .int .i64 (k)
 | 4 => v = .pointer (some ⟨bx, ox + k, none⟩)
 | 5 => v = .int .i64 (m)
 | 6 => v = .int .i64 (max (r) (m))
 | 7 => v = .slice (some ⟨bx, ox, none⟩) n0 capr
 | 8 => v = .int .i64 (k)
 | 9 => v = .pointer (some ⟨bx, ox + k, none⟩)
 | 10 => v = .int .i64 (m)
 | 11 => v = .int .i64 (p)
 | 12 => v = .int .i64 (m + p)
 | 13 => v = .int .i64 (lastI (lastF d xs (max (r) (m)) (m + p)))
 | _ => True

def FS38_9_44 (d : Int) (A : Option Addr) (xs : List (Int × Int)) (cap n1 : Nat) (r m p : Int) (bx ox k n0 capr : Nat) (w W0 : World) (iq : Nat) (v : Value) (w1 : World) : Prop := match iq with
 | 0 => v = .agg #[.int .i64 (d), .slice A n1 cap]
 | 1 => v = .int .i64 (r)
 | 2 => v = .slice (some ⟨bx, ox, none⟩) n0 capr
 | 3 => v = .int .i64 (k)
 | 4 => v = .pointer (some ⟨bx, ox + k, none⟩)
 | 5 => v = .int .i64 (m)
 | 6 => v = .int .i64 (max (r) (m))
 | 7 => v = .slice (some ⟨bx, ox, none⟩) n0 capr
 | 8 => v = .int .i64 (k)
 | 9 => v = .pointer (some ⟨bx, ox + k, none⟩)
 | 10 => v = .int .i64 (m)
 | 11 => v = .int .i64 (p)
 | 12 => v = .int .i64 (m + p)
 | 13 => v = .int .i64 (lastI (lastF d xs (max (r) (m)) (m + p)))
 | _ => True

set_option maxRecDepth 100000 in
set_option maxHeartbeats 8000000 in
theorem c_spec_FewestOpenings (d : Int) (A : Option Addr) (xs : List (Int × Int)) (cap : Nat) (B : Option Addr) (rs : List Int) (capr : Nat) (p : Int) (w : World) (hx : Rds cIv 2 w A xs) (hn : xs.length ≤ 9223372036854775807) (hr : Rds cIn 1 w B rs) (hnr : rs.length ≤ 9223372036854775807) :
  Calls Try.prog 38 #[.agg #[.int .i64 d, .slice A xs.length cap], .slice B rs.length capr, .int .i64 p] w fun e w' => ∃ A' cap', e = .returned (.tuple #[.slice A' (fewV d xs rs p).1.length cap', .bool (fewV d xs rs p).2]) ∧ FreshA cIn 1 3 w.heap.size w' A' cap' (fewV d xs rs p).1 ∧ Below w.heap.size w w' := by
 obtain ⟨i0, hI0, hI1, hI2, hI3⟩ := info_parts info_In
 by_cases hs0 : reqB d xs rs p = true
 rotate_left
 ·have hn0 : reqB d xs rs p = false := Bool.eq_false_iff.2 hs0
  have HV := hid (fewV_no hn0)
  clear hs0
  go_enter Try.func38, Try.ntmps38
  go_wp2_with (first | (go_at_call 61; refine (c_spec_l15Requests _ _ _ _ _ _ _ _ _ (by first | assumption | exact Rds.below hx (by (repeat' (first | exact Below.refl _ _ | assumption | refine Below.setCell ?_ ?_ _ | refine Below.drew ?_ | refine Below.alloc ?_ ?_ _ | refine Below.trans ?_ (Below.mono (by assumption) ?_) | (simp; done) | (simp; omega) | omega)))) (by omega) (by first | assumption | exact Rds.below hr (by (repeat' (first | exact Below.refl _ _ | assumption | refine Below.setCell ?_ ?_ _ | refine Below.drew ?_ | refine Below.alloc ?_ ?_ _ | refine Below.trans ?_ (Below.mono (by assumption) ?_) | (simp; done) | (simp; omega) | omega)))) (by omega)).mono ?_; rintro e w' ⟨rfl, hb⟩; have hc := cellOf hb; have hf := frozOf hb; have hz := sizeOf hb; try simp at hz))
  go_ret2
  simp only [HV.out]
  exact ⟨_, _, rfl, FreshA.mono (FreshA.emp2 (by (repeat' (first | exact Below.refl _ _ | assumption | refine Below.setCell ?_ ?_ _ | refine Below.drew ?_ | refine Below.alloc ?_ ?_ _ | refine Below.trans ?_ (Below.mono (by assumption) ?_) | (simp; done) | (simp; omega) | omega)))) (by omega), by (repeat' (first | exact Below.refl _ _ | assumption | refine Below.setCell ?_ ?_ _ | refine Below.drew ?_ | refine Below.alloc ?_ ?_ _ | refine Below.trans ?_ (Below.mono (by assumption) ?_) | (simp; done) | (simp; omega) | omega))⟩
 have hbr0 := reqB_br hs0
 have hdb := brB_dur hbr0
 have hok := brB_P hbr0
 have hrm := reqB_P hs0
 have hrl := vB_len (reqB_v hs0)
 have hpb := reqB_p hs0
 go_enter Try.func38, Try.ntmps38
 go_wp2_with (first | (go_at_call 61; refine (c_spec_l15Requests _ _ _ _ _ _ _ _ _ (by first | assumption | exact Rds.below hx (by (repeat' (first | exact Below.refl _ _ | assumption | refine Below.setCell ?_ ?_ _ | refine Below.drew ?_ | refine Below.alloc ?_ ?_ _ | refine Below.trans ?_ (Below.mono (by assumption) ?_) | (simp; done) | (simp; omega) | omega)))) (by omega) (by first | assumption | exact Rds.below hr (by (repeat' (first | exact Below.refl _ _ | assumption | refine Below.setCell ?_ ?_ _ | refine Below.drew ?_ | refine Below.alloc ?_ ?_ _ | refine Below.trans ?_ (Below.mono (by assumption) ?_) | (simp; done) | (simp; omega) | omega)))) (by omega)).mono ?_; rintro e w' ⟨rfl, hb⟩; have hc := cellOf hb; have hf := frozOf hb; have hz := sizeOf hb; try simp at hz))
 go_loopw [8, 9, 10] (fun v f i wr => ∃ (k : Nat) (A' : Option Addr) (cp : Nat) (out : List Int) (r : Int), k ≤ rs.length ∧ i = .int .i64 k ∧ v = .slice A' out.length cp ∧ f = .int .i64 r ∧ FreshA cIn 1 3 (w.heap.size + 1) wr A' cp out ∧ fewTo d xs p rs k = some (out, r) ∧ fewOk d out r ∧ out.length ≤ k ∧ wr.cell? ⟨w.heap.size, 0, none⟩ = some (.int .i64 d) ∧ wr.cell? ⟨w.heap.size, 1, none⟩ = some (.slice A xs.length cap) ∧ w.heap.size + 1 ≤ wr.heap.size ∧ Below w.heap.size w wr) (fun _ _ i _ => rs.length - (intOf i).toNat)
 case atStart =>
  refine ⟨0, _, _, [], 0, Nat.zero_le _, rfl, rfl, rfl, FreshA.emp2 (by (repeat' (first | exact Below.refl _ _ | assumption | refine Below.setCell ?_ ?_ _ | refine Below.drew ?_ | refine Below.alloc ?_ ?_ _ | refine Below.trans ?_ (Below.mono (by assumption) ?_) | (simp; done) | (simp; omega) | omega))), rfl, fewOk_nil d, Nat.zero_le _, ?_, ?_, ?_, by (repeat' (first | exact Below.refl _ _ | assumption | refine Below.setCell ?_ ?_ _ | refine Below.drew ?_ | refine Below.alloc ?_ ?_ _ | refine Below.trans ?_ (Below.mono (by assumption) ?_) | (simp; done) | (simp; omega) | omega))⟩
  all_goals first | (simp [go_sem, ↓IntWalk.iteOmega, *]; done) | (simp at *; omega) | (simp [go_sem, ↓IntWalk.iteOmega, *]; omega)
 case round =>
  obtain ⟨k, A', cp, out, r, hk, rfl, rfl, rfl, hF, hT, hfo, hol, hp0, hp1, hzz, hbr⟩ := hrel
  have hlo := hF.lo
  have hhi := hF.hi
  have hc := cellOf hbr
  have hf := frozOf hbr
  have hz := sizeOf hbr
  have hp0' : far wr w.heap.size 0 = _ := hp0
  have hp1' : far wr w.heap.size 1 = _ := hp1
  by_cases hlt : k < rs.length
  rotate_left
  ·obtain rfl : k = rs.length := by omega
   have HV := hid (fewV_end hs0 hT)
   clear hT
   go_wp2_with (fail)
   go_ret2
   simp only [HV.out]
   exact ⟨_, _, rfl, hF.mono (by omega), by (repeat' (first | exact Below.refl _ _ | assumption | refine Below.setCell ?_ ?_ _ | refine Below.drew ?_ | refine Below.alloc ?_ ?_ _ | refine Below.trans ?_ (Below.mono (by assumption) ?_) | (simp; done) | (simp; omega) | omega))⟩
  obtain ⟨bx, ox, rfl, hbx, hcx⟩ := hr k rs[k] (List.getElem?_eq_getElem hlt)
  have hx0 := hcx 0 _ rfl
  simp only [Nat.add_zero, Nat.mul_one] at hx0
  have HN := hid (fewTo_next hlt hT)
  have hmb := hrm k hlt
  unfold minP at hmb
  have HZ := hid (fun e => fewV_stop (d := d) (xs := xs) (p := p) (rs := rs) (k := k + 1) (by omega) e)
  have hro := hF.rds
  have HF := hid hF
  have HFO := hid hfo
  have hrb := hfo.2.2
  clear hcx hr hT hfo hrm hF
  obtain ⟨m, hmk⟩ : ∃ m, m = rs[k] := ⟨_, rfl⟩
  simp only [← hmk] at hx0 hmb HN
  clear hmk
  have HRO := hid hro
  clear hro
  by_cases hfo0 : 0 ≤ firstO out m
  ·have HS := hid (HN.out.trans (fewN_skip hfo0))
   go_wp2_with (first | (go_at_call 67; refine (c_spec_l15First _ out _ _ _ _ (by first | assumption | exact Rds.below HRO.out (by (repeat' (first | exact Below.refl _ _ | assumption | refine Below.setCell ?_ ?_ _ | refine Below.drew ?_ | refine Below.alloc ?_ ?_ _ | refine Below.trans ?_ (Below.mono (by assumption) ?_) | (simp; done) | (simp; omega) | omega)))) rfl (by omega)).mono ?_; rintro e w' ⟨rfl, hb⟩; have hc := cellOf hb; have hf := frozOf hb; have hz := sizeOf hb; try simp at hz))
   go_roundw
   case rel =>
    refine ⟨k + 1, _, cp, out, r, by omega, by go_num, rfl, rfl, HF.out.below (by (repeat' (first | exact Below.refl _ _ | assumption | refine Below.setCell ?_ ?_ _ | refine Below.drew ?_ | refine Below.alloc ?_ ?_ _ | refine Below.trans ?_ (Below.mono (by assumption) ?_) | (simp; done) | (simp; omega) | omega))), HS.out, HFO.out, by omega, ?_, ?_, ?_, by (repeat' (first | exact Below.refl _ _ | assumption | refine Below.setCell ?_ ?_ _ | refine Below.drew ?_ | refine Below.alloc ?_ ?_ _ | refine Below.trans ?_ (Below.mono (by assumption) ?_) | (simp; done) | (simp; omega) | omega))⟩
    all_goals first | (simp [go_sem, ↓IntWalk.iteOmega, *]; done) | omega | (simp [go_sem, ↓IntWalk.iteOmega, *]; omega)
   case measure => simp [intOf]; omega
  have HNO := hid hfo0
  have HLS := hid (lastF_swap (xs := xs) hdb.1 m r (m + p))
  cases hlf : lastF d xs (max m r) (min (m + p) 9999) with
  | none =>
   have HV := hid (HZ.out (HN.out.trans (fewN_none HNO.out hlf)))
   have HL2 : Hid (lastF d xs (max r m) (m + p) = none) := HLS.out.trans hlf
   clear HZ HN hlf
   go_wp2_with (first | (go_at_call 67; refine (c_spec_l15First _ out _ _ _ _ (by first | assumption | exact Rds.below HRO.out (by (repeat' (first | exact Below.refl _ _ | assumption | refine Below.setCell ?_ ?_ _ | refine Below.drew ?_ | refine Below.alloc ?_ ?_ _ | refine Below.trans ?_ (Below.mono (by assumption) ?_) | (simp; done) | (simp; omega) | omega)))) rfl (by omega)).mono ?_; rintro e w' ⟨rfl, hb⟩; have hc := cellOf hb; have hf := frozOf hb; have hz := sizeOf hb; try simp at hz))
   refine wp_region_w (n := 14) [] [] (FS38_9 d A xs cap xs.length r m p bx ox k rs.length capr w) rfl (by kernel_rfl) (fun _ _ d _ _ h => by cases d <;> exact h) ?_ ?_ ?_ ?_ ?_ ?_
   ·intro iq
    match iq with
    | 0 | 1 | 2 | 3 | 4 | 5 | 6 | 7 | 8 | 9 | 10 | 11 | 12 | 13 => exact Stable.const _
    | n + 14 => exact Stable.const _
   ·intro iq hi
    exact absurd hi (by simp)
   ·intro iq hi
    exact absurd hi (by simp)
   ·intro iq o hi hl ho vals w1 hb1 hf
    exact absurd hl (by simp)
   ·intro iq o hi hl ho vals w1 hb1 hf
    match iq, hi with
    | 0, _ =>
     injection ho with ho
     subst ho
     clear hl
     simp only [fillA, List.take, List.drop, put_none, Act.put, List.setIfInBounds_toArray, List.set_cons_zero, List.set_cons_succ, Nat.reduceAdd]
     clear hf
     have hc1 := cellOf hb1
     have hf1 := frozOf hb1
     have hz1 := sizeOf hb1
     try simp at hz1
     go_wp2_with (fail)
     exact RQ.mk rfl ⟨(by first | rfl | (simp [FS38_9]; done) | (simp [FS38_9, *]; done) | (simp [FS38_9, gotV]; done) | (simp [FS38_9, gotV]; omega)), fun h => absurd h (by decide)⟩ (Below.refl _ _)
    | 1, _ =>
     injection ho with ho
     subst ho
     clear hl
     simp only [fillA, List.take, List.drop, put_none, Act.put, List.setIfInBounds_toArray, List.set_cons_zero, List.set_cons_succ, Nat.reduceAdd]
     clear hf
     go_wp2_with (fail)
     exact RQ.mk rfl ⟨(by first | rfl | (simp [FS38_9]; done) | (simp [FS38_9, *]; done) | (simp [FS38_9, gotV]; done) | (simp [FS38_9, gotV]; omega)), fun h => absurd h (by decide)⟩ (Below.refl _ _)
    | 2, _ =>
     injection ho with ho
     subst ho
     clear hl
     simp only [fillA, List.take, List.drop, put_none, Act.put, List.setIfInBounds_toArray, List.set_cons_zero, List.set_cons_succ, Nat.reduceAdd]
     clear hf
     go_wp2_with (fail)
     exact RQ.mk rfl ⟨(by first | rfl | (simp [FS38_9]; done) | (simp [FS38_9, *]; done) | (simp [FS38_9, gotV]; done) | (simp [FS38_9, gotV]; omega)), fun h => absurd h (by decide)⟩ (Below.refl _ _)
    | 3, _ =>
     injection ho with ho
     subst ho
     clear hl
     simp only [fillA, List.take, List.drop, put_none, Act.put, List.setIfInBounds_toArray, List.set_cons_zero, List.set_cons_succ, Nat.reduceAdd]
     clear hf
     go_wp2_with (fail)
     exact RQ.mk rfl ⟨(by first | rfl | (simp [FS38_9]; done) | (simp [FS38_9, *]; done) | (simp [FS38_9, gotV]; done) | (simp [FS38_9, gotV]; omega)), fun h => absurd h (by decide)⟩ (Below.refl _ _)
    | 4, _ =>
     injection ho with ho
     subst ho
     clear hl
     simp only [fillA, List.take, List.drop, put_none, Act.put, List.setIfInBounds_toArray, List.set_cons_zero, List.set_cons_succ, Nat.reduceAdd]
     have f2 := hf 2 (by decide) (by kernel_rfl)
     generalize vals 2 = v2 at *
     subst f2
     have f3 := hf 3 (by decide) (by kernel_rfl)
     generalize vals 3 = v3 at *
     subst f3
     clear hf
     go_wp2_with (fail)
     exact RQ.mk rfl ⟨(by first | rfl | (simp [FS38_9]; done) | (simp [FS38_9, *]; done) | (simp [FS38_9, gotV]; done) | (simp [FS38_9, gotV]; omega)), fun h => absurd h (by decide)⟩ (Below.refl _ _)
    | 5, _ =>
     injection ho with ho
     subst ho
     clear hl
     simp only [fillA, List.take, List.drop, put_none, Act.put, List.setIfInBounds_toArray, List.set_cons_zero, List.set_cons_succ, Nat.reduceAdd]
     have f4 := hf 4 (by decide) (by kernel_rfl)
     generalize vals 4 = v4 at *
     subst f4
     clear hf
     have hc1 := cellOf hb1
     have hf1 := frozOf hb1
     have hz1 := sizeOf hb1
     try simp at hz1
     go_wp2_with (fail)
     exact RQ.mk rfl ⟨(by first | rfl | (simp [FS38_9]; done) | (simp [FS38_9, *]; done) | (simp [FS38_9, gotV]; done) | (simp [FS38_9, gotV]; omega)), fun h => absurd h (by decide)⟩ (Below.refl _ _)
    | 6, _ =>
     injection ho with ho
     subst ho
     clear hl
     simp only [fillA, List.take, List.drop, put_none, Act.put, List.setIfInBounds_toArray, List.set_cons_zero, List.set_cons_succ, Nat.reduceAdd]
     have f1 := hf 1 (by decide) (by kernel_rfl)
     generalize vals 1 = v1 at *
     subst f1
     have f5 := hf 5 (by decide) (by kernel_rfl)
     generalize vals 5 = v5 at *
     subst f5
     clear hf
     have hc1 := cellOf hb1
     have hf1 := frozOf hb1
     have hz1 := sizeOf hb1
     try simp at hz1
     go_wp2_with (first | (go_at_call 72; refine (c_spec_l1Most _ _ _ ).mono ?_; rintro e w' ⟨rfl, hb⟩; have hc := cellOf hb; have hf := frozOf hb; have hz := sizeOf hb; try simp at hz))
     exact RQ.mk rfl ⟨(by first | rfl | (simp [FS38_9]; done) | (simp [FS38_9, *]; done) | (simp [FS38_9, gotV]; done) | (simp [FS38_9, gotV]; omega)), fun h => absurd h (by decide)⟩ (by (repeat' (first | exact Below.refl _ _ | assumption | refine Below.setCell ?_ ?_ _ | refine Below.drew ?_ | refine Below.alloc ?_ ?_ _ | refine Below.trans ?_ (Below.mono (by assumption) ?_) | (simp; done) | (simp; omega) | omega)))
    | 7, _ =>
     injection ho with ho
     subst ho
     clear hl
     simp only [fillA, List.take, List.drop, put_none, Act.put, List.setIfInBounds_toArray, List.set_cons_zero, List.set_cons_succ, Nat.reduceAdd]
     clear hf
     go_wp2_with (fail)
     exact RQ.mk rfl ⟨(by first | rfl | (simp [FS38_9]; done) | (simp [FS38_9, *]; done) | (simp [FS38_9, gotV]; done) | (simp [FS38_9, gotV]; omega)), fun h => absurd h (by decide)⟩ (Below.refl _ _)
    | 8, _ =>
     injection ho with ho
     subst ho
     clear hl
     simp only [fillA, List.take, List.drop, put_none, Act.put, List.setIfInBounds_toArray, List.set_cons_zero, List.set_cons_succ, Nat.reduceAdd]
     clear hf
     go_wp2_with (fail)
     exact RQ.mk rfl ⟨(by first | rfl | (simp [FS38_9]; done) | (simp [FS38_9, *]; done) | (simp [FS38_9, gotV]; done) | (simp [FS38_9, gotV]; omega)), fun h => absurd h (by decide)⟩ (Below.refl _ _)
    | 9, _ =>
     injection ho with ho
     subst ho
     clear hl
     simp only [fillA, List.take, List.drop, put_none, Act.put, List.setIfInBounds_toArray, List.set_cons_zero, List.set_cons_succ, Nat.reduceAdd]
     have f7 := hf 7 (by decide) (by kernel_rfl)
     generalize vals 7 = v7 at *
     subst f7
     have f8 := hf 8 (by decide) (by kernel_rfl)
     generalize vals 8 = v8 at *
     subst f8
     clear hf
     go_wp2_with (fail)
     exact RQ.mk rfl ⟨(by first | rfl | (simp [FS38_9]; done) | (simp [FS38_9, *]; done) | (simp [FS38_9, gotV]; done) | (simp [FS38_9, gotV]; omega)), fun h => absurd h (by decide)⟩ (Below.refl _ _)
    | 10, _ =>
     injection ho with ho
     subst ho
     clear hl
     simp only [fillA, List.take, List.drop, put_none, Act.put, List.setIfInBounds_toArray, List.set_cons_zero, List.set_cons_succ, Nat.reduceAdd]
     have f9 := hf 9 (by decide) (by kernel_rfl)
     generalize vals 9 = v9 at *
     subst f9
     clear hf
     have hc1 := cellOf hb1
     have hf1 := frozOf hb1
     have hz1 := sizeOf hb1
     try simp at hz1
     go_wp2_with (fail)
     exact RQ.mk rfl ⟨(by first | rfl | (simp [FS38_9]; done) | (simp [FS38_9, *]; done) | (simp [FS38_9, gotV]; done) | (simp [FS38_9, gotV]; omega)), fun h => absurd h (by decide)⟩ (Below.refl _ _)
    | 11, _ =>
     injection ho with ho
     subst ho
     clear hl
     simp only [fillA, List.take, List.drop, put_none, Act.put, List.setIfInBounds_toArray, List.set_cons_zero, List.set_cons_succ, Nat.reduceAdd]
     clear hf
     go_wp2_with (fail)
     exact RQ.mk rfl ⟨(by first | rfl | (simp [FS38_9]; done) | (simp [FS38_9, *]; done) | (simp [FS38_9, gotV]; done) | (simp [FS38_9, gotV]; omega)), fun h => absurd h (by decide)⟩ (Below.refl _ _)
    | 12, _ =>
     injection ho with ho
     subst ho
     clear hl
     simp only [fillA, List.take, List.drop, put_none, Act.put, List.setIfInBounds_toArray, List.set_cons_zero, List.set_cons_succ, Nat.reduceAdd]
     have f10 := hf 10 (by decide) (by kernel_rfl)
     generalize vals 10 = v10 at *
     subst f10
     have f11 := hf 11 (by decide) (by kernel_rfl)
     generalize vals 11 = v11 at *
     subst f11
     clear hf
     go_wp2_with (fail)
     exact RQ.mk rfl ⟨(by first | rfl | (simp [FS38_9]; done) | (simp [FS38_9, *]; done) | (simp [FS38_9, gotV]; done) | (simp [FS38_9, gotV]; omega)), fun h => absurd h (by decide)⟩ (Below.refl _ _)
    | 13, _ =>
     injection ho with ho
     subst ho
     clear hl
     simp only [fillA, List.take, List.drop, put_none, Act.put, List.setIfInBounds_toArray, List.set_cons_zero, List.set_cons_succ, Nat.reduceAdd]
     have f0 := hf 0 (by decide) (by kernel_rfl)
     generalize vals 0 = v0 at *
     subst f0
     have f6 := hf 6 (by decide) (by kernel_rfl)
     generalize vals 6 = v6 at *
     subst f6
     have f12 := hf 12 (by decide) (by kernel_rfl)
     generalize vals 12 = v12 at *
     subst f12
     clear hf
     have hc1 := cellOf hb1
     have hf1 := frozOf hb1
     have hz1 := sizeOf hb1
     try simp at hz1
     go_wp2_with (first | (go_at_call 59; refine (c_spec_l15Last _ _ xs _ _ _ _ _ (by first | assumption | exact Rds.below hx (by (repeat' (first | exact Below.refl _ _ | assumption | refine Below.setCell ?_ ?_ _ | refine Below.drew ?_ | refine Below.alloc ?_ ?_ _ | refine Below.trans ?_ (Below.mono (by assumption) ?_) | (simp; done) | (simp; omega) | omega)))) rfl (by omega) hok (by omega) (by omega)).mono ?_; rintro e w' ⟨rfl, hb⟩; have hc := cellOf hb; have hf := frozOf hb; have hz := sizeOf hb; try simp at hz))
     exact RQ.mk rfl ⟨(by first | rfl | (simp [FS38_9]; done) | (simp [FS38_9, *]; done) | (simp [FS38_9, gotV]; done) | (simp [FS38_9, gotV]; omega)), fun h => absurd h (by decide)⟩ (by (repeat' (first | exact Below.refl _ _ | assumption | refine Below.setCell ?_ ?_ _ | refine Below.drew ?_ | refine Below.alloc ?_ ?_ _ | refine Below.trans ?_ (Below.mono (by assumption) ?_) | (simp; done) | (simp; omega) | omega)))
    | m + 14, h => exact absurd h (by omega)
   ·intro vals w1 hb1 hf hd
    simp only [fillA, List.take, List.drop, put_none, Act.put, List.setIfInBounds_toArray, List.set_cons_zero, List.set_cons_succ, Nat.reduceAdd]
    clear hd
    have f0 := hf 0 (by decide)
    generalize vals 0 = v0 at *
    subst f0
    have f1 := hf 1 (by decide)
    generalize vals 1 = v1 at *
    subst f1
    have f2 := hf 2 (by decide)
    generalize vals 2 = v2 at *
    subst f2
    have f3 := hf 3 (by decide)
    generalize vals 3 = v3 at *
    subst f3
    have f4 := hf 4 (by decide)
    generalize vals 4 = v4 at *
    subst f4
    have f5 := hf 5 (by decide)
    generalize vals 5 = v5 at *
    subst f5
    have f6 := hf 6 (by decide)
    generalize vals 6 = v6 at *
    subst f6
    have f7 := hf 7 (by decide)
    generalize vals 7 = v7 at *
    subst f7
    have f8 := hf 8 (by decide)
    generalize vals 8 = v8 at *
    subst f8
    have f9 := hf 9 (by decide)
    generalize vals 9 = v9 at *
    subst f9
    have f10 := hf 10 (by decide)
    generalize vals 10 = v10 at *
    subst f10
    have f11 := hf 11 (by decide)
    generalize vals 11 = v11 at *
    subst f11
    have f12 := hf 12 (by decide)
    generalize vals 12 = v12 at *
    subst f12
    have f13 := hf 13 (by decide)
    generalize vals 13 = v13 at *
    subst f13
    clear hf
    have hc1 := cellOf hb1
    have hf1 := frozOf hb1
    have hz1 := sizeOf hb1
    try simp at hz1
    simp only [HL2.out, lastI]
    go_wp2_with (fail)
    go_ret2
    simp only [HV.out]
    exact ⟨_, _, rfl, FreshA.new (by first | omega | (simp at *; omega)), by (repeat' (first | exact Below.refl _ _ | assumption | refine Below.setCell ?_ ?_ _ | refine Below.drew ?_ | refine Below.alloc ?_ ?_ _ | refine Below.trans ?_ (Below.mono (by assumption) ?_) | (simp; done) | (simp; omega) | omega))⟩
  | some u =>
   have HS := hid (HN.out.trans (fewN_some HNO.out hlf))
   have hub := lastF_some hlf
   have hud := mayB_bd hub.2.2.1
   have hub2 : r ≤ u := by omega
   have HL2 : Hid (lastF d xs (max r m) (m + p) = some u) := HLS.out.trans hlf
   clear hub HZ HN hlf
   go_wp2_with (first | (go_at_call 67; refine (c_spec_l15First _ out _ _ _ _ (by first | assumption | exact Rds.below HRO.out (by (repeat' (first | exact Below.refl _ _ | assumption | refine Below.setCell ?_ ?_ _ | refine Below.drew ?_ | refine Below.alloc ?_ ?_ _ | refine Below.trans ?_ (Below.mono (by assumption) ?_) | (simp; done) | (simp; omega) | omega)))) rfl (by omega)).mono ?_; rintro e w' ⟨rfl, hb⟩; have hc := cellOf hb; have hf := frozOf hb; have hz := sizeOf hb; try simp at hz))
   refine wp_region_w (n := 14) [] [] (FS38_9_44 d A xs cap xs.length r m p bx ox k rs.length capr w) rfl (by kernel_rfl) (fun _ _ d _ _ h => by cases d <;> exact h) ?_ ?_ ?_ ?_ ?_ ?_
   ·intro iq
    match iq with
    | 0 | 1 | 2 | 3 | 4 | 5 | 6 | 7 | 8 | 9 | 10 | 11 | 12 | 13 => exact Stable.const _
    | n + 14 => exact Stable.const _
   ·intro iq hi
    exact absurd hi (by simp)
   ·intro iq hi
    exact absurd hi (by simp)
   ·intro iq o hi hl ho vals w1 hb1 hf
    exact absurd hl (by simp)
   ·intro iq o hi hl ho vals w1 hb1 hf
    match iq, hi with
    | 0, _ =>
     injection ho with ho
     subst ho
     clear hl
     simp only [fillA, List.take, List.drop, put_none, Act.put, List.setIfInBounds_toArray, List.set_cons_zero, List.set_cons_succ, Nat.reduceAdd]
     clear hf
     have hc1 := cellOf hb1
     have hf1 := frozOf hb1
     have hz1 := sizeOf hb1
     try simp at hz1
     go_wp2_with (fail)
     exact RQ.mk rfl ⟨(by first | rfl | (simp [FS38_9_44]; done) | (simp [FS38_9_44, *]; done) | (simp [FS38_9_44, gotV]; done) | (simp [FS38_9_44, gotV]; omega)), fun h => absurd h (by decide)⟩ (Below.refl _ _)
    | 1, _ =>
     injection ho with ho
     subst ho
     clear hl
     simp only [fillA, List.take, List.drop, put_none, Act.put, List.setIfInBounds_toArray, List.set_cons_zero, List.set_cons_succ, Nat.reduceAdd]
     clear hf
     go_wp2_with (fail)
     exact RQ.mk rfl ⟨(by first | rfl | (simp [FS38_9_44]; done) | (simp [FS38_9_44, *]; done) | (simp [FS38_9_44, gotV]; done) | (simp [FS38_9_44, gotV]; omega)), fun h => absurd h (by decide)⟩ (Below.refl _ _)
    | 2, _ =>
     injection ho with ho
     subst ho
     clear hl
     simp only [fillA, List.take, List.drop, put_none, Act.put, List.setIfInBounds_toArray, List.set_cons_zero, List.set_cons_succ, Nat.reduceAdd]
     clear hf
     go_wp2_with (fail)
     exact RQ.mk rfl ⟨(by first | rfl | (simp [FS38_9_44]; done) | (simp [FS38_9_44, *]; done) | (simp [FS38_9_44, gotV]; done) | (simp [FS38_9_44, gotV]; omega)), fun h => absurd h (by decide)⟩ (Below.refl _ _)
    | 3, _ =>
     injection ho with ho
     subst ho
     clear hl
     simp only [fillA, List.take, List.drop, put_none, Act.put, List.setIfInBounds_toArray, List.set_cons_zero, List.set_cons_succ, Nat.reduceAdd]
     clear hf
     go_wp2_with (fail)
     exact RQ.mk rfl ⟨(by first | rfl | (simp [FS38_9_44]; done) | (simp [FS38_9_44, *]; done) | (simp [FS38_9_44, gotV]; done) | (simp [FS38_9_44, gotV]; omega)), fun h => absurd h (by decide)⟩ (Below.refl _ _)
    | 4, _ =>
     injection ho with ho
     subst ho
     clear hl
     simp only [fillA, List.take, List.drop, put_none, Act.put, List.setIfInBounds_toArray, List.set_cons_zero, List.set_cons_succ, Nat.reduceAdd]
     have f2 := hf 2 (by decide) (by kernel_rfl)
     generalize vals 2 = v2 at *
     subst f2
     have f3 := hf 3 (by decide) (by kernel_rfl)
     generalize vals 3 = v3 at *
     subst f3
     clear hf
     go_wp2_with (fail)
     exact RQ.mk rfl ⟨(by first | rfl | (simp [FS38_9_44]; done) | (simp [FS38_9_44, *]; done) | (simp [FS38_9_44, gotV]; done) | (simp [FS38_9_44, gotV]; omega)), fun h => absurd h (by decide)⟩ (Below.refl _ _)
    | 5, _ =>
     injection ho with ho
     subst ho
     clear hl
     simp only [fillA, List.take, List.drop, put_none, Act.put, List.setIfInBounds_toArray, List.set_cons_zero, List.set_cons_succ, Nat.reduceAdd]
     have f4 := hf 4 (by decide) (by kernel_rfl)
     generalize vals 4 = v4 at *
     subst f4
     clear hf
     have hc1 := cellOf hb1
     have hf1 := frozOf hb1
     have hz1 := sizeOf hb1
     try simp at hz1
     go_wp2_with (fail)
     exact RQ.mk rfl ⟨(by first | rfl | (simp [FS38_9_44]; done) | (simp [FS38_9_44, *]; done) | (simp [FS38_9_44, gotV]; done) | (simp [FS38_9_44, gotV]; omega)), fun h => absurd h (by decide)⟩ (Below.refl _ _)
    | 6, _ =>
     injection ho with ho
     subst ho
     clear hl
     simp only [fillA, List.take, List.drop, put_none, Act.put, List.setIfInBounds_toArray, List.set_cons_zero, List.set_cons_succ, Nat.reduceAdd]
     have f1 := hf 1 (by decide) (by kernel_rfl)
     generalize vals 1 = v1 at *
     subst f1
     have f5 := hf 5 (by decide) (by kernel_rfl)
     generalize vals 5 = v5 at *
     subst f5
     clear hf
     have hc1 := cellOf hb1
     have hf1 := frozOf hb1
     have hz1 := sizeOf hb1
     try simp at hz1
     go_wp2_with (first | (go_at_call 72; refine (c_spec_l1Most _ _ _ ).mono ?_; rintro e w' ⟨rfl, hb⟩; have hc := cellOf hb; have hf := frozOf hb; have hz := sizeOf hb; try simp at hz))
     exact RQ.mk rfl ⟨(by first | rfl | (simp [FS38_9_44]; done) | (simp [FS38_9_44, *]; done) | (simp [FS38_9_44, gotV]; done) | (simp [FS38_9_44, gotV]; omega)), fun h => absurd h (by decide)⟩ (by (repeat' (first | exact Below.refl _ _ | assumption | refine Below.setCell ?_ ?_ _ | refine Below.drew ?_ | refine Below.alloc ?_ ?_ _ | refine Below.trans ?_ (Below.mono (by assumption) ?_) | (simp; done) | (simp; omega) | omega)))
    | 7, _ =>
     injection ho with ho
     subst ho
     clear hl
     simp only [fillA, List.take, List.drop, put_none, Act.put, List.setIfInBounds_toArray, List.set_cons_zero, List.set_cons_succ, Nat.reduceAdd]
     clear hf
     go_wp2_with (fail)
     exact RQ.mk rfl ⟨(by first | rfl | (simp [FS38_9_44]; done) | (simp [FS38_9_44, *]; done) | (simp [FS38_9_44, gotV]; done) | (simp [FS38_9_44, gotV]; omega)), fun h => absurd h (by decide)⟩ (Below.refl _ _)
    | 8, _ =>
     injection ho with ho
     subst ho
     clear hl
     simp only [fillA, List.take, List.drop, put_none, Act.put, List.setIfInBounds_toArray, List.set_cons_zero, List.set_cons_succ, Nat.reduceAdd]
     clear hf
     go_wp2_with (fail)
     exact RQ.mk rfl ⟨(by first | rfl | (simp [FS38_9_44]; done) | (simp [FS38_9_44, *]; done) | (simp [FS38_9_44, gotV]; done) | (simp [FS38_9_44, gotV]; omega)), fun h => absurd h (by decide)⟩ (Below.refl _ _)
    | 9, _ =>
     injection ho with ho
     subst ho
     clear hl
     simp only [fillA, List.take, List.drop, put_none, Act.put, List.setIfInBounds_toArray, List.set_cons_zero, List.set_cons_succ, Nat.reduceAdd]
     have f7 := hf 7 (by decide) (by kernel_rfl)
     generalize vals 7 = v7 at *
     subst f7
     have f8 := hf 8 (by decide) (by kernel_rfl)
     generalize vals 8 = v8 at *
     subst f8
     clear hf
     go_wp2_with (fail)
     exact RQ.mk rfl ⟨(by first | rfl | (simp [FS38_9_44]; done) | (simp [FS38_9_44, *]; done) | (simp [FS38_9_44, gotV]; done) | (simp [FS38_9_44, gotV]; omega)), fun h => absurd h (by decide)⟩ (Below.refl _ _)
    | 10, _ =>
     injection ho with ho
     subst ho
     clear hl
     simp only [fillA, List.take, List.drop, put_none, Act.put, List.setIfInBounds_toArray, List.set_cons_zero, List.set_cons_succ, Nat.reduceAdd]
     have f9 := hf 9 (by decide) (by kernel_rfl)
     generalize vals 9 = v9 at *
     subst f9
     clear hf
     have hc1 := cellOf hb1
     have hf1 := frozOf hb1
     have hz1 := sizeOf hb1
     try simp at hz1
     go_wp2_with (fail)
     exact RQ.mk rfl ⟨(by first | rfl | (simp [FS38_9_44]; done) | (simp [FS38_9_44, *]; done) | (simp [FS38_9_44, gotV]; done) | (simp [FS38_9_44, gotV]; omega)), fun h => absurd h (by decide)⟩ (Below.refl _ _)
    | 11, _ =>
     injection ho with ho
     subst ho
     clear hl
     simp only [fillA, List.take, List.drop, put_none, Act.put, List.setIfInBounds_toArray, List.set_cons_zero, List.set_cons_succ, Nat.reduceAdd]
     clear hf
     go_wp2_with (fail)
     exact RQ.mk rfl ⟨(by first | rfl | (simp [FS38_9_44]; done) | (simp [FS38_9_44, *]; done) | (simp [FS38_9_44, gotV]; done) | (simp [FS38_9_44, gotV]; omega)), fun h => absurd h (by decide)⟩ (Below.refl _ _)
    | 12, _ =>
     injection ho with ho
     subst ho
     clear hl
     simp only [fillA, List.take, List.drop, put_none, Act.put, List.setIfInBounds_toArray, List.set_cons_zero, List.set_cons_succ, Nat.reduceAdd]
     have f10 := hf 10 (by decide) (by kernel_rfl)
     generalize vals 10 = v10 at *
     subst f10
     have f11 := hf 11 (by decide) (by kernel_rfl)
     generalize vals 11 = v11 at *
     subst f11
     clear hf
     go_wp2_with (fail)
     exact RQ.mk rfl ⟨(by first | rfl | (simp [FS38_9_44]; done) | (simp [FS38_9_44, *]; done) | (simp [FS38_9_44, gotV]; done) | (simp [FS38_9_44, gotV]; omega)), fun h => absurd h (by decide)⟩ (Below.refl _ _)
    | 13, _ =>
     injection ho with ho
     subst ho
     clear hl
     simp only [fillA, List.take, List.drop, put_none, Act.put, List.setIfInBounds_toArray, List.set_cons_zero, List.set_cons_succ, Nat.reduceAdd]
     have f0 := hf 0 (by decide) (by kernel_rfl)
     generalize vals 0 = v0 at *
     subst f0
     have f6 := hf 6 (by decide) (by kernel_rfl)
     generalize vals 6 = v6 at *
     subst f6
     have f12 := hf 12 (by decide) (by kernel_rfl)
     generalize vals 12 = v12 at *
     subst f12
     clear hf
     have hc1 := cellOf hb1
     have hf1 := frozOf hb1
     have hz1 := sizeOf hb1
     try simp at hz1
     go_wp2_with (first | (go_at_call 59; refine (c_spec_l15Last _ _ xs _ _ _ _ _ (by first | assumption | exact Rds.below hx (by (repeat' (first | exact Below.refl _ _ | assumption | refine Below.setCell ?_ ?_ _ | refine Below.drew ?_ | refine Below.alloc ?_ ?_ _ | refine Below.trans ?_ (Below.mono (by assumption) ?_) | (simp; done) | (simp; omega) | omega)))) rfl (by omega) hok (by omega) (by omega)).mono ?_; rintro e w' ⟨rfl, hb⟩; have hc := cellOf hb; have hf := frozOf hb; have hz := sizeOf hb; try simp at hz))
     exact RQ.mk rfl ⟨(by first | rfl | (simp [FS38_9_44]; done) | (simp [FS38_9_44, *]; done) | (simp [FS38_9_44, gotV]; done) | (simp [FS38_9_44, gotV]; omega)), fun h => absurd h (by decide)⟩ (by (repeat' (first | exact Below.refl _ _ | assumption | refine Below.setCell ?_ ?_ _ | refine Below.drew ?_ | refine Below.alloc ?_ ?_ _ | refine Below.trans ?_ (Below.mono (by assumption) ?_) | (simp; done) | (simp; omega) | omega)))
    | m + 14, h => exact absurd h (by omega)
   ·intro vals w1 hb1 hf hd
    simp only [fillA, List.take, List.drop, put_none, Act.put, List.setIfInBounds_toArray, List.set_cons_zero, List.set_cons_succ, Nat.reduceAdd]
    clear hd
    have f0 := hf 0 (by decide)
    generalize vals 0 = v0 at *
    subst f0
    have f1 := hf 1 (by decide)
    generalize vals 1 = v1 at *
    subst f1
    have f2 := hf 2 (by decide)
    generalize vals 2 = v2 at *
    subst f2
    have f3 := hf 3 (by decide)
    generalize vals 3 = v3 at *
    subst f3
    have f4 := hf 4 (by decide)
    generalize vals 4 = v4 at *
    subst f4
    have f5 := hf 5 (by decide)
    generalize vals 5 = v5 at *
    subst f5
    have f6 := hf 6 (by decide)
    generalize vals 6 = v6 at *
    subst f6
    have f7 := hf 7 (by decide)
    generalize vals 7 = v7 at *
    subst f7
    have f8 := hf 8 (by decide)
    generalize vals 8 = v8 at *
    subst f8
    have f9 := hf 9 (by decide)
    generalize vals 9 = v9 at *
    subst f9
    have f10 := hf 10 (by decide)
    generalize vals 10 = v10 at *
    subst f10
    have f11 := hf 11 (by decide)
    generalize vals 11 = v11 at *
    subst f11
    have f12 := hf 12 (by decide)
    generalize vals 12 = v12 at *
    subst f12
    have f13 := hf 13 (by decide)
    generalize vals 13 = v13 at *
    subst f13
    clear hf
    have hc1 := cellOf hb1
    have hf1 := frozOf hb1
    have hz1 := sizeOf hb1
    try simp at hz1
    simp only [HL2.out, lastI]
    go_wp2_with (at_builtin; refine wpList_push rfl (.tmp 49) (.tmp 51) 40 rfl 3 i0 _ 1 8 Try.underlying40 hI0 hI1 hI2 hI3 rfl (by decide) (fun _ => rfl) one_In ((w.heap.size + 1)) _ out.length cp (out) rfl rfl (HF.out.below (by (repeat' (first | exact Below.refl _ _ | assumption | refine Below.setCell ?_ ?_ _ | refine Below.drew ?_ | refine Below.alloc ?_ ?_ _ | refine Below.trans ?_ (Below.mono (by assumption) ?_) | (simp; done) | (simp; omega) | omega)))) (u) _ 1 rfl ?_ ?_ ?_ ?_ ?_; (refine news_In _ _ _ ?_ <;> simp [go_sem, ↓IntWalk.iteOmega]); (unfold maxLen; omega); omega; (simp; omega); intro A3 cp3 w3 hF3 hg3 hat3; have hc3 := cellGrown hg3 hlo hhi; have hf3 := frozGrown hg3 hlo hhi; have hs3 := hg3.size; (try simp at hs3); have hb3 := below_of_grown (B := w.heap.size) hg3 (hlo.mono (by omega)) (by simp; omega))
    go_roundw
    case rel =>
     refine ⟨k + 1, A3, cp3, out ++ [u], u + d, by omega, by go_num, by simp, rfl, hF3, HS.out, fewOk_snoc HFO.out hdb.1 hub2 hud.2, by simp; omega, ?_, ?_, ?_, by (repeat' (first | exact Below.refl _ _ | assumption | refine Below.setCell ?_ ?_ _ | refine Below.drew ?_ | refine Below.alloc ?_ ?_ _ | refine Below.trans ?_ (Below.mono (by assumption) ?_) | (simp; done) | (simp; omega) | omega))⟩
     all_goals first | (simp [go_sem, ↓IntWalk.iteOmega, *]; done) | omega | (simp [go_sem, ↓IntWalk.iteOmega, *]; omega)
    case measure => simp [intOf]; omega

end Go.Proofs.Yteciijnpfapmhaa
namespace Go.Proofs.Yteciijnpfapmhaa
set_option linter.unusedSimpArgs false
set_option linter.unusedVariables false
open Go.RowKit

set_option maxHeartbeats 400000 in
theorem c_cmp_isNaN_int_ (x : Int) (w : World)  :
  Calls Try.prog 96 #[.int .i64 (x)] w fun e w' => e = .returned (.bool (false)) ∧ Below w.heap.size w w' := by
 go_enter Try.func96, Try.ntmps96
 go_wp2
 all_goals go_ret
 all_goals
  refine ⟨ret_bool ?_, ?_⟩
  ·first | rfl | omega | (simp []; done) | (simp []; omega) | (simp []; (repeat' split) <;> (first | omega | (simp; done) | (simp; omega))) | (simp_all []; done) | (simp_all []; omega)
  ·(repeat' (first | exact Below.refl _ _ | assumption | refine Below.setCell ?_ ?_ _ | refine Below.drew ?_ | refine Below.alloc ?_ ?_ _ | refine Below.trans ?_ (Below.mono (by assumption) ?_) | (simp; done) | (simp; omega) | omega))

set_option maxHeartbeats 400000 in
theorem c_cmp_Less_int_ (x y : Int) (w : World)  :
  Calls Try.prog 94 #[.int .i64 (x), .int .i64 (y)] w fun e w' => e = .returned (.bool (decide (x < y))) ∧ Below w.heap.size w w' := by
 go_enter Try.func94, Try.ntmps94
 go_wp2_with (first | (go_at_call 96; refine (c_cmp_isNaN_int_ _ _ ).mono ?_; rintro e w' ⟨rfl, hb⟩; have hc := cellOf hb; have hf := frozOf hb; have hz := sizeOf hb; try simp at hz))
 all_goals go_ret
 all_goals
  refine ⟨ret_bool ?_, ?_⟩
  ·first | rfl | omega | (simp []; done) | (simp []; omega) | (simp []; (repeat' split) <;> (first | omega | (simp; done) | (simp; omega))) | (simp_all []; done) | (simp_all []; omega)
  ·(repeat' (first | exact Below.refl _ _ | assumption | refine Below.setCell ?_ ?_ _ | refine Below.drew ?_ | refine Below.alloc ?_ ?_ _ | refine Below.trans ?_ (Below.mono (by assumption) ?_) | (simp; done) | (simp; omega) | omega))

def FS86_4 (x y : Int) (bx ox k n0 cap : Nat) (w W0 : World) (iq : Nat) (v : Value) (w1 : World) : Prop := match iq with
 | 0 => v = .slice (some ⟨bx, ox, none⟩) n0 cap
 | 1 => v = .int .i64 (k + 1)
 | 2 => v = .pointer (some ⟨bx, ox + (k + 1), none⟩)
 | 3 => v = .int .i64 (x)
 | 4 => v = .slice (some ⟨bx, ox, none⟩) n0 cap
 | 5 => v = .int .i64 (k + 1)
 | 6 => v = .int .i64 (k)
 | 7 => v = .pointer (some ⟨bx, ox + k, none⟩)
 | 8 => v = .int .i64 (y)
 | 9 => v = .bool (decide (x < y))
 | _ => True

set_option maxRecDepth 100000 in
set_option maxHeartbeats 2000000 in
theorem c_sorted (A : Option Addr) (rs : List Int) (cap : Nat) (w : World) (hr : Rds cIn 1 w A rs) (hn : rs.length ≤ 9223372036854775807) :
  Calls Try.prog 86 #[.slice A rs.length cap] w fun e w' => e = .returned (.bool (sortB rs)) ∧ Below w.heap.size w w' := by
 go_enter Try.func86, Try.ntmps86
 go_wp2_with (fail)
 go_loopw [3] (fun i wr => ∃ k : Nat, k ≤ rs.length ∧ i = .int .i64 ((k : Int) - 1) ∧ (∀ j, k ≤ j → j < rs.length → vAt (fun _ => true) reqLe rs j = true) ∧ Below w.heap.size w wr) (fun i _ => (intOf i + 1).toNat)
 case atStart => exact ⟨rs.length, Nat.le_refl _, rfl, fun j h1 h2 => absurd h2 (by omega), by (repeat' (first | exact Below.refl _ _ | assumption | refine Below.setCell ?_ ?_ _ | refine Below.drew ?_ | refine Below.alloc ?_ ?_ _ | refine Below.trans ?_ (Below.mono (by assumption) ?_) | (simp; done) | (simp; omega) | omega))⟩
 case round =>
  obtain ⟨k, hk, rfl, hl, hbr⟩ := hrel
  have HL := hid hl
  clear hl
  by_cases hlt : 2 ≤ k
  ·obtain ⟨k, rfl⟩ : ∃ m, k = m + 2 := ⟨k - 2, by omega⟩
   have hk1 : k + 1 < rs.length := by omega
   have hk0 : k < rs.length := by omega
   have e1 : (((k + 2 : Nat) : Int) - 1) = (k : Int) + 1 := by omega
   rw [e1]
   clear e1
   obtain ⟨bx, ox, rfl, hbx, hcx⟩ := Rds.all hr (by omega)
   have hx0 := hcx (k + 1) hk1 0 _ rfl
   have hy0 := hcx k hk0 0 _ rfl
   simp only [Nat.add_zero, Nat.mul_one] at hx0 hy0
   have HV := hid (vAt_succ (good := fun _ => true) (lt := reqLe) k hk1)
   have HB := hid (sortB_bad (rs := rs) hk1)
   have hc := cellOf hbr
   have hf := frozOf hbr
   have hz := sizeOf hbr
   clear hcx hr
   generalize rs[k + 1] = x at *
   generalize rs[k] = y at *
   go_wp2_with (fail)
   refine wp_region_w (n := 10) [] [] (FS86_4 x y bx ox k rs.length cap w) rfl (by kernel_rfl) (fun _ _ d _ _ h => by cases d <;> exact h) ?_ ?_ ?_ ?_ ?_ ?_
   ·intro iq
    match iq with
    | 0 | 1 | 2 | 3 | 4 | 5 | 6 | 7 | 8 | 9 => exact Stable.const _
    | n + 10 => exact Stable.const _
   ·intro iq hi
    exact absurd hi (by simp)
   ·intro iq hi
    exact absurd hi (by simp)
   ·intro iq o hi hl ho vals w1 hb1 hf
    exact absurd hl (by simp)
   ·intro iq o hi hl ho vals w1 hb1 hf
    match iq, hi with
    | 0, _ =>
     injection ho with ho
     subst ho
     clear hl
     simp only [fillA, List.take, List.drop, put_none, Act.put, List.setIfInBounds_toArray, List.set_cons_zero, List.set_cons_succ, Nat.reduceAdd]
     clear hf
     go_wp2_with (fail)
     exact RQ.mk rfl ⟨(by first | rfl | (simp [FS86_4]; done) | (simp [FS86_4, *]; done) | (simp [FS86_4, gotV]; done) | (simp [FS86_4, gotV]; omega)), fun h => absurd h (by decide)⟩ (Below.refl _ _)
    | 1, _ =>
     injection ho with ho
     subst ho
     clear hl
     simp only [fillA, List.take, List.drop, put_none, Act.put, List.setIfInBounds_toArray, List.set_cons_zero, List.set_cons_succ, Nat.reduceAdd]
     clear hf
     go_wp2_with (fail)
     exact RQ.mk rfl ⟨(by first | rfl | (simp [FS86_4]; done) | (simp [FS86_4, *]; done) | (simp [FS86_4, gotV]; done) | (simp [FS86_4, gotV]; omega)), fun h => absurd h (by decide)⟩ (Below.refl _ _)
    | 2, _ =>
     injection ho with ho
     subst ho
     clear hl
     simp only [fillA, List.take, List.drop, put_none, Act.put, List.setIfInBounds_toArray, List.set_cons_zero, List.set_cons_succ, Nat.reduceAdd]
     have f0 := hf 0 (by decide) (by kernel_rfl)
     generalize vals 0 = v0 at *
     subst f0
     have f1 := hf 1 (by decide) (by kernel_rfl)
     generalize vals 1 = v1 at *
     subst f1
     clear hf
     go_wp2_with (fail)
     exact RQ.mk rfl ⟨(by first | rfl | (simp [FS86_4]; done) | (simp [FS86_4, *]; done) | (simp [FS86_4, gotV]; done) | (simp [FS86_4, gotV]; omega)), fun h => absurd h (by decide)⟩ (Below.refl _ _)
    | 3, _ =>
     injection ho with ho
     subst ho
     clear hl
     simp only [fillA, List.take, List.drop, put_none, Act.put, List.setIfInBounds_toArray, List.set_cons_zero, List.set_cons_succ, Nat.reduceAdd]
     have f2 := hf 2 (by decide) (by kernel_rfl)
     generalize vals 2 = v2 at *
     subst f2
     clear hf
     have hc1 := cellOf hb1
     have hf1 := frozOf hb1
     have hz1 := sizeOf hb1
     try simp at hz1
     go_wp2_with (fail)
     exact RQ.mk rfl ⟨(by first | rfl | (simp [FS86_4]; done) | (simp [FS86_4, *]; done) | (simp [FS86_4, gotV]; done) | (simp [FS86_4, gotV]; omega)), fun h => absurd h (by decide)⟩ (Below.refl _ _)
    | 4, _ =>
     injection ho with ho
     subst ho
     clear hl
     simp only [fillA, List.take, List.drop, put_none, Act.put, List.setIfInBounds_toArray, List.set_cons_zero, List.set_cons_succ, Nat.reduceAdd]
     clear hf
     go_wp2_with (fail)
     exact RQ.mk rfl ⟨(by first | rfl | (simp [FS86_4]; done) | (simp [FS86_4, *]; done) | (simp [FS86_4, gotV]; done) | (simp [FS86_4, gotV]; omega)), fun h => absurd h (by decide)⟩ (Below.refl _ _)
    | 5, _ =>
     injection ho with ho
     subst ho
     clear hl
     simp only [fillA, List.take, List.drop, put_none, Act.put, List.setIfInBounds_toArray, List.set_cons_zero, List.set_cons_succ, Nat.reduceAdd]
     clear hf
     go_wp2_with (fail)
     exact RQ.mk rfl ⟨(by first | rfl | (simp [FS86_4]; done) | (simp [FS86_4, *]; done) | (simp [FS86_4, gotV]; done) | (simp [FS86_4, gotV]; omega)), fun h => absurd h (by decide)⟩ (Below.refl _ _)
    | 6, _ =>
     injection ho with ho
     subst ho
     clear hl
     simp only [fillA, List.take, List.drop, put_none, Act.put, List.setIfInBounds_toArray, List.set_cons_zero, List.set_cons_succ, Nat.reduceAdd]
     have f5 := hf 5 (by decide) (by kernel_rfl)
     generalize vals 5 = v5 at *
     subst f5
     clear hf
     go_wp2_with (fail)
     exact RQ.mk rfl ⟨(by first | rfl | (simp [FS86_4]; done) | (simp [FS86_4, *]; done) | (simp [FS86_4, gotV]; done) | (simp [FS86_4, gotV]; omega)), fun h => absurd h (by decide)⟩ (Below.refl _ _)
    | 7, _ =>
     injection ho with ho
     subst ho
     clear hl
     simp only [fillA, List.take, List.drop, put_none, Act.put, List.setIfInBounds_toArray, List.set_cons_zero, List.set_cons_succ, Nat.reduceAdd]
     have f4 := hf 4 (by decide) (by kernel_rfl)
     generalize vals 4 = v4 at *
     subst f4
     have f6 := hf 6 (by decide) (by kernel_rfl)
     generalize vals 6 = v6 at *
     subst f6
     clear hf
     go_wp2_with (fail)
     exact RQ.mk rfl ⟨(by first | rfl | (simp [FS86_4]; done) | (simp [FS86_4, *]; done) | (simp [FS86_4, gotV]; done) | (simp [FS86_4, gotV]; omega)), fun h => absurd h (by decide)⟩ (Below.refl _ _)
    | 8, _ =>
     injection ho with ho
     subst ho
     clear hl
     simp only [fillA, List.take, List.drop, put_none, Act.put, List.setIfInBounds_toArray, List.set_cons_zero, List.set_cons_succ, Nat.reduceAdd]
     have f7 := hf 7 (by decide) (by kernel_rfl)
     generalize vals 7 = v7 at *
     subst f7
     clear hf
     have hc1 := cellOf hb1
     have hf1 := frozOf hb1
     have hz1 := sizeOf hb1
     try simp at hz1
     go_wp2_with (fail)
     exact RQ.mk rfl ⟨(by first | rfl | (simp [FS86_4]; done) | (simp [FS86_4, *]; done) | (simp [FS86_4, gotV]; done) | (simp [FS86_4, gotV]; omega)), fun h => absurd h (by decide)⟩ (Below.refl _ _)
    | 9, _ =>
     injection ho with ho
     subst ho
     clear hl
     simp only [fillA, List.take, List.drop, put_none, Act.put, List.setIfInBounds_toArray, List.set_cons_zero, List.set_cons_succ, Nat.reduceAdd]
     have f3 := hf 3 (by decide) (by kernel_rfl)
     generalize vals 3 = v3 at *
     subst f3
     have f8 := hf 8 (by decide) (by kernel_rfl)
     generalize vals 8 = v8 at *
     subst f8
     clear hf
     have hc1 := cellOf hb1
     have hf1 := frozOf hb1
     have hz1 := sizeOf hb1
     try simp at hz1
     go_wp2_with (first | (go_at_call 94; refine (c_cmp_Less_int_ _ _ _ ).mono ?_; rintro e w' ⟨rfl, hb⟩; have hc := cellOf hb; have hf := frozOf hb; have hz := sizeOf hb; try simp at hz))
     exact RQ.mk rfl ⟨(by first | rfl | (simp [FS86_4]; done) | (simp [FS86_4, *]; done) | (simp [FS86_4, gotV]; done) | (simp [FS86_4, gotV]; omega)), fun h => absurd h (by decide)⟩ (by (repeat' (first | exact Below.refl _ _ | assumption | refine Below.setCell ?_ ?_ _ | refine Below.drew ?_ | refine Below.alloc ?_ ?_ _ | refine Below.trans ?_ (Below.mono (by assumption) ?_) | (simp; done) | (simp; omega) | omega)))
   ·intro vals w1 hb1 hf hd
    simp only [fillA, List.take, List.drop, put_none, Act.put, List.setIfInBounds_toArray, List.set_cons_zero, List.set_cons_succ, Nat.reduceAdd]
    clear hd
    have f0 := hf 0 (by decide)
    generalize vals 0 = v0 at *
    subst f0
    have f1 := hf 1 (by decide)
    generalize vals 1 = v1 at *
    subst f1
    have f2 := hf 2 (by decide)
    generalize vals 2 = v2 at *
    subst f2
    have f3 := hf 3 (by decide)
    generalize vals 3 = v3 at *
    subst f3
    have f4 := hf 4 (by decide)
    generalize vals 4 = v4 at *
    subst f4
    have f5 := hf 5 (by decide)
    generalize vals 5 = v5 at *
    subst f5
    have f6 := hf 6 (by decide)
    generalize vals 6 = v6 at *
    subst f6
    have f7 := hf 7 (by decide)
    generalize vals 7 = v7 at *
    subst f7
    have f8 := hf 8 (by decide)
    generalize vals 8 = v8 at *
    subst f8
    have f9 := hf 9 (by decide)
    generalize vals 9 = v9 at *
    subst f9
    clear hf
    have hc1 := cellOf hb1
    have hf1 := frozOf hb1
    have hz1 := sizeOf hb1
    try simp at hz1
    by_cases hxy : x < y
    ·have HN := hid (HV.out.trans (show (true && reqLe y x) = false by simp [reqLe]; omega))
     go_wp2_with (fail)
     go_ret
     exact ⟨ret_bool (by rw [HB.out HN.out]), by (repeat' (first | exact Below.refl _ _ | assumption | refine Below.setCell ?_ ?_ _ | refine Below.drew ?_ | refine Below.alloc ?_ ?_ _ | refine Below.trans ?_ (Below.mono (by assumption) ?_) | (simp; done) | (simp; omega) | omega))⟩
    ·have HN := hid (HV.out.trans (show (true && reqLe y x) = true by simp [reqLe]; omega))
     go_wp2_with (fail)
     go_roundw
     case rel =>
      refine ⟨k + 1, by omega, by go_num, fun j h1 h2 => ?_, by (repeat' (first | exact Below.refl _ _ | assumption | refine Below.setCell ?_ ?_ _ | refine Below.drew ?_ | refine Below.alloc ?_ ?_ _ | refine Below.trans ?_ (Below.mono (by assumption) ?_) | (simp; done) | (simp; omega) | omega))⟩
      rcases Nat.lt_or_ge j (k + 2) with h | h
      ·obtain rfl : j = k + 1 := by omega
       exact HN.out
      ·exact HL.out j h h2
     case measure => simp [intOf]; omega
  ·have HD := hid (sortB_all (rs := rs) (fun j hj => by
    cases j with
    | zero => rw [vAt_zero hj]
    | succ j => exact HL.out (j + 1) (by omega) hj))
   go_wp2_with (fail)
   go_ret
   exact ⟨ret_bool (by rw [HD.out]), by (repeat' (first | exact Below.refl _ _ | assumption | refine Below.setCell ?_ ?_ _ | refine Below.drew ?_ | refine Below.alloc ?_ ?_ _ | refine Below.trans ?_ (Below.mono (by assumption) ?_) | (simp; done) | (simp; omega) | omega))⟩

end Go.Proofs.Yteciijnpfapmhaa
namespace Go.Proofs.Yteciijnpfapmhaa
set_option linter.unusedSimpArgs false
set_option linter.unusedVariables false
open Go.RowKit

set_option maxRecDepth 100000 in
set_option maxHeartbeats 4000000 in
theorem c_impl_waits (A B : Option Addr) (rs pl : List Int) (cap cp0 : Nat) (w : World) (hr : Rds cIn 1 w A rs) (hp : Rds cIn 1 w B pl) (hn : rs.length ≤ 100000000) (hn2 : pl.length ≤ 9223372036854775807) (hrm : ∀ k (hk : k < rs.length), minP rs[k]) (hpm : ∀ k (hk : k < pl.length), minP pl[k]) :
  Calls Try.prog 65 #[.slice A rs.length cap, .slice B pl.length cp0] w fun e w' => ∃ A' cap', e = .returned (.slice A' (waitsL rs pl).length cap') ∧ FreshA cIn 1 3 w.heap.size w' A' cap' (waitsL rs pl) ∧ Below w.heap.size w w' := by
 obtain ⟨i0, hI0, hI1, hI2, hI3⟩ := info_parts info_In
 go_enter Try.func65, Try.ntmps65
 go_wp2_with (fail)
 go_loopw [5, 14] (fun v i wr => ∃ (k : Nat) (A' : Option Addr) (cp : Nat) (out : List Int), k ≤ rs.length ∧ i = .int .i64 k ∧ v = .slice A' k cp ∧ FreshA cIn 1 3 w.heap.size wr A' cp out ∧ out = waitsL (rs.take k) pl ∧ out.length = k ∧ Below w.heap.size w wr) (fun _ i _ => rs.length - (intOf i).toNat)
 case atStart => exact ⟨0, _, _, [], Nat.zero_le _, rfl, rfl, FreshA.emp (by (repeat' (first | exact Below.refl _ _ | assumption | refine Below.setCell ?_ ?_ _ | refine Below.drew ?_ | refine Below.alloc ?_ ?_ _ | refine Below.trans ?_ (Below.mono (by assumption) ?_) | (simp; done) | (simp; omega) | omega))), rfl, rfl, by (repeat' (first | exact Below.refl _ _ | assumption | refine Below.setCell ?_ ?_ _ | refine Below.drew ?_ | refine Below.alloc ?_ ?_ _ | refine Below.trans ?_ (Below.mono (by assumption) ?_) | (simp; done) | (simp; omega) | omega))⟩
 case round =>
  obtain ⟨k, A', cp, out, hk, rfl, rfl, hF, hT, hol, hbr⟩ := hrel
  have hlo := hF.lo
  have hhi := hF.hi
  have hc := cellOf hbr
  have hf := frozOf hbr
  have hz := sizeOf hbr
  have HOL := hid hol
  clear hol
  by_cases hlt : k < rs.length
  ·obtain ⟨bx, ox, rfl, hbx, hcx⟩ := hr k rs[k] (List.getElem?_eq_getElem hlt)
   have hx0 := hcx 0 _ rfl
   simp only [Nat.add_zero, Nat.mul_one] at hx0
   have HS := hid (waitsL_snoc rs pl k hlt)
   have HT := hid hT
   have HF := hid hF
   have hmb := hrm k hlt
   clear hr hcx hT hF
   generalize rs[k] = m at *
   have HW := hid (waitO_bd (m := m) hmb hpm)
   go_wp2_with (fail)
   go_loopw [8, 20] (fun o i wv => ∃ q : Nat, q ≤ pl.length ∧ i = .int .i64 q ∧ o = .int .i64 (waitO (pl.take q) m) ∧ wv = wr) (fun _ i _ => pl.length - (intOf i).toNat)
   case atStart => exact ⟨0, Nat.zero_le _, rfl, rfl, rfl⟩
   case round =>
    obtain ⟨q, hq, rfl, rfl, rfl⟩ := hrel
    have hwb := HW.out q hq
    by_cases hql : q < pl.length
    ·obtain ⟨by_, oy, rfl, hby, hcy⟩ := hp q pl[q] (List.getElem?_eq_getElem hql)
     have hy0 := hcy 0 _ rfl
     simp only [Nat.add_zero, Nat.mul_one] at hy0
     have HQ := hid (waitO_snoc pl m q hql)
     have htb := hpm q hql
     clear hcy hp hpm
     generalize pl[q] = t at *
     generalize waitO (pl.take q) m = own at *
     unfold minP at hmb htb
     by_cases h1 : m ≤ t
     ·by_cases h2 : own < 0 ∨ t - m < own
      ·have HQ2 := hid (HQ.out.trans (show waitS m own t = t - m by unfold waitS; rw [if_pos ⟨h1, h2⟩]))
       rcases h2 with h2 | h2
       ·go_wp2_with (fail)
        go_roundw
        case rel => exact ⟨q + 1, by omega, by go_num, by rw [HQ2.out], by first | rfl | trivial⟩
        case measure => simp [intOf]; omega
       ·by_cases h3 : own < 0
        ·go_wp2_with (fail)
         go_roundw
         case rel => exact ⟨q + 1, by omega, by go_num, by rw [HQ2.out], by first | rfl | trivial⟩
         case measure => simp [intOf]; omega
        ·go_wp2_with (fail)
         go_roundw
         case rel => exact ⟨q + 1, by omega, by go_num, by rw [HQ2.out], by first | rfl | trivial⟩
         case measure => simp [intOf]; omega
      ·have HQ2 := hid (HQ.out.trans (show waitS m own t = own by unfold waitS; rw [if_neg (fun e => h2 e.2)]))
       have h3 : ¬ own < 0 := fun e => h2 (.inl e)
       have h4 : ¬ t - m < own := fun e => h2 (.inr e)
       clear h2
       go_wp2_with (fail)
       go_roundw
       case rel => exact ⟨q + 1, by omega, by go_num, by rw [HQ2.out], by first | rfl | trivial⟩
       case measure => simp [intOf]; omega
     ·have HQ2 := hid (HQ.out.trans (show waitS m own t = own by unfold waitS; rw [if_neg (fun e => h1 e.1)]))
      go_wp2_with (fail)
      go_roundw
      case rel => exact ⟨q + 1, by omega, by go_num, by rw [HQ2.out], by first | rfl | trivial⟩
      case measure => simp [intOf]; omega
    ·obtain rfl : q = pl.length := by omega
     rw [List.take_length]
     rw [List.take_length] at hwb
     generalize waitO pl m = own at *
     go_wp2_with ((at_builtin; refine wpList_push rfl (.tmp 42) (.tmp 44) 40 rfl 3 i0 _ 1 8 Try.underlying40 hI0 hI1 hI2 hI3 rfl (by decide) (fun _ => rfl) one_In (w.heap.size) A' k cp (out) HOL.out rfl (HF.out.below (by (repeat' (first | exact Below.refl _ _ | assumption | refine Below.setCell ?_ ?_ _ | refine Below.drew ?_ | refine Below.alloc ?_ ?_ _ | refine Below.trans ?_ (Below.mono (by assumption) ?_) | (simp; done) | (simp; omega) | omega)))) (own) _ 1 rfl ?_ ?_ ?_ ?_ ?_; (refine news_In _ _ _ ?_ <;> simp [go_sem, ↓IntWalk.iteOmega]); (unfold maxLen; omega); omega; (simp; omega); intro A3 cp3 w3 hF3 hg3 hat3; have hc3 := cellGrown hg3 hlo hhi; have hf3 := frozGrown hg3 hlo hhi; have hs3 := hg3.size; (try simp at hs3); have hb3 := below_of_grown (B := w.heap.size) hg3 (hlo.mono (by omega)) (by simp; omega)))
     go_roundw
     case rel => exact ⟨k + 1, A3, cp3, out ++ [own], by omega, by go_num, rfl, hF3, by rw [HS.out, HT.out], by simp [HOL.out], by (repeat' (first | exact Below.refl _ _ | assumption | refine Below.setCell ?_ ?_ _ | refine Below.drew ?_ | refine Below.alloc ?_ ?_ _ | refine Below.trans ?_ (Below.mono (by assumption) ?_) | (simp; done) | (simp; omega) | omega))⟩
     case measure => simp [intOf]; omega
  ·obtain rfl : k = rs.length := by omega
   rw [List.take_length] at hT
   go_wp2_with (fail)
   go_ret
   exact ⟨A', cp, by simp [waitsL], by rw [← hT]; exact hF, by (repeat' (first | exact Below.refl _ _ | assumption | refine Below.setCell ?_ ?_ _ | refine Below.drew ?_ | refine Below.alloc ?_ ?_ _ | refine Below.trans ?_ (Below.mono (by assumption) ?_) | (simp; done) | (simp; omega) | omega))⟩

end Go.Proofs.Yteciijnpfapmhaa
namespace Go.Proofs.Yteciijnpfapmhaa
set_option linter.unusedSimpArgs false
set_option linter.unusedVariables false
open Go.RowKit

set_option maxHeartbeats 2000000 in
theorem c_impl_mayOpen_1 (a b t d : Int) (bp bq : Nat) (w : World) (hbp0 : w.cell? ⟨bp, 0, none⟩ = some (.int .i64 (t))) (hlbp : bp < w.heap.size) (hbq0 : w.cell? ⟨bq, 0, none⟩ = some (.int .i64 (t + d - 1))) (hlbq : bq < w.heap.size) (hab : a ≤ b) (hd : 1 ≤ d) :
  Calls Try.prog 85 #[.agg #[.int .i64 (a), .int .i64 (b)], .pointer (some ⟨bp, 0, none⟩), .pointer (some ⟨bq, 0, none⟩)] w fun e w' => e = .returned (.bool (decide (t ≤ b ∧ a ≤ t + d - 1))) ∧ Below w.heap.size w w' := by
 go_enter Try.func85, Try.ntmps85
 go_wp2
 all_goals go_ret
 all_goals
  refine ⟨ret_bool ?_, ?_⟩
  ·first | rfl | omega | (simp []; done) | (simp []; omega) | (simp []; (repeat' split) <;> (first | omega | (simp; done) | (simp; omega))) | (simp_all []; done) | (simp_all []; omega)
  ·(repeat' (first | exact Below.refl _ _ | assumption | refine Below.setCell ?_ ?_ _ | refine Below.drew ?_ | refine Below.alloc ?_ ?_ _ | refine Below.trans ?_ (Below.mono (by assumption) ?_) | (simp; done) | (simp; omega) | omega))

set_option maxHeartbeats 2000000 in
theorem c_idx_may (A : Option Addr) (xs : List (Int × Int)) (cap : Nat) (t d : Int) (bp bq : Nat) (w : World) (h0 : Rds cIv 2 w A xs) (hn : xs.length ≤ 9223372036854775807) (hbp0 : w.cell? ⟨bp, 0, none⟩ = some (.int .i64 (t))) (hlbp : bp < w.heap.size) (hbq0 : w.cell? ⟨bq, 0, none⟩ = some (.int .i64 (t + d - 1))) (hlbq : bq < w.heap.size) (hok : ∀ k (hk : k < xs.length), ivP xs[k]) (hd : 1 ≤ d ∧ d ≤ 30) (ht : 0 ≤ t ∧ t ≤ 99999) :
  Calls Try.prog 93 #[.slice A xs.length cap, .func (.func 85) #[] #[.pointer (some ⟨bp, 0, none⟩), .pointer (some ⟨bq, 0, none⟩)]] w fun e w' => e = .returned (.int .i64 (idxF (hitI t d) xs)) ∧ Below w.heap.size w w' := by
 go_enter Try.func93, Try.ntmps93
 go_wp2_with (fail)
 go_loopw [5, 8] (fun _ i wr => ∃ k : Nat, k ≤ xs.length ∧ i = .int .i64 k ∧ (xs.take k).any (hitI t d) = false ∧ Below w.heap.size w wr) (fun _ i _ => xs.length - (intOf i).toNat)
 case atStart => exact ⟨0, Nat.zero_le _, rfl, rfl, Below.refl _ _⟩
 case round =>
  obtain ⟨k, hk, rfl, hl, hbr⟩ := hrel
  have HT := hid hl
  clear hl
  by_cases hlt : k < xs.length
  ·obtain ⟨bx, ox, rfl, hbx, hcx⟩ := h0 k xs[k] (List.getElem?_eq_getElem hlt)
   have hx0 := hcx 0 _ rfl
   have hx1 := hcx 1 _ rfl
   simp only [Nat.add_zero] at hx0
   clear hcx h0
   have hbx := hok k hlt
   clear hok
   have HS := hid (any_snoc (hitI t d) xs k hlt)
   have HH := hid (fun hp => idxF_hit (p := (hitI t d)) (xs := xs) HT.out hlt hp)
   obtain ⟨x, hxk⟩ : ∃ x, x = xs[k] := ⟨_, rfl⟩
   simp only [← hxk] at hx0 hx1 HS HH hbx
   clear hxk
   have hc := cellOf hbr
   have hf := frozOf hbr
   have hz := sizeOf hbr
   have mbp0 : wr.cell? ⟨bp, 0, none⟩ = some (.int .i64 (t)) := by rw [hc, if_pos hlbp]; exact hbp0
   have mlbp : bp < wr.heap.size := by omega
   have mbq0 : wr.cell? ⟨bq, 0, none⟩ = some (.int .i64 (t + d - 1)) := by rw [hc, if_pos hlbq]; exact hbq0
   have mlbq : bq < wr.heap.size := by omega
   unfold ivP at hbx
   by_cases hp : (hitI t d) x = true
   ·have HP := hid hp
    have hp' := hp
    simp only [hitI] at hp'
    clear hp
    go_wp2_with (go_at_call 85; refine (c_impl_mayOpen_1 _ _ t d bp bq _ mbp0 mlbp mbq0 mlbq (by omega) (by omega)).mono ?_; rintro e w2 ⟨rfl, hb2⟩)
    go_ret
    exact ⟨ret_int (HH.out HP.out).symm, by (repeat' (first | exact Below.refl _ _ | assumption | refine Below.setCell ?_ ?_ _ | refine Below.drew ?_ | refine Below.alloc ?_ ?_ _ | refine Below.trans ?_ (Below.mono (by assumption) ?_) | (simp; done) | (simp; omega) | omega))⟩
   ·have HP : Hid ((hitI t d) x = false) := by show _ = _; simpa using hp
    have hp' := HP.out
    simp only [hitI] at hp'
    clear hp
    go_wp2_with (go_at_call 85; refine (c_impl_mayOpen_1 _ _ t d bp bq _ mbp0 mlbp mbq0 mlbq (by omega) (by omega)).mono ?_; rintro e w2 ⟨rfl, hb2⟩)
    go_roundw
    case rel => exact ⟨k + 1, by omega, by go_num, by rw [HS.out, HT.out, HP.out]; rfl, by (repeat' (first | exact Below.refl _ _ | assumption | refine Below.setCell ?_ ?_ _ | refine Below.drew ?_ | refine Below.alloc ?_ ?_ _ | refine Below.trans ?_ (Below.mono (by assumption) ?_) | (simp; done) | (simp; omega) | omega))⟩
    case measure => simp [intOf]; omega
  ·obtain rfl : k = xs.length := by omega
   have HN := hid (idxF_none (p := (hitI t d)) (xs := xs) (by have := HT.out; rwa [List.take_length] at this))
   go_wp2_with (fail)
   go_ret
   exact ⟨ret_int HN.out.symm, by (repeat' (first | exact Below.refl _ _ | assumption | refine Below.setCell ?_ ?_ _ | refine Below.drew ?_ | refine Below.alloc ?_ ?_ _ | refine Below.trans ?_ (Below.mono (by assumption) ?_) | (simp; done) | (simp; omega) | omega))⟩

set_option maxHeartbeats 2000000 in
theorem c_has_may (A : Option Addr) (xs : List (Int × Int)) (cap : Nat) (t d : Int) (bp bq : Nat) (w : World) (h0 : Rds cIv 2 w A xs) (hn : xs.length ≤ 9223372036854775807) (hbp0 : w.cell? ⟨bp, 0, none⟩ = some (.int .i64 (t))) (hlbp : bp < w.heap.size) (hbq0 : w.cell? ⟨bq, 0, none⟩ = some (.int .i64 (t + d - 1))) (hlbq : bq < w.heap.size) (hok : ∀ k (hk : k < xs.length), ivP xs[k]) (hd : 1 ≤ d ∧ d ≤ 30) (ht : 0 ≤ t ∧ t ≤ 99999) :
  Calls Try.prog 84 #[.slice A xs.length cap, .func (.func 85) #[] #[.pointer (some ⟨bp, 0, none⟩), .pointer (some ⟨bq, 0, none⟩)]] w fun e w' => e = .returned (.bool (xs.any (hitI t d))) ∧ Below w.heap.size w w' := by
 go_enter Try.func84, Try.ntmps84
 go_wp2_with (go_at_call 93; refine (c_idx_may _ _ _ _ _ _ _ _ (by assumption) (by assumption) (by assumption) (by assumption) (by assumption) (by assumption) hok hd ht).mono ?_; rintro e w' ⟨rfl, hb⟩)
 all_goals go_ret
 all_goals exact ⟨ret_bool (by rw [← idxF_any]; simp), by (repeat' (first | exact Below.refl _ _ | assumption | refine Below.setCell ?_ ?_ _ | refine Below.drew ?_ | refine Below.alloc ?_ ?_ _ | refine Below.trans ?_ (Below.mono (by assumption) ?_) | (simp; done) | (simp; omega) | omega))⟩

set_option maxRecDepth 100000 in
set_option maxHeartbeats 2000000 in
theorem c_impl_mayOpen (d : Int) (A : Option Addr) (xs : List (Int × Int)) (n cap : Nat) (t : Int) (w : World) (hx : Rds cIv 2 w A xs) (hxl : xs.length = n) (hn : xs.length ≤ 9223372036854775807) (hok : ∀ k (hk : k < xs.length), ivP xs[k]) (hd : 1 ≤ d ∧ d ≤ 30) (ht : 0 ≤ t ∧ t ≤ 99999) :
  Calls Try.prog 58 #[.agg #[.int .i64 d, .slice A n cap], .int .i64 t] w fun e w' => e = .returned (.bool (mayB d xs t)) ∧ Below w.heap.size w w' := by
 subst hxl
 have HV := hid (show mayB d xs t = (decide (0 ≤ t ∧ t + d ≤ 10000) && !xs.any (hitI t d)) from rfl)
 by_cases h1 : t + d ≤ 10000
 ·rw [show decide (0 ≤ t ∧ t + d ≤ 10000) = true by simp; omega] at HV
  go_enter Try.func58, Try.ntmps58
  go_wp2_with (go_at_call 84; refine (c_has_may _ _ _ t d (w.heap.size + 1) (w.heap.size + 2) _ (by first | assumption | exact Rds.below hx (by (repeat' (first | exact Below.refl _ _ | assumption | refine Below.setCell ?_ ?_ _ | refine Below.drew ?_ | refine Below.alloc ?_ ?_ _ | refine Below.trans ?_ (Below.mono (by assumption) ?_) | (simp; done) | (simp; omega) | omega)))) hn (by first | assumption | (simp [go_sem, ↓IntWalk.iteOmega, *]; done)) (by first | omega | (simp; done) | (simp; omega)) (by first | assumption | (simp [go_sem, ↓IntWalk.iteOmega, *]; done)) (by first | omega | (simp; done) | (simp; omega)) hok hd (by omega)).mono ?_; rintro e w' ⟨rfl, hb⟩)
  all_goals go_ret
  all_goals exact ⟨ret_bool (by rw [HV.out]; simp), by (repeat' (first | exact Below.refl _ _ | assumption | refine Below.setCell ?_ ?_ _ | refine Below.drew ?_ | refine Below.alloc ?_ ?_ _ | refine Below.trans ?_ (Below.mono (by assumption) ?_) | (simp; done) | (simp; omega) | omega))⟩
 ·rw [show decide (0 ≤ t ∧ t + d ≤ 10000) = false by simp; omega] at HV
  go_enter Try.func58, Try.ntmps58
  go_wp2_with (fail)
  all_goals go_ret
  all_goals exact ⟨ret_bool (by rw [HV.out]; simp), by (repeat' (first | exact Below.refl _ _ | assumption | refine Below.setCell ?_ ?_ _ | refine Below.drew ?_ | refine Below.alloc ?_ ?_ _ | refine Below.trans ?_ (Below.mono (by assumption) ?_) | (simp; done) | (simp; omega) | omega))⟩

end Go.Proofs.Yteciijnpfapmhaa
