import Derived.Test.YtfipmalomhflgaaB1s
import Derived.Test.YtfipmalomhflgaaB1c
import Derived.Test.YtfipmalomhflgaaVL
namespace Go.Proofs.Ytfipmalomhflgaa
set_option linter.unusedSimpArgs false
set_option linter.unusedVariables false
open Go.RowKit

def FS52_11 (x z : Int × Int × Int × Int × Int) (bx ox m k n0 cap : Nat) (w W0 : World) (iq : Nat) (v : Value) (w1 : World) : Prop := match iq with
  | 0 => v = .slice (some ⟨bx, ox, none⟩) n0 cap
  | 1 => v = .int .i64 (m)
  | 2 => v = .pointer (some ⟨bx, ox + m * 5, none⟩)
  | 3 => v = .agg #[.int .i64 (z.1), .int .i64 (z.2.1), .int .i64 (z.2.2.1), .int .i64 (z.2.2.2.1), .int .i64 (z.2.2.2.2)]
  | 4 => v = .slice (some ⟨bx, ox, none⟩) n0 cap
  | 5 => v = .int .i64 (k + 1)
  | 6 => v = .pointer (some ⟨bx, ox + (k + 1) * 5, none⟩)
  | 7 => v = .agg #[.int .i64 (x.1), .int .i64 (x.2.1), .int .i64 (x.2.2.1), .int .i64 (x.2.2.2.1), .int .i64 (x.2.2.2.2)]
  | 8 => v = .bool (crashB (z.2.1) (z.2.2.1) (z.2.2.2.1) (z.2.2.2.2) (x.2.1) (x.2.2.1) (x.2.2.2.1) (x.2.2.2.2))
  | _ => True

def FS52_6 (q : Int) (wr : World) (x y : Int × Int × Int × Int × Int) (bx ox k n0 cap : Nat) (w W0 : World) (iq : Nat) (v : Value) (w1 : World) : Prop := match iq with
  | 0 => v = .int .i64 (q)
  | 1 => v = .slice (some ⟨bx, ox, none⟩) n0 cap
  | 2 => v = .int .i64 (0)
  | 3 => v = .pointer (some ⟨bx, ox + 0 * 5, none⟩)
  | 4 => v = .agg #[.int .i64 (x.1), .int .i64 (x.2.1), .int .i64 (x.2.2.1), .int .i64 (x.2.2.2.1), .int .i64 (x.2.2.2.2)]
  | 5 => v = .bool (true)
  | 6 => v = .bool (false)
  | 7 => v = .bool (false)
  | 8 => v = .int .i64 (0)
  | 9 => v = .bool (false)
  | 10 => v = .bool (false)
  | 11 => v = undef
  | 12 => v = undef
  | 13 => v = undef
  | 14 => v = undef
  | 15 => v = undef
  | 16 => v = undef
  | 17 => v = undef
  | 18 => v = undef
  | 19 => v = undef
  | 20 => v = undef
  | 21 => v = undef
  | 22 => v = undef
  | 23 => v = .bool (false)
  | 24 => v = .bool (false)
  | _ => True

def FS52_6_9 (q : Int) (wr : World) (x y : Int × Int × Int × Int × Int) (bx ox k n0 cap : Nat) (w W0 : World) (iq : Nat) (v : Value) (w1 : World) : Prop := match iq with
  | 0 => v = .int .i64 (q)
  | 1 => v = .slice (some ⟨bx, ox, none⟩) n0 cap
  | 2 => v = .int .i64 (0)
  | 3 => v = .pointer (some ⟨bx, ox + 0 * 5, none⟩)
  | 4 => v = .agg #[.int .i64 (x.1), .int .i64 (x.2.1), .int .i64 (x.2.2.1), .int .i64 (x.2.2.2.1), .int .i64 (x.2.2.2.2)]
  | 5 => v = .bool (false)
  | 6 => v = .bool (true)
  | 7 => v = .bool (true)
  | 8 => v = undef
  | 9 => v = undef
  | 10 => v = undef
  | 11 => v = undef
  | 12 => v = undef
  | 13 => v = undef
  | 14 => v = undef
  | 15 => v = undef
  | 16 => v = undef
  | 17 => v = undef
  | 18 => v = undef
  | 19 => v = undef
  | 20 => v = undef
  | 21 => v = undef
  | 22 => v = undef
  | 23 => v = undef
  | 24 => v = .bool (true)
  | _ => True

def FS52_6_10 (q : Int) (wr : World) (x y : Int × Int × Int × Int × Int) (bx ox k n0 cap : Nat) (w W0 : World) (iq : Nat) (v : Value) (w1 : World) : Prop := match iq with
  | 0 => v = .int .i64 (q)
  | 1 => v = .slice (some ⟨bx, ox, none⟩) n0 cap
  | 2 => v = .int .i64 (k + 1)
  | 3 => v = .pointer (some ⟨bx, ox + (k + 1) * 5, none⟩)
  | 4 => v = .agg #[.int .i64 (x.1), .int .i64 (x.2.1), .int .i64 (x.2.2.1), .int .i64 (x.2.2.2.1), .int .i64 (x.2.2.2.2)]
  | 5 => v = .bool (false)
  | 6 => v = .bool (true)
  | 7 => v = .bool (true)
  | 8 => v = undef
  | 9 => v = undef
  | 10 => v = undef
  | 11 => v = undef
  | 12 => v = undef
  | 13 => v = undef
  | 14 => v = undef
  | 15 => v = undef
  | 16 => v = undef
  | 17 => v = undef
  | 18 => v = undef
  | 19 => v = undef
  | 20 => v = undef
  | 21 => v = undef
  | 22 => v = undef
  | 23 => v = undef
  | 24 => v = .bool (true)
  | _ => True

def FS52_6_11 (q : Int) (wr : World) (x y : Int × Int × Int × Int × Int) (bx ox k n0 cap : Nat) (w W0 : World) (iq : Nat) (v : Value) (w1 : World) : Prop := match iq with
  | 0 => v = .int .i64 (q)
  | 1 => v = .slice (some ⟨bx, ox, none⟩) n0 cap
  | 2 => v = .int .i64 (k + 1)
  | 3 => v = .pointer (some ⟨bx, ox + (k + 1) * 5, none⟩)
  | 4 => v = .agg #[.int .i64 (x.1), .int .i64 (x.2.1), .int .i64 (x.2.2.1), .int .i64 (x.2.2.2.1), .int .i64 (x.2.2.2.2)]
  | 5 => v = .bool (true)
  | 6 => v = .bool (false)
  | 7 => v = .bool (false)
  | 8 => v = .int .i64 (k + 1)
  | 9 => v = .bool (true)
  | 10 => v = .bool (true)
  | 11 => v = .slice (some ⟨bx, ox, none⟩) n0 cap
  | 12 => v = .int .i64 (k + 1)
  | 13 => v = .int .i64 (k)
  | 14 => v = .pointer (some ⟨bx, ox + k * 5, none⟩)
  | 15 => v = .pointer (some ⟨bx, ox + k * 5, none⟩)
  | 16 => v = .int .i64 (y.1)
  | 17 => v = .slice (some ⟨bx, ox, none⟩) n0 cap
  | 18 => v = .int .i64 (k + 1)
  | 19 => v = .pointer (some ⟨bx, ox + (k + 1) * 5, none⟩)
  | 20 => v = .pointer (some ⟨bx, ox + (k + 1) * 5, none⟩)
  | 21 => v = .int .i64 (x.1)
  | 22 => v = .bool (true)
  | 23 => v = .bool (true)
  | 24 => v = .bool (true)
  | _ => True

def FS52_6_12 (q : Int) (wr : World) (x y : Int × Int × Int × Int × Int) (bx ox k n0 cap : Nat) (w W0 : World) (iq : Nat) (v : Value) (w1 : World) : Prop := match iq with
  | 0 => v = .int .i64 (q)
  | 1 => v = .slice (some ⟨bx, ox, none⟩) n0 cap
  | 2 => v = .int .i64 (k + 1)
  | 3 => v = .pointer (some ⟨bx, ox + (k + 1) * 5, none⟩)
  | 4 => v = .agg #[.int .i64 (x.1), .int .i64 (x.2.1), .int .i64 (x.2.2.1), .int .i64 (x.2.2.2.1), .int .i64 (x.2.2.2.2)]
  | 5 => v = .bool (true)
  | 6 => v = .bool (false)
  | 7 => v = .bool (false)
  | 8 => v = .int .i64 (k + 1)
  | 9 => v = .bool (true)
  | 10 => v = .bool (true)
  | 11 => v = .slice (some ⟨bx, ox, none⟩) n0 cap
  | 12 => v = .int .i64 (k + 1)
  | 13 => v = .int .i64 (k)
  | 14 => v = .pointer (some ⟨bx, ox + k * 5, none⟩)
  | 15 => v = .pointer (some ⟨bx, ox + k * 5, none⟩)
  | 16 => v = .int .i64 (y.1)
  | 17 => v = .slice (some ⟨bx, ox, none⟩) n0 cap
  | 18 => v = .int .i64 (k + 1)
  | 19 => v = .pointer (some ⟨bx, ox + (k + 1) * 5, none⟩)
  | 20 => v = .pointer (some ⟨bx, ox + (k + 1) * 5, none⟩)
  | 21 => v = .int .i64 (x.1)
  | 22 => v = .bool (false)
  | 23 => v = .bool (false)
  | 24 => v = .bool (false)
  | _ => True

set_option maxRecDepth 100000 in
set_option maxHeartbeats 4000000 in
theorem c_spec_l16Good (q : Int) (A : Option Addr) (xs : List (Int × Int × Int × Int × Int)) (cap : Nat) (w : World) (h0 : Rds cBer 5 w A xs) (hn : xs.length ≤ 9223372036854775807) :
    Calls Try.prog 52 #[.int .i64 q, .slice A xs.length cap] w fun e w' => e = .returned (.bool (berV q xs)) ∧ Below w.heap.size w w' := by
  by_cases hq : inB q 1 20 = true
  rotate_left
  · have hn0 : inB q 1 20 = false := Bool.eq_false_iff.2 hq
    have HV := hid (berV_noquay (xs := xs) hn0)
    clear hq
    go_enter Try.func52, Try.ntmps52
    go_wp2_with (first | (go_at_call 57; refine (c_spec_l1In _ _ _ _ ).mono ?_; rintro e w' ⟨rfl, hb⟩; have hc := cellOf hb; have hf := frozOf hb; have hz := sizeOf hb; try simp at hz))
    all_goals go_ret
    all_goals exact ⟨ret_bool (by rw [HV.out]), by (repeat' (first | exact Below.refl _ _ | assumption | refine Below.setCell ?_ ?_ _ | refine Below.drew ?_ | refine Below.alloc ?_ ?_ _ | refine Below.trans ?_ (Below.mono (by assumption) ?_) | (simp; done) | (simp; omega) | omega))⟩
  have hqb := inB_bd hq
  go_enter Try.func52, Try.ntmps52
  go_wp2_with (first | (go_at_call 57; refine (c_spec_l1In _ _ _ _ ).mono ?_; rintro e w' ⟨rfl, hb⟩; have hc := cellOf hb; have hf := frozOf hb; have hz := sizeOf hb; try simp at hz))
  go_loopw [5] (fun i wr => ∃ k : Nat, k ≤ xs.length ∧ k ≤ 11 ∧ i = .int .i64 k ∧ (∀ j, j < k → berAt q xs j = true) ∧ Below w.heap.size w wr) (fun i _ => xs.length - (intOf i).toNat)
  case atStart => exact ⟨0, Nat.zero_le _, by omega, rfl, fun j hj => absurd hj (Nat.not_lt_zero j), by (repeat' (first | exact Below.refl _ _ | assumption | refine Below.setCell ?_ ?_ _ | refine Below.drew ?_ | refine Below.alloc ?_ ?_ _ | refine Below.trans ?_ (Below.mono (by assumption) ?_) | (simp; done) | (simp; omega) | omega))⟩
  case round =>
    obtain ⟨k, hk, hk11, rfl, hl, hbr⟩ := hrel
    by_cases hlt : k < xs.length ∧ k ≤ 10
    · obtain ⟨hlt, hk10⟩ := hlt
      obtain ⟨bx, ox, rfl, hbx, hcx⟩ := Rds.all h0 (by omega)
      have HB := hid (berV_bad (q := q) hlt)
      have HL := hid hl
      clear hl h0
      have hc := cellOf hbr
      have hf := frozOf hbr
      have hz := sizeOf hbr
      cases k with
      | zero =>
        have HV := hid (berAt_zero (q := q) hlt)
        have hx0 := hcx 0 hlt 0 _ rfl
        have hx1 := hcx 0 hlt 1 _ rfl
        have hx2 := hcx 0 hlt 2 _ rfl
        have hx3 := hcx 0 hlt 3 _ rfl
        have hx4 := hcx 0 hlt 4 _ rfl
        simp only [Nat.zero_mul, Nat.add_zero] at hx0 hx1 hx2 hx3 hx4
        clear hcx
        generalize xs[0] = x at *
        by_cases hg : berOk q x = true
        · have HG := hid hg
          have hxb := berOk_bd hg
          simp only [berOk] at hg
          go_wp2_with (fail)
          refine wp_region_w (n := 25) [] [] (FS52_6 q wr x x bx ox 0 xs.length cap w) rfl (by kernel_rfl) (fun _ _ d _ _ h => by cases d <;> exact h) ?_ ?_ ?_ ?_ ?_ ?_
          · intro iq
            match iq with
            | 0 | 1 | 2 | 3 | 4 | 5 | 6 | 7 | 8 | 9 | 10 | 11 | 12 | 13 | 14 | 15 | 16 | 17 | 18 | 19 | 20 | 21 | 22 | 23 | 24 => exact Stable.const _
            | n + 25 => exact Stable.const _
          · intro iq hi
            exact absurd hi (by simp)
          · intro iq hi
            exact absurd hi (by simp)
          · intro iq o hi hl ho vals w1 hb1 hf
            exact absurd hl (by simp)
          · intro iq o hi hl ho vals w1 hb1 hf
            match iq, hi with
            | 0, _ =>
              injection ho with ho
              subst ho
              clear hl
              simp only [fillA, List.take, List.drop, put_none, Act.put, List.setIfInBounds_toArray, List.set_cons_zero, List.set_cons_succ, Nat.reduceAdd]
              clear hf
              go_wp2_with (fail)
              exact RQ.mk rfl ⟨(by first | rfl | (simp [FS52_6]; done) | (simp [FS52_6, *]; done) | (simp [FS52_6, gotV]; done) | (simp [FS52_6, gotV]; omega)), fun h => absurd h (by decide)⟩ (Below.refl _ _)
            | 1, _ =>
              injection ho with ho
              subst ho
              clear hl
              simp only [fillA, List.take, List.drop, put_none, Act.put, List.setIfInBounds_toArray, List.set_cons_zero, List.set_cons_succ, Nat.reduceAdd]
              clear hf
              go_wp2_with (fail)
              exact RQ.mk rfl ⟨(by first | rfl | (simp [FS52_6]; done) | (simp [FS52_6, *]; done) | (simp [FS52_6, gotV]; done) | (simp [FS52_6, gotV]; omega)), fun h => absurd h (by decide)⟩ (Below.refl _ _)
            | 2, _ =>
              injection ho with ho
              subst ho
              clear hl
              simp only [fillA, List.take, List.drop, put_none, Act.put, List.setIfInBounds_toArray, List.set_cons_zero, List.set_cons_succ, Nat.reduceAdd]
              clear hf
              go_wp2_with (fail)
              exact RQ.mk rfl ⟨(by first | rfl | (simp [FS52_6]; done) | (simp [FS52_6, *]; done) | (simp [FS52_6, gotV]; done) | (simp [FS52_6, gotV]; omega)), fun h => absurd h (by decide)⟩ (Below.refl _ _)
            | 3, _ =>
              injection ho with ho
              subst ho
              clear hl
              simp only [fillA, List.take, List.drop, put_none, Act.put, List.setIfInBounds_toArray, List.set_cons_zero, List.set_cons_succ, Nat.reduceAdd]
              have f1 := hf 1 (by decide) (by kernel_rfl)
              generalize vals 1 = v1 at *
              subst f1
              have f2 := hf 2 (by decide) (by kernel_rfl)
              generalize vals 2 = v2 at *
              subst f2
              clear hf
              go_wp2_with (fail)
              exact RQ.mk rfl ⟨(by first | rfl | (simp [FS52_6]; done) | (simp [FS52_6, *]; done) | (simp [FS52_6, gotV]; done) | (simp [FS52_6, gotV]; omega)), fun h => absurd h (by decide)⟩ (Below.refl _ _)
            | 4, _ =>
              injection ho with ho
              subst ho
              clear hl
              simp only [fillA, List.take, List.drop, put_none, Act.put, List.setIfInBounds_toArray, List.set_cons_zero, List.set_cons_succ, Nat.reduceAdd]
              have f3 := hf 3 (by decide) (by kernel_rfl)
              generalize vals 3 = v3 at *
              subst f3
              clear hf
              have hc1 := cellOf hb1
              have hf1 := frozOf hb1
              have hz1 := sizeOf hb1
              try simp at hz1
              go_wp2_with (fail)
              exact RQ.mk rfl ⟨(by first | rfl | (simp [FS52_6]; done) | (simp [FS52_6, *]; done) | (simp [FS52_6, gotV]; done) | (simp [FS52_6, gotV]; omega)), fun h => absurd h (by decide)⟩ (Below.refl _ _)
            | 5, _ =>
              injection ho with ho
              subst ho
              clear hl
              simp only [fillA, List.take, List.drop, put_none, Act.put, List.setIfInBounds_toArray, List.set_cons_zero, List.set_cons_succ, Nat.reduceAdd]
              have f0 := hf 0 (by decide) (by kernel_rfl)
              generalize vals 0 = v0 at *
              subst f0
              have f4 := hf 4 (by decide) (by kernel_rfl)
              generalize vals 4 = v4 at *
              subst f4
              clear hf
              have hc1 := cellOf hb1
              have hf1 := frozOf hb1
              have hz1 := sizeOf hb1
              try simp at hz1
              go_wp2_with (first | (go_at_call 79; refine (c_spec_l16One _ _ _ _ _ _ _ (by omega)).mono ?_; rintro e w' ⟨rfl, hb⟩; have hc := cellOf hb; have hf := frozOf hb; have hz := sizeOf hb; try simp at hz))
              exact RQ.mk rfl ⟨(by first | rfl | (simp [FS52_6]; done) | (simp [FS52_6, *]; done) | (simp [FS52_6, gotV]; done) | (simp [FS52_6, gotV]; omega)), fun h => absurd h (by decide)⟩ (by (repeat' (first | exact Below.refl _ _ | assumption | refine Below.setCell ?_ ?_ _ | refine Below.drew ?_ | refine Below.alloc ?_ ?_ _ | refine Below.trans ?_ (Below.mono (by assumption) ?_) | (simp; done) | (simp; omega) | omega)))
            | 6, _ =>
              injection ho with ho
              subst ho
              clear hl
              simp only [fillA, List.take, List.drop, put_none, Act.put, List.setIfInBounds_toArray, List.set_cons_zero, List.set_cons_succ, Nat.reduceAdd]
              have f5 := hf 5 (by decide) (by kernel_rfl)
              generalize vals 5 = v5 at *
              subst f5
              clear hf
              go_wp2_with (fail)
              exact RQ.mk rfl ⟨(by first | rfl | (simp [FS52_6]; done) | (simp [FS52_6, *]; done) | (simp [FS52_6, gotV]; done) | (simp [FS52_6, gotV]; omega)), fun h => absurd h (by decide)⟩ (Below.refl _ _)
            | 7, _ =>
              injection ho with ho
              subst ho
              clear hl
              simp only [fillA, List.take, List.drop, put_none, Act.put, List.setIfInBounds_toArray, List.set_cons_zero, List.set_cons_succ, Nat.reduceAdd]
              have f6 := hf 6 (by decide) (by kernel_rfl)
              generalize vals 6 = v6 at *
              subst f6
              have f5 := hf 5 (by decide) (by kernel_rfl)
              generalize vals 5 = v5 at *
              subst f5
              clear hf
              go_wp2_with (fail)
              exact RQ.mk rfl ⟨(by first | rfl | (simp [FS52_6]; done) | (simp [FS52_6, *]; done) | (simp [FS52_6, gotV]; done) | (simp [FS52_6, gotV]; omega)), fun h => absurd h (by decide)⟩ (Below.refl _ _)
            | 8, _ =>
              injection ho with ho
              subst ho
              clear hl
              simp only [fillA, List.take, List.drop, put_none, Act.put, List.setIfInBounds_toArray, List.set_cons_zero, List.set_cons_succ, Nat.reduceAdd]
              have f7 := hf 7 (by decide) (by kernel_rfl)
              generalize vals 7 = v7 at *
              subst f7
              clear hf
              go_wp2_with (fail)
              exact RQ.mk rfl ⟨(by first | rfl | (simp [FS52_6]; done) | (simp [FS52_6, *]; done) | (simp [FS52_6, gotV]; done) | (simp [FS52_6, gotV]; omega)), fun h => absurd h (by decide)⟩ (Below.refl _ _)
            | 9, _ =>
              injection ho with ho
              subst ho
              clear hl
              simp only [fillA, List.take, List.drop, put_none, Act.put, List.setIfInBounds_toArray, List.set_cons_zero, List.set_cons_succ, Nat.reduceAdd]
              have f8 := hf 8 (by decide) (by kernel_rfl)
              generalize vals 8 = v8 at *
              subst f8
              have f7 := hf 7 (by decide) (by kernel_rfl)
              generalize vals 7 = v7 at *
              subst f7
              clear hf
              go_wp2_with (fail)
              exact RQ.mk rfl ⟨(by first | rfl | (simp [FS52_6]; done) | (simp [FS52_6, *]; done) | (simp [FS52_6, gotV]; done) | (simp [FS52_6, gotV]; omega)), fun h => absurd h (by decide)⟩ (Below.refl _ _)
            | 10, _ =>
              injection ho with ho
              subst ho
              clear hl
              simp only [fillA, List.take, List.drop, put_none, Act.put, List.setIfInBounds_toArray, List.set_cons_zero, List.set_cons_succ, Nat.reduceAdd]
              have f9 := hf 9 (by decide) (by kernel_rfl)
              generalize vals 9 = v9 at *
              subst f9
              have f7 := hf 7 (by decide) (by kernel_rfl)
              generalize vals 7 = v7 at *
              subst f7
              clear hf
              go_wp2_with (fail)
              exact RQ.mk rfl ⟨(by first | rfl | (simp [FS52_6]; done) | (simp [FS52_6, *]; done) | (simp [FS52_6, gotV]; done) | (simp [FS52_6, gotV]; omega)), fun h => absurd h (by decide)⟩ (Below.refl _ _)
            | 11, _ =>
              injection ho with ho
              subst ho
              clear hl
              simp only [fillA, List.take, List.drop, put_none, Act.put, List.setIfInBounds_toArray, List.set_cons_zero, List.set_cons_succ, Nat.reduceAdd]
              have f10 := hf 10 (by decide) (by kernel_rfl)
              generalize vals 10 = v10 at *
              subst f10
              clear hf
              go_wp2_with (fail)
              exact RQ.mk rfl ⟨(by first | rfl | (simp [FS52_6]; done) | (simp [FS52_6, *]; done) | (simp [FS52_6, gotV]; done) | (simp [FS52_6, gotV]; omega)), fun h => absurd h (by decide)⟩ (Below.refl _ _)
            | 12, _ =>
              injection ho with ho
              subst ho
              clear hl
              simp only [fillA, List.take, List.drop, put_none, Act.put, List.setIfInBounds_toArray, List.set_cons_zero, List.set_cons_succ, Nat.reduceAdd]
              have f10 := hf 10 (by decide) (by kernel_rfl)
              generalize vals 10 = v10 at *
              subst f10
              clear hf
              go_wp2_with (fail)
              exact RQ.mk rfl ⟨(by first | rfl | (simp [FS52_6]; done) | (simp [FS52_6, *]; done) | (simp [FS52_6, gotV]; done) | (simp [FS52_6, gotV]; omega)), fun h => absurd h (by decide)⟩ (Below.refl _ _)
            | 13, _ =>
              injection ho with ho
              subst ho
              clear hl
              simp only [fillA, List.take, List.drop, put_none, Act.put, List.setIfInBounds_toArray, List.set_cons_zero, List.set_cons_succ, Nat.reduceAdd]
              have f12 := hf 12 (by decide) (by kernel_rfl)
              generalize vals 12 = v12 at *
              subst f12
              have f10 := hf 10 (by decide) (by kernel_rfl)
              generalize vals 10 = v10 at *
              subst f10
              clear hf
              go_wp2_with (fail)
              exact RQ.mk rfl ⟨(by first | rfl | (simp [FS52_6]; done) | (simp [FS52_6, *]; done) | (simp [FS52_6, gotV]; done) | (simp [FS52_6, gotV]; omega)), fun h => absurd h (by decide)⟩ (Below.refl _ _)
            | 14, _ =>
              injection ho with ho
              subst ho
              clear hl
              simp only [fillA, List.take, List.drop, put_none, Act.put, List.setIfInBounds_toArray, List.set_cons_zero, List.set_cons_succ, Nat.reduceAdd]
              have f11 := hf 11 (by decide) (by kernel_rfl)
              generalize vals 11 = v11 at *
              subst f11
              have f13 := hf 13 (by decide) (by kernel_rfl)
              generalize vals 13 = v13 at *
              subst f13
              have f10 := hf 10 (by decide) (by kernel_rfl)
              generalize vals 10 = v10 at *
              subst f10
              clear hf
              go_wp2_with (fail)
              exact RQ.mk rfl ⟨(by first | rfl | (simp [FS52_6]; done) | (simp [FS52_6, *]; done) | (simp [FS52_6, gotV]; done) | (simp [FS52_6, gotV]; omega)), fun h => absurd h (by decide)⟩ (Below.refl _ _)
            | 15, _ =>
              injection ho with ho
              subst ho
              clear hl
              simp only [fillA, List.take, List.drop, put_none, Act.put, List.setIfInBounds_toArray, List.set_cons_zero, List.set_cons_succ, Nat.reduceAdd]
              have f14 := hf 14 (by decide) (by kernel_rfl)
              generalize vals 14 = v14 at *
              subst f14
              have f10 := hf 10 (by decide) (by kernel_rfl)
              generalize vals 10 = v10 at *
              subst f10
              clear hf
              go_wp2_with (fail)
              exact RQ.mk rfl ⟨(by first | rfl | (simp [FS52_6]; done) | (simp [FS52_6, *]; done) | (simp [FS52_6, gotV]; done) | (simp [FS52_6, gotV]; omega)), fun h => absurd h (by decide)⟩ (Below.refl _ _)
            | 16, _ =>
              injection ho with ho
              subst ho
              clear hl
              simp only [fillA, List.take, List.drop, put_none, Act.put, List.setIfInBounds_toArray, List.set_cons_zero, List.set_cons_succ, Nat.reduceAdd]
              have f15 := hf 15 (by decide) (by kernel_rfl)
              generalize vals 15 = v15 at *
              subst f15
              have f10 := hf 10 (by decide) (by kernel_rfl)
              generalize vals 10 = v10 at *
              subst f10
              clear hf
              go_wp2_with (fail)
              exact RQ.mk rfl ⟨(by first | rfl | (simp [FS52_6]; done) | (simp [FS52_6, *]; done) | (simp [FS52_6, gotV]; done) | (simp [FS52_6, gotV]; omega)), fun h => absurd h (by decide)⟩ (Below.refl _ _)
            | 17, _ =>
              injection ho with ho
              subst ho
              clear hl
              simp only [fillA, List.take, List.drop, put_none, Act.put, List.setIfInBounds_toArray, List.set_cons_zero, List.set_cons_succ, Nat.reduceAdd]
              have f10 := hf 10 (by decide) (by kernel_rfl)
              generalize vals 10 = v10 at *
              subst f10
              clear hf
              go_wp2_with (fail)
              exact RQ.mk rfl ⟨(by first | rfl | (simp [FS52_6]; done) | (simp [FS52_6, *]; done) | (simp [FS52_6, gotV]; done) | (simp [FS52_6, gotV]; omega)), fun h => absurd h (by decide)⟩ (Below.refl _ _)
            | 18, _ =>
              injection ho with ho
              subst ho
              clear hl
              simp only [fillA, List.take, List.drop, put_none, Act.put, List.setIfInBounds_toArray, List.set_cons_zero, List.set_cons_succ, Nat.reduceAdd]
              have f10 := hf 10 (by decide) (by kernel_rfl)
              generalize vals 10 = v10 at *
              subst f10
              clear hf
              go_wp2_with (fail)
              exact RQ.mk rfl ⟨(by first | rfl | (simp [FS52_6]; done) | (simp [FS52_6, *]; done) | (simp [FS52_6, gotV]; done) | (simp [FS52_6, gotV]; omega)), fun h => absurd h (by decide)⟩ (Below.refl _ _)
            | 19, _ =>
              injection ho with ho
              subst ho
              clear hl
              simp only [fillA, List.take, List.drop, put_none, Act.put, List.setIfInBounds_toArray, List.set_cons_zero, List.set_cons_succ, Nat.reduceAdd]
              have f17 := hf 17 (by decide) (by kernel_rfl)
              generalize vals 17 = v17 at *
              subst f17
              have f18 := hf 18 (by decide) (by kernel_rfl)
              generalize vals 18 = v18 at *
              subst f18
              have f10 := hf 10 (by decide) (by kernel_rfl)
              generalize vals 10 = v10 at *
              subst f10
              clear hf
              go_wp2_with (fail)
              exact RQ.mk rfl ⟨(by first | rfl | (simp [FS52_6]; done) | (simp [FS52_6, *]; done) | (simp [FS52_6, gotV]; done) | (simp [FS52_6, gotV]; omega)), fun h => absurd h (by decide)⟩ (Below.refl _ _)
            | 20, _ =>
              injection ho with ho
              subst ho
              clear hl
              simp only [fillA, List.take, List.drop, put_none, Act.put, List.setIfInBounds_toArray, List.set_cons_zero, List.set_cons_succ, Nat.reduceAdd]
              have f19 := hf 19 (by decide) (by kernel_rfl)
              generalize vals 19 = v19 at *
              subst f19
              have f10 := hf 10 (by decide) (by kernel_rfl)
              generalize vals 10 = v10 at *
              subst f10
              clear hf
              go_wp2_with (fail)
              exact RQ.mk rfl ⟨(by first | rfl | (simp [FS52_6]; done) | (simp [FS52_6, *]; done) | (simp [FS52_6, gotV]; done) | (simp [FS52_6, gotV]; omega)), fun h => absurd h (by decide)⟩ (Below.refl _ _)
            | 21, _ =>
              injection ho with ho
              subst ho
              clear hl
              simp only [fillA, List.take, List.drop, put_none, Act.put, List.setIfInBounds_toArray, List.set_cons_zero, List.set_cons_succ, Nat.reduceAdd]
              have f20 := hf 20 (by decide) (by kernel_rfl)
              generalize vals 20 = v20 at *
              subst f20
              have f10 := hf 10 (by decide) (by kernel_rfl)
              generalize vals 10 = v10 at *
              subst f10
              clear hf
              go_wp2_with (fail)
              exact RQ.mk rfl ⟨(by first | rfl | (simp [FS52_6]; done) | (simp [FS52_6, *]; done) | (simp [FS52_6, gotV]; done) | (simp [FS52_6, gotV]; omega)), fun h => absurd h (by decide)⟩ (Below.refl _ _)
            | 22, _ =>
              injection ho with ho
              subst ho
              clear hl
              simp only [fillA, List.take, List.drop, put_none, Act.put, List.setIfInBounds_toArray, List.set_cons_zero, List.set_cons_succ, Nat.reduceAdd]
              have f16 := hf 16 (by decide) (by kernel_rfl)
              generalize vals 16 = v16 at *
              subst f16
              have f21 := hf 21 (by decide) (by kernel_rfl)
              generalize vals 21 = v21 at *
              subst f21
              have f10 := hf 10 (by decide) (by kernel_rfl)
              generalize vals 10 = v10 at *
              subst f10
              clear hf
              go_wp2_with (fail)
              exact RQ.mk rfl ⟨(by first | rfl | (simp [FS52_6]; done) | (simp [FS52_6, *]; done) | (simp [FS52_6, gotV]; done) | (simp [FS52_6, gotV]; omega)), fun h => absurd h (by decide)⟩ (Below.refl _ _)
            | 23, _ =>
              injection ho with ho
              subst ho
              clear hl
              simp only [fillA, List.take, List.drop, put_none, Act.put, List.setIfInBounds_toArray, List.set_cons_zero, List.set_cons_succ, Nat.reduceAdd]
              have f10 := hf 10 (by decide) (by kernel_rfl)
              generalize vals 10 = v10 at *
              subst f10
              have f22 := hf 22 (by decide) (by kernel_rfl)
              generalize vals 22 = v22 at *
              subst f22
              have f7 := hf 7 (by decide) (by kernel_rfl)
              generalize vals 7 = v7 at *
              subst f7
              clear hf
              go_wp2_with (fail)
              exact RQ.mk rfl ⟨(by first | rfl | (simp [FS52_6]; done) | (simp [FS52_6, *]; done) | (simp [FS52_6, gotV]; done) | (simp [FS52_6, gotV]; omega)), fun h => absurd h (by decide)⟩ (Below.refl _ _)
            | 24, _ =>
              injection ho with ho
              subst ho
              clear hl
              simp only [fillA, List.take, List.drop, put_none, Act.put, List.setIfInBounds_toArray, List.set_cons_zero, List.set_cons_succ, Nat.reduceAdd]
              have f7 := hf 7 (by decide) (by kernel_rfl)
              generalize vals 7 = v7 at *
              subst f7
              have f23 := hf 23 (by decide) (by kernel_rfl)
              generalize vals 23 = v23 at *
              subst f23
              clear hf
              go_wp2_with (fail)
              exact RQ.mk rfl ⟨(by first | rfl | (simp [FS52_6]; done) | (simp [FS52_6, *]; done) | (simp [FS52_6, gotV]; done) | (simp [FS52_6, gotV]; omega)), fun h => absurd h (by decide)⟩ (Below.refl _ _)
            | m + 25, h => exact absurd h (by omega)
          · intro vals w1 hb1 hf hd
            simp only [fillA, List.take, List.drop, put_none, Act.put, List.setIfInBounds_toArray, List.set_cons_zero, List.set_cons_succ, Nat.reduceAdd]
            clear hd
            have f0 := hf 0 (by decide)
            generalize vals 0 = v0 at *
            subst f0
            have f1 := hf 1 (by decide)
            generalize vals 1 = v1 at *
            subst f1
            have f2 := hf 2 (by decide)
            generalize vals 2 = v2 at *
            subst f2
            have f3 := hf 3 (by decide)
            generalize vals 3 = v3 at *
            subst f3
            have f4 := hf 4 (by decide)
            generalize vals 4 = v4 at *
            subst f4
            have f5 := hf 5 (by decide)
            generalize vals 5 = v5 at *
            subst f5
            have f6 := hf 6 (by decide)
            generalize vals 6 = v6 at *
            subst f6
            have f7 := hf 7 (by decide)
            generalize vals 7 = v7 at *
            subst f7
            have f8 := hf 8 (by decide)
            generalize vals 8 = v8 at *
            subst f8
            have f9 := hf 9 (by decide)
            generalize vals 9 = v9 at *
            subst f9
            have f10 := hf 10 (by decide)
            generalize vals 10 = v10 at *
            subst f10
            have f11 := hf 11 (by decide)
            generalize vals 11 = v11 at *
            subst f11
            have f12 := hf 12 (by decide)
            generalize vals 12 = v12 at *
            subst f12
            have f13 := hf 13 (by decide)
            generalize vals 13 = v13 at *
            subst f13
            have f14 := hf 14 (by decide)
            generalize vals 14 = v14 at *
            subst f14
            have f15 := hf 15 (by decide)
            generalize vals 15 = v15 at *
            subst f15
            have f16 := hf 16 (by decide)
            generalize vals 16 = v16 at *
            subst f16
            have f17 := hf 17 (by decide)
            generalize vals 17 = v17 at *
            subst f17
            have f18 := hf 18 (by decide)
            generalize vals 18 = v18 at *
            subst f18
            have f19 := hf 19 (by decide)
            generalize vals 19 = v19 at *
            subst f19
            have f20 := hf 20 (by decide)
            generalize vals 20 = v20 at *
            subst f20
            have f21 := hf 21 (by decide)
            generalize vals 21 = v21 at *
            subst f21
            have f22 := hf 22 (by decide)
            generalize vals 22 = v22 at *
            subst f22
            have f23 := hf 23 (by decide)
            generalize vals 23 = v23 at *
            subst f23
            have f24 := hf 24 (by decide)
            generalize vals 24 = v24 at *
            subst f24
            clear hf
            have hc1 := cellOf hb1
            have hf1 := frozOf hb1
            have hz1 := sizeOf hb1
            try simp at hz1
            go_wp2_with (fail)
            go_loopw [6] (fun i wv => i = .int .i64 0 ∧ Below w.heap.size w wv) (fun _ _ => 0)
            case atStart => exact ⟨rfl, by (repeat' (first | exact Below.refl _ _ | assumption | refine Below.setCell ?_ ?_ _ | refine Below.drew ?_ | refine Below.alloc ?_ ?_ _ | refine Below.trans ?_ (Below.mono (by assumption) ?_) | (simp; done) | (simp; omega) | omega))⟩
            case round =>
              obtain ⟨rfl, hbv⟩ := hrel
              clear hc hf hz
              have hc := cellOf hbv
              have hf := frozOf hbv
              have hz := sizeOf hbv
              go_wp2_with (fail)
              go_roundw
              case rel =>
                refine ⟨1, by omega, by omega, by go_num, fun j hj => ?_, by (repeat' (first | exact Below.refl _ _ | assumption | refine Below.setCell ?_ ?_ _ | refine Below.drew ?_ | refine Below.alloc ?_ ?_ _ | refine Below.trans ?_ (Below.mono (by assumption) ?_) | (simp; done) | (simp; omega) | omega))⟩
                obtain rfl : j = 0 := by omega
                rw [HV.out, HG.out]
              case measure => simp [intOf]; omega
        · have HG : Hid (berOk q x = false) := by show _ = _; simpa using hg
          clear hg
          have hg := HG.out
          simp only [berOk] at hg
          go_wp2_with (fail)
          refine wp_region_w (n := 25) [] [] (FS52_6_9 q wr x x bx ox 0 xs.length cap w) rfl (by kernel_rfl) (fun _ _ d _ _ h => by cases d <;> exact h) ?_ ?_ ?_ ?_ ?_ ?_
          · intro iq
            match iq with
            | 0 | 1 | 2 | 3 | 4 | 5 | 6 | 7 | 8 | 9 | 10 | 11 | 12 | 13 | 14 | 15 | 16 | 17 | 18 | 19 | 20 | 21 | 22 | 23 | 24 => exact Stable.const _
            | n + 25 => exact Stable.const _
          · intro iq hi
            exact absurd hi (by simp)
          · intro iq hi
            exact absurd hi (by simp)
          · intro iq o hi hl ho vals w1 hb1 hf
            exact absurd hl (by simp)
          · intro iq o hi hl ho vals w1 hb1 hf
            match iq, hi with
            | 0, _ =>
              injection ho with ho
              subst ho
              clear hl
              simp only [fillA, List.take, List.drop, put_none, Act.put, List.setIfInBounds_toArray, List.set_cons_zero, List.set_cons_succ, Nat.reduceAdd]
              clear hf
              go_wp2_with (fail)
              exact RQ.mk rfl ⟨(by first | rfl | (simp [FS52_6_9]; done) | (simp [FS52_6_9, *]; done) | (simp [FS52_6_9, gotV]; done) | (simp [FS52_6_9, gotV]; omega)), fun h => absurd h (by decide)⟩ (Below.refl _ _)
            | 1, _ =>
              injection ho with ho
              subst ho
              clear hl
              simp only [fillA, List.take, List.drop, put_none, Act.put, List.setIfInBounds_toArray, List.set_cons_zero, List.set_cons_succ, Nat.reduceAdd]
              clear hf
              go_wp2_with (fail)
              exact RQ.mk rfl ⟨(by first | rfl | (simp [FS52_6_9]; done) | (simp [FS52_6_9, *]; done) | (simp [FS52_6_9, gotV]; done) | (simp [FS52_6_9, gotV]; omega)), fun h => absurd h (by decide)⟩ (Below.refl _ _)
            | 2, _ =>
              injection ho with ho
              subst ho
              clear hl
              simp only [fillA, List.take, List.drop, put_none, Act.put, List.setIfInBounds_toArray, List.set_cons_zero, List.set_cons_succ, Nat.reduceAdd]
              clear hf
              go_wp2_with (fail)
              exact RQ.mk rfl ⟨(by first | rfl | (simp [FS52_6_9]; done) | (simp [FS52_6_9, *]; done) | (simp [FS52_6_9, gotV]; done) | (simp [FS52_6_9, gotV]; omega)), fun h => absurd h (by decide)⟩ (Below.refl _ _)
            | 3, _ =>
              injection ho with ho
              subst ho
              clear hl
              simp only [fillA, List.take, List.drop, put_none, Act.put, List.setIfInBounds_toArray, List.set_cons_zero, List.set_cons_succ, Nat.reduceAdd]
              have f1 := hf 1 (by decide) (by kernel_rfl)
              generalize vals 1 = v1 at *
              subst f1
              have f2 := hf 2 (by decide) (by kernel_rfl)
              generalize vals 2 = v2 at *
              subst f2
              clear hf
              go_wp2_with (fail)
              exact RQ.mk rfl ⟨(by first | rfl | (simp [FS52_6_9]; done) | (simp [FS52_6_9, *]; done) | (simp [FS52_6_9, gotV]; done) | (simp [FS52_6_9, gotV]; omega)), fun h => absurd h (by decide)⟩ (Below.refl _ _)
            | 4, _ =>
              injection ho with ho
              subst ho
              clear hl
              simp only [fillA, List.take, List.drop, put_none, Act.put, List.setIfInBounds_toArray, List.set_cons_zero, List.set_cons_succ, Nat.reduceAdd]
              have f3 := hf 3 (by decide) (by kernel_rfl)
              generalize vals 3 = v3 at *
              subst f3
              clear hf
              have hc1 := cellOf hb1
              have hf1 := frozOf hb1
              have hz1 := sizeOf hb1
              try simp at hz1
              go_wp2_with (fail)
              exact RQ.mk rfl ⟨(by first | rfl | (simp [FS52_6_9]; done) | (simp [FS52_6_9, *]; done) | (simp [FS52_6_9, gotV]; done) | (simp [FS52_6_9, gotV]; omega)), fun h => absurd h (by decide)⟩ (Below.refl _ _)
            | 5, _ =>
              injection ho with ho
              subst ho
              clear hl
              simp only [fillA, List.take, List.drop, put_none, Act.put, List.setIfInBounds_toArray, List.set_cons_zero, List.set_cons_succ, Nat.reduceAdd]
              have f0 := hf 0 (by decide) (by kernel_rfl)
              generalize vals 0 = v0 at *
              subst f0
              have f4 := hf 4 (by decide) (by kernel_rfl)
              generalize vals 4 = v4 at *
              subst f4
              clear hf
              have hc1 := cellOf hb1
              have hf1 := frozOf hb1
              have hz1 := sizeOf hb1
              try simp at hz1
              go_wp2_with (first | (go_at_call 79; refine (c_spec_l16One _ _ _ _ _ _ _ (by omega)).mono ?_; rintro e w' ⟨rfl, hb⟩; have hc := cellOf hb; have hf := frozOf hb; have hz := sizeOf hb; try simp at hz))
              exact RQ.mk rfl ⟨(by first | rfl | (simp [FS52_6_9]; done) | (simp [FS52_6_9, *]; done) | (simp [FS52_6_9, gotV]; done) | (simp [FS52_6_9, gotV]; omega)), fun h => absurd h (by decide)⟩ (by (repeat' (first | exact Below.refl _ _ | assumption | refine Below.setCell ?_ ?_ _ | refine Below.drew ?_ | refine Below.alloc ?_ ?_ _ | refine Below.trans ?_ (Below.mono (by assumption) ?_) | (simp; done) | (simp; omega) | omega)))
            | 6, _ =>
              injection ho with ho
              subst ho
              clear hl
              simp only [fillA, List.take, List.drop, put_none, Act.put, List.setIfInBounds_toArray, List.set_cons_zero, List.set_cons_succ, Nat.reduceAdd]
              have f5 := hf 5 (by decide) (by kernel_rfl)
              generalize vals 5 = v5 at *
              subst f5
              clear hf
              go_wp2_with (fail)
              exact RQ.mk rfl ⟨(by first | rfl | (simp [FS52_6_9]; done) | (simp [FS52_6_9, *]; done) | (simp [FS52_6_9, gotV]; done) | (simp [FS52_6_9, gotV]; omega)), fun h => absurd h (by decide)⟩ (Below.refl _ _)
            | 7, _ =>
              injection ho with ho
              subst ho
              clear hl
              simp only [fillA, List.take, List.drop, put_none, Act.put, List.setIfInBounds_toArray, List.set_cons_zero, List.set_cons_succ, Nat.reduceAdd]
              have f6 := hf 6 (by decide) (by kernel_rfl)
              generalize vals 6 = v6 at *
              subst f6
              have f5 := hf 5 (by decide) (by kernel_rfl)
              generalize vals 5 = v5 at *
              subst f5
              clear hf
              go_wp2_with (fail)
              exact RQ.mk rfl ⟨(by first | rfl | (simp [FS52_6_9]; done) | (simp [FS52_6_9, *]; done) | (simp [FS52_6_9, gotV]; done) | (simp [FS52_6_9, gotV]; omega)), fun h => absurd h (by decide)⟩ (Below.refl _ _)
            | 8, _ =>
              injection ho with ho
              subst ho
              clear hl
              simp only [fillA, List.take, List.drop, put_none, Act.put, List.setIfInBounds_toArray, List.set_cons_zero, List.set_cons_succ, Nat.reduceAdd]
              have f7 := hf 7 (by decide) (by kernel_rfl)
              generalize vals 7 = v7 at *
              subst f7
              clear hf
              go_wp2_with (fail)
              exact RQ.mk rfl ⟨(by first | rfl | (simp [FS52_6_9]; done) | (simp [FS52_6_9, *]; done) | (simp [FS52_6_9, gotV]; done) | (simp [FS52_6_9, gotV]; omega)), fun h => absurd h (by decide)⟩ (Below.refl _ _)
            | 9, _ =>
              injection ho with ho
              subst ho
              clear hl
              simp only [fillA, List.take, List.drop, put_none, Act.put, List.setIfInBounds_toArray, List.set_cons_zero, List.set_cons_succ, Nat.reduceAdd]
              have f8 := hf 8 (by decide) (by kernel_rfl)
              generalize vals 8 = v8 at *
              subst f8
              have f7 := hf 7 (by decide) (by kernel_rfl)
              generalize vals 7 = v7 at *
              subst f7
              clear hf
              go_wp2_with (fail)
              exact RQ.mk rfl ⟨(by first | rfl | (simp [FS52_6_9]; done) | (simp [FS52_6_9, *]; done) | (simp [FS52_6_9, gotV]; done) | (simp [FS52_6_9, gotV]; omega)), fun h => absurd h (by decide)⟩ (Below.refl _ _)
            | 10, _ =>
              injection ho with ho
              subst ho
              clear hl
              simp only [fillA, List.take, List.drop, put_none, Act.put, List.setIfInBounds_toArray, List.set_cons_zero, List.set_cons_succ, Nat.reduceAdd]
              have f9 := hf 9 (by decide) (by kernel_rfl)
              generalize vals 9 = v9 at *
              subst f9
              have f7 := hf 7 (by decide) (by kernel_rfl)
              generalize vals 7 = v7 at *
              subst f7
              clear hf
              go_wp2_with (fail)
              exact RQ.mk rfl ⟨(by first | rfl | (simp [FS52_6_9]; done) | (simp [FS52_6_9, *]; done) | (simp [FS52_6_9, gotV]; done) | (simp [FS52_6_9, gotV]; omega)), fun h => absurd h (by decide)⟩ (Below.refl _ _)
            | 11, _ =>
              injection ho with ho
              subst ho
              clear hl
              simp only [fillA, List.take, List.drop, put_none, Act.put, List.setIfInBounds_toArray, List.set_cons_zero, List.set_cons_succ, Nat.reduceAdd]
              have f10 := hf 10 (by decide) (by kernel_rfl)
              generalize vals 10 = v10 at *
              subst f10
              clear hf
              go_wp2_with (fail)
              exact RQ.mk rfl ⟨(by first | rfl | (simp [FS52_6_9]; done) | (simp [FS52_6_9, *]; done) | (simp [FS52_6_9, gotV]; done) | (simp [FS52_6_9, gotV]; omega)), fun h => absurd h (by decide)⟩ (Below.refl _ _)
            | 12, _ =>
              injection ho with ho
              subst ho
              clear hl
              simp only [fillA, List.take, List.drop, put_none, Act.put, List.setIfInBounds_toArray, List.set_cons_zero, List.set_cons_succ, Nat.reduceAdd]
              have f10 := hf 10 (by decide) (by kernel_rfl)
              generalize vals 10 = v10 at *
              subst f10
              clear hf
              go_wp2_with (fail)
              exact RQ.mk rfl ⟨(by first | rfl | (simp [FS52_6_9]; done) | (simp [FS52_6_9, *]; done) | (simp [FS52_6_9, gotV]; done) | (simp [FS52_6_9, gotV]; omega)), fun h => absurd h (by decide)⟩ (Below.refl _ _)
            | 13, _ =>
              injection ho with ho
              subst ho
              clear hl
              simp only [fillA, List.take, List.drop, put_none, Act.put, List.setIfInBounds_toArray, List.set_cons_zero, List.set_cons_succ, Nat.reduceAdd]
              have f12 := hf 12 (by decide) (by kernel_rfl)
              generalize vals 12 = v12 at *
              subst f12
              have f10 := hf 10 (by decide) (by kernel_rfl)
              generalize vals 10 = v10 at *
              subst f10
              clear hf
              go_wp2_with (fail)
              exact RQ.mk rfl ⟨(by first | rfl | (simp [FS52_6_9]; done) | (simp [FS52_6_9, *]; done) | (simp [FS52_6_9, gotV]; done) | (simp [FS52_6_9, gotV]; omega)), fun h => absurd h (by decide)⟩ (Below.refl _ _)
            | 14, _ =>
              injection ho with ho
              subst ho
              clear hl
              simp only [fillA, List.take, List.drop, put_none, Act.put, List.setIfInBounds_toArray, List.set_cons_zero, List.set_cons_succ, Nat.reduceAdd]
              have f11 := hf 11 (by decide) (by kernel_rfl)
              generalize vals 11 = v11 at *
              subst f11
              have f13 := hf 13 (by decide) (by kernel_rfl)
              generalize vals 13 = v13 at *
              subst f13
              have f10 := hf 10 (by decide) (by kernel_rfl)
              generalize vals 10 = v10 at *
              subst f10
              clear hf
              go_wp2_with (fail)
              exact RQ.mk rfl ⟨(by first | rfl | (simp [FS52_6_9]; done) | (simp [FS52_6_9, *]; done) | (simp [FS52_6_9, gotV]; done) | (simp [FS52_6_9, gotV]; omega)), fun h => absurd h (by decide)⟩ (Below.refl _ _)
            | 15, _ =>
              injection ho with ho
              subst ho
              clear hl
              simp only [fillA, List.take, List.drop, put_none, Act.put, List.setIfInBounds_toArray, List.set_cons_zero, List.set_cons_succ, Nat.reduceAdd]
              have f14 := hf 14 (by decide) (by kernel_rfl)
              generalize vals 14 = v14 at *
              subst f14
              have f10 := hf 10 (by decide) (by kernel_rfl)
              generalize vals 10 = v10 at *
              subst f10
              clear hf
              go_wp2_with (fail)
              exact RQ.mk rfl ⟨(by first | rfl | (simp [FS52_6_9]; done) | (simp [FS52_6_9, *]; done) | (simp [FS52_6_9, gotV]; done) | (simp [FS52_6_9, gotV]; omega)), fun h => absurd h (by decide)⟩ (Below.refl _ _)
            | 16, _ =>
              injection ho with ho
              subst ho
              clear hl
              simp only [fillA, List.take, List.drop, put_none, Act.put, List.setIfInBounds_toArray, List.set_cons_zero, List.set_cons_succ, Nat.reduceAdd]
              have f15 := hf 15 (by decide) (by kernel_rfl)
              generalize vals 15 = v15 at *
              subst f15
              have f10 := hf 10 (by decide) (by kernel_rfl)
              generalize vals 10 = v10 at *
              subst f10
              clear hf
              go_wp2_with (fail)
              exact RQ.mk rfl ⟨(by first | rfl | (simp [FS52_6_9]; done) | (simp [FS52_6_9, *]; done) | (simp [FS52_6_9, gotV]; done) | (simp [FS52_6_9, gotV]; omega)), fun h => absurd h (by decide)⟩ (Below.refl _ _)
            | 17, _ =>
              injection ho with ho
              subst ho
              clear hl
              simp only [fillA, List.take, List.drop, put_none, Act.put, List.setIfInBounds_toArray, List.set_cons_zero, List.set_cons_succ, Nat.reduceAdd]
              have f10 := hf 10 (by decide) (by kernel_rfl)
              generalize vals 10 = v10 at *
              subst f10
              clear hf
              go_wp2_with (fail)
              exact RQ.mk rfl ⟨(by first | rfl | (simp [FS52_6_9]; done) | (simp [FS52_6_9, *]; done) | (simp [FS52_6_9, gotV]; done) | (simp [FS52_6_9, gotV]; omega)), fun h => absurd h (by decide)⟩ (Below.refl _ _)
            | 18, _ =>
              injection ho with ho
              subst ho
              clear hl
              simp only [fillA, List.take, List.drop, put_none, Act.put, List.setIfInBounds_toArray, List.set_cons_zero, List.set_cons_succ, Nat.reduceAdd]
              have f10 := hf 10 (by decide) (by kernel_rfl)
              generalize vals 10 = v10 at *
              subst f10
              clear hf
              go_wp2_with (fail)
              exact RQ.mk rfl ⟨(by first | rfl | (simp [FS52_6_9]; done) | (simp [FS52_6_9, *]; done) | (simp [FS52_6_9, gotV]; done) | (simp [FS52_6_9, gotV]; omega)), fun h => absurd h (by decide)⟩ (Below.refl _ _)
            | 19, _ =>
              injection ho with ho
              subst ho
              clear hl
              simp only [fillA, List.take, List.drop, put_none, Act.put, List.setIfInBounds_toArray, List.set_cons_zero, List.set_cons_succ, Nat.reduceAdd]
              have f17 := hf 17 (by decide) (by kernel_rfl)
              generalize vals 17 = v17 at *
              subst f17
              have f18 := hf 18 (by decide) (by kernel_rfl)
              generalize vals 18 = v18 at *
              subst f18
              have f10 := hf 10 (by decide) (by kernel_rfl)
              generalize vals 10 = v10 at *
              subst f10
              clear hf
              go_wp2_with (fail)
              exact RQ.mk rfl ⟨(by first | rfl | (simp [FS52_6_9]; done) | (simp [FS52_6_9, *]; done) | (simp [FS52_6_9, gotV]; done) | (simp [FS52_6_9, gotV]; omega)), fun h => absurd h (by decide)⟩ (Below.refl _ _)
            | 20, _ =>
              injection ho with ho
              subst ho
              clear hl
              simp only [fillA, List.take, List.drop, put_none, Act.put, List.setIfInBounds_toArray, List.set_cons_zero, List.set_cons_succ, Nat.reduceAdd]
              have f19 := hf 19 (by decide) (by kernel_rfl)
              generalize vals 19 = v19 at *
              subst f19
              have f10 := hf 10 (by decide) (by kernel_rfl)
              generalize vals 10 = v10 at *
              subst f10
              clear hf
              go_wp2_with (fail)
              exact RQ.mk rfl ⟨(by first | rfl | (simp [FS52_6_9]; done) | (simp [FS52_6_9, *]; done) | (simp [FS52_6_9, gotV]; done) | (simp [FS52_6_9, gotV]; omega)), fun h => absurd h (by decide)⟩ (Below.refl _ _)
            | 21, _ =>
              injection ho with ho
              subst ho
              clear hl
              simp only [fillA, List.take, List.drop, put_none, Act.put, List.setIfInBounds_toArray, List.set_cons_zero, List.set_cons_succ, Nat.reduceAdd]
              have f20 := hf 20 (by decide) (by kernel_rfl)
              generalize vals 20 = v20 at *
              subst f20
              have f10 := hf 10 (by decide) (by kernel_rfl)
              generalize vals 10 = v10 at *
              subst f10
              clear hf
              go_wp2_with (fail)
              exact RQ.mk rfl ⟨(by first | rfl | (simp [FS52_6_9]; done) | (simp [FS52_6_9, *]; done) | (simp [FS52_6_9, gotV]; done) | (simp [FS52_6_9, gotV]; omega)), fun h => absurd h (by decide)⟩ (Below.refl _ _)
            | 22, _ =>
              injection ho with ho
              subst ho
              clear hl
              simp only [fillA, List.take, List.drop, put_none, Act.put, List.setIfInBounds_toArray, List.set_cons_zero, List.set_cons_succ, Nat.reduceAdd]
              have f16 := hf 16 (by decide) (by kernel_rfl)
              generalize vals 16 = v16 at *
              subst f16
              have f21 := hf 21 (by decide) (by kernel_rfl)
              generalize vals 21 = v21 at *
              subst f21
              have f10 := hf 10 (by decide) (by kernel_rfl)
              generalize vals 10 = v10 at *
              subst f10
              clear hf
              go_wp2_with (fail)
              exact RQ.mk rfl ⟨(by first | rfl | (simp [FS52_6_9]; done) | (simp [FS52_6_9, *]; done) | (simp [FS52_6_9, gotV]; done) | (simp [FS52_6_9, gotV]; omega)), fun h => absurd h (by decide)⟩ (Below.refl _ _)
            | 23, _ =>
              injection ho with ho
              subst ho
              clear hl
              simp only [fillA, List.take, List.drop, put_none, Act.put, List.setIfInBounds_toArray, List.set_cons_zero, List.set_cons_succ, Nat.reduceAdd]
              have f10 := hf 10 (by decide) (by kernel_rfl)
              generalize vals 10 = v10 at *
              subst f10
              have f22 := hf 22 (by decide) (by kernel_rfl)
              generalize vals 22 = v22 at *
              subst f22
              have f7 := hf 7 (by decide) (by kernel_rfl)
              generalize vals 7 = v7 at *
              subst f7
              clear hf
              go_wp2_with (fail)
              exact RQ.mk rfl ⟨(by first | rfl | (simp [FS52_6_9]; done) | (simp [FS52_6_9, *]; done) | (simp [FS52_6_9, gotV]; done) | (simp [FS52_6_9, gotV]; omega)), fun h => absurd h (by decide)⟩ (Below.refl _ _)
            | 24, _ =>
              injection ho with ho
              subst ho
              clear hl
              simp only [fillA, List.take, List.drop, put_none, Act.put, List.setIfInBounds_toArray, List.set_cons_zero, List.set_cons_succ, Nat.reduceAdd]
              have f7 := hf 7 (by decide) (by kernel_rfl)
              generalize vals 7 = v7 at *
              subst f7
              have f23 := hf 23 (by decide) (by kernel_rfl)
              generalize vals 23 = v23 at *
              subst f23
              clear hf
              go_wp2_with (fail)
              exact RQ.mk rfl ⟨(by first | rfl | (simp [FS52_6_9]; done) | (simp [FS52_6_9, *]; done) | (simp [FS52_6_9, gotV]; done) | (simp [FS52_6_9, gotV]; omega)), fun h => absurd h (by decide)⟩ (Below.refl _ _)
            | m + 25, h => exact absurd h (by omega)
          · intro vals w1 hb1 hf hd
            simp only [fillA, List.take, List.drop, put_none, Act.put, List.setIfInBounds_toArray, List.set_cons_zero, List.set_cons_succ, Nat.reduceAdd]
            clear hd
            have f0 := hf 0 (by decide)
            generalize vals 0 = v0 at *
            subst f0
            have f1 := hf 1 (by decide)
            generalize vals 1 = v1 at *
            subst f1
            have f2 := hf 2 (by decide)
            generalize vals 2 = v2 at *
            subst f2
            have f3 := hf 3 (by decide)
            generalize vals 3 = v3 at *
            subst f3
            have f4 := hf 4 (by decide)
            generalize vals 4 = v4 at *
            subst f4
            have f5 := hf 5 (by decide)
            generalize vals 5 = v5 at *
            subst f5
            have f6 := hf 6 (by decide)
            generalize vals 6 = v6 at *
            subst f6
            have f7 := hf 7 (by decide)
            generalize vals 7 = v7 at *
            subst f7
            have f8 := hf 8 (by decide)
            generalize vals 8 = v8 at *
            subst f8
            have f9 := hf 9 (by decide)
            generalize vals 9 = v9 at *
            subst f9
            have f10 := hf 10 (by decide)
            generalize vals 10 = v10 at *
            subst f10
            have f11 := hf 11 (by decide)
            generalize vals 11 = v11 at *
            subst f11
            have f12 := hf 12 (by decide)
            generalize vals 12 = v12 at *
            subst f12
            have f13 := hf 13 (by decide)
            generalize vals 13 = v13 at *
            subst f13
            have f14 := hf 14 (by decide)
            generalize vals 14 = v14 at *
            subst f14
            have f15 := hf 15 (by decide)
            generalize vals 15 = v15 at *
            subst f15
            have f16 := hf 16 (by decide)
            generalize vals 16 = v16 at *
            subst f16
            have f17 := hf 17 (by decide)
            generalize vals 17 = v17 at *
            subst f17
            have f18 := hf 18 (by decide)
            generalize vals 18 = v18 at *
            subst f18
            have f19 := hf 19 (by decide)
            generalize vals 19 = v19 at *
            subst f19
            have f20 := hf 20 (by decide)
            generalize vals 20 = v20 at *
            subst f20
            have f21 := hf 21 (by decide)
            generalize vals 21 = v21 at *
            subst f21
            have f22 := hf 22 (by decide)
            generalize vals 22 = v22 at *
            subst f22
            have f23 := hf 23 (by decide)
            generalize vals 23 = v23 at *
            subst f23
            have f24 := hf 24 (by decide)
            generalize vals 24 = v24 at *
            subst f24
            clear hf
            have hc1 := cellOf hb1
            have hf1 := frozOf hb1
            have hz1 := sizeOf hb1
            try simp at hz1
            go_wp2_with (fail)
            go_ret
            exact ⟨ret_bool (by rw [HB.out (by rw [HV.out, HG.out])]), by (repeat' (first | exact Below.refl _ _ | assumption | refine Below.setCell ?_ ?_ _ | refine Below.drew ?_ | refine Below.alloc ?_ ?_ _ | refine Below.trans ?_ (Below.mono (by assumption) ?_) | (simp; done) | (simp; omega) | omega))⟩
      | succ k =>
        have HV := hid (berAt_succ (q := q) k hlt)
        have hlt' : k < xs.length := by omega
        have hx0 := hcx (k + 1) hlt 0 _ rfl
        have hx1 := hcx (k + 1) hlt 1 _ rfl
        have hx2 := hcx (k + 1) hlt 2 _ rfl
        have hx3 := hcx (k + 1) hlt 3 _ rfl
        have hx4 := hcx (k + 1) hlt 4 _ rfl
        have hy0 := hcx k hlt' 0 _ rfl
        simp only [Nat.add_zero] at hx0 hy0
        have HX := hid hcx
        clear hcx
        obtain ⟨x, hxk⟩ : ∃ x, x = xs[k + 1] := ⟨_, rfl⟩
        obtain ⟨y, hyk⟩ : ∃ y, y = xs[k] := ⟨_, rfl⟩
        simp only [← hxk] at hx0 hx1 hx2 hx3 hx4 HV
        simp only [← hyk] at hy0 HV
        clear hxk hyk
        by_cases hg : berOk q x = true
        rotate_left
        · have HG : Hid (berOk q x = false) := by show _ = _; simpa using hg
          clear hg
          have hg := HG.out
          simp only [berOk] at hg
          go_wp2_with (fail)
          refine wp_region_w (n := 25) [] [] (FS52_6_10 q wr x y bx ox k xs.length cap w) rfl (by kernel_rfl) (fun _ _ d _ _ h => by cases d <;> exact h) ?_ ?_ ?_ ?_ ?_ ?_
          · intro iq
            match iq with
            | 0 | 1 | 2 | 3 | 4 | 5 | 6 | 7 | 8 | 9 | 10 | 11 | 12 | 13 | 14 | 15 | 16 | 17 | 18 | 19 | 20 | 21 | 22 | 23 | 24 => exact Stable.const _
            | n + 25 => exact Stable.const _
          · intro iq hi
            exact absurd hi (by simp)
          · intro iq hi
            exact absurd hi (by simp)
          · intro iq o hi hl ho vals w1 hb1 hf
            exact absurd hl (by simp)
          · intro iq o hi hl ho vals w1 hb1 hf
            match iq, hi with
            | 0, _ =>
              injection ho with ho
              subst ho
              clear hl
              simp only [fillA, List.take, List.drop, put_none, Act.put, List.setIfInBounds_toArray, List.set_cons_zero, List.set_cons_succ, Nat.reduceAdd]
              clear hf
              go_wp2_with (fail)
              exact RQ.mk rfl ⟨(by first | rfl | (simp [FS52_6_10]; done) | (simp [FS52_6_10, *]; done) | (simp [FS52_6_10, gotV]; done) | (simp [FS52_6_10, gotV]; omega)), fun h => absurd h (by decide)⟩ (Below.refl _ _)
            | 1, _ =>
              injection ho with ho
              subst ho
              clear hl
              simp only [fillA, List.take, List.drop, put_none, Act.put, List.setIfInBounds_toArray, List.set_cons_zero, List.set_cons_succ, Nat.reduceAdd]
              clear hf
              go_wp2_with (fail)
              exact RQ.mk rfl ⟨(by first | rfl | (simp [FS52_6_10]; done) | (simp [FS52_6_10, *]; done) | (simp [FS52_6_10, gotV]; done) | (simp [FS52_6_10, gotV]; omega)), fun h => absurd h (by decide)⟩ (Below.refl _ _)
            | 2, _ =>
              injection ho with ho
              subst ho
              clear hl
              simp only [fillA, List.take, List.drop, put_none, Act.put, List.setIfInBounds_toArray, List.set_cons_zero, List.set_cons_succ, Nat.reduceAdd]
              clear hf
              go_wp2_with (fail)
              exact RQ.mk rfl ⟨(by first | rfl | (simp [FS52_6_10]; done) | (simp [FS52_6_10, *]; done) | (simp [FS52_6_10, gotV]; done) | (simp [FS52_6_10, gotV]; omega)), fun h => absurd h (by decide)⟩ (Below.refl _ _)
            | 3, _ =>
              injection ho with ho
              subst ho
              clear hl
              simp only [fillA, List.take, List.drop, put_none, Act.put, List.setIfInBounds_toArray, List.set_cons_zero, List.set_cons_succ, Nat.reduceAdd]
              have f1 := hf 1 (by decide) (by kernel_rfl)
              generalize vals 1 = v1 at *
              subst f1
              have f2 := hf 2 (by decide) (by kernel_rfl)
              generalize vals 2 = v2 at *
              subst f2
              clear hf
              go_wp2_with (fail)
              exact RQ.mk rfl ⟨(by first | rfl | (simp [FS52_6_10]; done) | (simp [FS52_6_10, *]; done) | (simp [FS52_6_10, gotV]; done) | (simp [FS52_6_10, gotV]; omega)), fun h => absurd h (by decide)⟩ (Below.refl _ _)
            | 4, _ =>
              injection ho with ho
              subst ho
              clear hl
              simp only [fillA, List.take, List.drop, put_none, Act.put, List.setIfInBounds_toArray, List.set_cons_zero, List.set_cons_succ, Nat.reduceAdd]
              have f3 := hf 3 (by decide) (by kernel_rfl)
              generalize vals 3 = v3 at *
              subst f3
              clear hf
              have hc1 := cellOf hb1
              have hf1 := frozOf hb1
              have hz1 := sizeOf hb1
              try simp at hz1
              go_wp2_with (fail)
              exact RQ.mk rfl ⟨(by first | rfl | (simp [FS52_6_10]; done) | (simp [FS52_6_10, *]; done) | (simp [FS52_6_10, gotV]; done) | (simp [FS52_6_10, gotV]; omega)), fun h => absurd h (by decide)⟩ (Below.refl _ _)
            | 5, _ =>
              injection ho with ho
              subst ho
              clear hl
              simp only [fillA, List.take, List.drop, put_none, Act.put, List.setIfInBounds_toArray, List.set_cons_zero, List.set_cons_succ, Nat.reduceAdd]
              have f0 := hf 0 (by decide) (by kernel_rfl)
              generalize vals 0 = v0 at *
              subst f0
              have f4 := hf 4 (by decide) (by kernel_rfl)
              generalize vals 4 = v4 at *
              subst f4
              clear hf
              have hc1 := cellOf hb1
              have hf1 := frozOf hb1
              have hz1 := sizeOf hb1
              try simp at hz1
              go_wp2_with (first | (go_at_call 79; refine (c_spec_l16One _ _ _ _ _ _ _ (by omega)).mono ?_; rintro e w' ⟨rfl, hb⟩; have hc := cellOf hb; have hf := frozOf hb; have hz := sizeOf hb; try simp at hz))
              exact RQ.mk rfl ⟨(by first | rfl | (simp [FS52_6_10]; done) | (simp [FS52_6_10, *]; done) | (simp [FS52_6_10, gotV]; done) | (simp [FS52_6_10, gotV]; omega)), fun h => absurd h (by decide)⟩ (by (repeat' (first | exact Below.refl _ _ | assumption | refine Below.setCell ?_ ?_ _ | refine Below.drew ?_ | refine Below.alloc ?_ ?_ _ | refine Below.trans ?_ (Below.mono (by assumption) ?_) | (simp; done) | (simp; omega) | omega)))
            | 6, _ =>
              injection ho with ho
              subst ho
              clear hl
              simp only [fillA, List.take, List.drop, put_none, Act.put, List.setIfInBounds_toArray, List.set_cons_zero, List.set_cons_succ, Nat.reduceAdd]
              have f5 := hf 5 (by decide) (by kernel_rfl)
              generalize vals 5 = v5 at *
              subst f5
              clear hf
              go_wp2_with (fail)
              exact RQ.mk rfl ⟨(by first | rfl | (simp [FS52_6_10]; done) | (simp [FS52_6_10, *]; done) | (simp [FS52_6_10, gotV]; done) | (simp [FS52_6_10, gotV]; omega)), fun h => absurd h (by decide)⟩ (Below.refl _ _)
            | 7, _ =>
              injection ho with ho
              subst ho
              clear hl
              simp only [fillA, List.take, List.drop, put_none, Act.put, List.setIfInBounds_toArray, List.set_cons_zero, List.set_cons_succ, Nat.reduceAdd]
              have f6 := hf 6 (by decide) (by kernel_rfl)
              generalize vals 6 = v6 at *
              subst f6
              have f5 := hf 5 (by decide) (by kernel_rfl)
              generalize vals 5 = v5 at *
              subst f5
              clear hf
              go_wp2_with (fail)
              exact RQ.mk rfl ⟨(by first | rfl | (simp [FS52_6_10]; done) | (simp [FS52_6_10, *]; done) | (simp [FS52_6_10, gotV]; done) | (simp [FS52_6_10, gotV]; omega)), fun h => absurd h (by decide)⟩ (Below.refl _ _)
            | 8, _ =>
              injection ho with ho
              subst ho
              clear hl
              simp only [fillA, List.take, List.drop, put_none, Act.put, List.setIfInBounds_toArray, List.set_cons_zero, List.set_cons_succ, Nat.reduceAdd]
              have f7 := hf 7 (by decide) (by kernel_rfl)
              generalize vals 7 = v7 at *
              subst f7
              clear hf
              go_wp2_with (fail)
              exact RQ.mk rfl ⟨(by first | rfl | (simp [FS52_6_10]; done) | (simp [FS52_6_10, *]; done) | (simp [FS52_6_10, gotV]; done) | (simp [FS52_6_10, gotV]; omega)), fun h => absurd h (by decide)⟩ (Below.refl _ _)
            | 9, _ =>
              injection ho with ho
              subst ho
              clear hl
              simp only [fillA, List.take, List.drop, put_none, Act.put, List.setIfInBounds_toArray, List.set_cons_zero, List.set_cons_succ, Nat.reduceAdd]
              have f8 := hf 8 (by decide) (by kernel_rfl)
              generalize vals 8 = v8 at *
              subst f8
              have f7 := hf 7 (by decide) (by kernel_rfl)
              generalize vals 7 = v7 at *
              subst f7
              clear hf
              go_wp2_with (fail)
              exact RQ.mk rfl ⟨(by first | rfl | (simp [FS52_6_10]; done) | (simp [FS52_6_10, *]; done) | (simp [FS52_6_10, gotV]; done) | (simp [FS52_6_10, gotV]; omega)), fun h => absurd h (by decide)⟩ (Below.refl _ _)
            | 10, _ =>
              injection ho with ho
              subst ho
              clear hl
              simp only [fillA, List.take, List.drop, put_none, Act.put, List.setIfInBounds_toArray, List.set_cons_zero, List.set_cons_succ, Nat.reduceAdd]
              have f9 := hf 9 (by decide) (by kernel_rfl)
              generalize vals 9 = v9 at *
              subst f9
              have f7 := hf 7 (by decide) (by kernel_rfl)
              generalize vals 7 = v7 at *
              subst f7
              clear hf
              go_wp2_with (fail)
              exact RQ.mk rfl ⟨(by first | rfl | (simp [FS52_6_10]; done) | (simp [FS52_6_10, *]; done) | (simp [FS52_6_10, gotV]; done) | (simp [FS52_6_10, gotV]; omega)), fun h => absurd h (by decide)⟩ (Below.refl _ _)
            | 11, _ =>
              injection ho with ho
              subst ho
              clear hl
              simp only [fillA, List.take, List.drop, put_none, Act.put, List.setIfInBounds_toArray, List.set_cons_zero, List.set_cons_succ, Nat.reduceAdd]
              have f10 := hf 10 (by decide) (by kernel_rfl)
              generalize vals 10 = v10 at *
              subst f10
              clear hf
              go_wp2_with (fail)
              exact RQ.mk rfl ⟨(by first | rfl | (simp [FS52_6_10]; done) | (simp [FS52_6_10, *]; done) | (simp [FS52_6_10, gotV]; done) | (simp [FS52_6_10, gotV]; omega)), fun h => absurd h (by decide)⟩ (Below.refl _ _)
            | 12, _ =>
              injection ho with ho
              subst ho
              clear hl
              simp only [fillA, List.take, List.drop, put_none, Act.put, List.setIfInBounds_toArray, List.set_cons_zero, List.set_cons_succ, Nat.reduceAdd]
              have f10 := hf 10 (by decide) (by kernel_rfl)
              generalize vals 10 = v10 at *
              subst f10
              clear hf
              go_wp2_with (fail)
              exact RQ.mk rfl ⟨(by first | rfl | (simp [FS52_6_10]; done) | (simp [FS52_6_10, *]; done) | (simp [FS52_6_10, gotV]; done) | (simp [FS52_6_10, gotV]; omega)), fun h => absurd h (by decide)⟩ (Below.refl _ _)
            | 13, _ =>
              injection ho with ho
              subst ho
              clear hl
              simp only [fillA, List.take, List.drop, put_none, Act.put, List.setIfInBounds_toArray, List.set_cons_zero, List.set_cons_succ, Nat.reduceAdd]
              have f12 := hf 12 (by decide) (by kernel_rfl)
              generalize vals 12 = v12 at *
              subst f12
              have f10 := hf 10 (by decide) (by kernel_rfl)
              generalize vals 10 = v10 at *
              subst f10
              clear hf
              go_wp2_with (fail)
              exact RQ.mk rfl ⟨(by first | rfl | (simp [FS52_6_10]; done) | (simp [FS52_6_10, *]; done) | (simp [FS52_6_10, gotV]; done) | (simp [FS52_6_10, gotV]; omega)), fun h => absurd h (by decide)⟩ (Below.refl _ _)
            | 14, _ =>
              injection ho with ho
              subst ho
              clear hl
              simp only [fillA, List.take, List.drop, put_none, Act.put, List.setIfInBounds_toArray, List.set_cons_zero, List.set_cons_succ, Nat.reduceAdd]
              have f11 := hf 11 (by decide) (by kernel_rfl)
              generalize vals 11 = v11 at *
              subst f11
              have f13 := hf 13 (by decide) (by kernel_rfl)
              generalize vals 13 = v13 at *
              subst f13
              have f10 := hf 10 (by decide) (by kernel_rfl)
              generalize vals 10 = v10 at *
              subst f10
              clear hf
              go_wp2_with (fail)
              exact RQ.mk rfl ⟨(by first | rfl | (simp [FS52_6_10]; done) | (simp [FS52_6_10, *]; done) | (simp [FS52_6_10, gotV]; done) | (simp [FS52_6_10, gotV]; omega)), fun h => absurd h (by decide)⟩ (Below.refl _ _)
            | 15, _ =>
              injection ho with ho
              subst ho
              clear hl
              simp only [fillA, List.take, List.drop, put_none, Act.put, List.setIfInBounds_toArray, List.set_cons_zero, List.set_cons_succ, Nat.reduceAdd]
              have f14 := hf 14 (by decide) (by kernel_rfl)
              generalize vals 14 = v14 at *
              subst f14
              have f10 := hf 10 (by decide) (by kernel_rfl)
              generalize vals 10 = v10 at *
              subst f10
              clear hf
              go_wp2_with (fail)
              exact RQ.mk rfl ⟨(by first | rfl | (simp [FS52_6_10]; done) | (simp [FS52_6_10, *]; done) | (simp [FS52_6_10, gotV]; done) | (simp [FS52_6_10, gotV]; omega)), fun h => absurd h (by decide)⟩ (Below.refl _ _)
            | 16, _ =>
              injection ho with ho
              subst ho
              clear hl
              simp only [fillA, List.take, List.drop, put_none, Act.put, List.setIfInBounds_toArray, List.set_cons_zero, List.set_cons_succ, Nat.reduceAdd]
              have f15 := hf 15 (by decide) (by kernel_rfl)
              generalize vals 15 = v15 at *
              subst f15
              have f10 := hf 10 (by decide) (by kernel_rfl)
              generalize vals 10 = v10 at *
              subst f10
              clear hf
              go_wp2_with (fail)
              exact RQ.mk rfl ⟨(by first | rfl | (simp [FS52_6_10]; done) | (simp [FS52_6_10, *]; done) | (simp [FS52_6_10, gotV]; done) | (simp [FS52_6_10, gotV]; omega)), fun h => absurd h (by decide)⟩ (Below.refl _ _)
            | 17, _ =>
              injection ho with ho
              subst ho
              clear hl
              simp only [fillA, List.take, List.drop, put_none, Act.put, List.setIfInBounds_toArray, List.set_cons_zero, List.set_cons_succ, Nat.reduceAdd]
              have f10 := hf 10 (by decide) (by kernel_rfl)
              generalize vals 10 = v10 at *
              subst f10
              clear hf
              go_wp2_with (fail)
              exact RQ.mk rfl ⟨(by first | rfl | (simp [FS52_6_10]; done) | (simp [FS52_6_10, *]; done) | (simp [FS52_6_10, gotV]; done) | (simp [FS52_6_10, gotV]; omega)), fun h => absurd h (by decide)⟩ (Below.refl _ _)
            | 18, _ =>
              injection ho with ho
              subst ho
              clear hl
              simp only [fillA, List.take, List.drop, put_none, Act.put, List.setIfInBounds_toArray, List.set_cons_zero, List.set_cons_succ, Nat.reduceAdd]
              have f10 := hf 10 (by decide) (by kernel_rfl)
              generalize vals 10 = v10 at *
              subst f10
              clear hf
              go_wp2_with (fail)
              exact RQ.mk rfl ⟨(by first | rfl | (simp [FS52_6_10]; done) | (simp [FS52_6_10, *]; done) | (simp [FS52_6_10, gotV]; done) | (simp [FS52_6_10, gotV]; omega)), fun h => absurd h (by decide)⟩ (Below.refl _ _)
            | 19, _ =>
              injection ho with ho
              subst ho
              clear hl
              simp only [fillA, List.take, List.drop, put_none, Act.put, List.setIfInBounds_toArray, List.set_cons_zero, List.set_cons_succ, Nat.reduceAdd]
              have f17 := hf 17 (by decide) (by kernel_rfl)
              generalize vals 17 = v17 at *
              subst f17
              have f18 := hf 18 (by decide) (by kernel_rfl)
              generalize vals 18 = v18 at *
              subst f18
              have f10 := hf 10 (by decide) (by kernel_rfl)
              generalize vals 10 = v10 at *
              subst f10
              clear hf
              go_wp2_with (fail)
              exact RQ.mk rfl ⟨(by first | rfl | (simp [FS52_6_10]; done) | (simp [FS52_6_10, *]; done) | (simp [FS52_6_10, gotV]; done) | (simp [FS52_6_10, gotV]; omega)), fun h => absurd h (by decide)⟩ (Below.refl _ _)
            | 20, _ =>
              injection ho with ho
              subst ho
              clear hl
              simp only [fillA, List.take, List.drop, put_none, Act.put, List.setIfInBounds_toArray, List.set_cons_zero, List.set_cons_succ, Nat.reduceAdd]
              have f19 := hf 19 (by decide) (by kernel_rfl)
              generalize vals 19 = v19 at *
              subst f19
              have f10 := hf 10 (by decide) (by kernel_rfl)
              generalize vals 10 = v10 at *
              subst f10
              clear hf
              go_wp2_with (fail)
              exact RQ.mk rfl ⟨(by first | rfl | (simp [FS52_6_10]; done) | (simp [FS52_6_10, *]; done) | (simp [FS52_6_10, gotV]; done) | (simp [FS52_6_10, gotV]; omega)), fun h => absurd h (by decide)⟩ (Below.refl _ _)
            | 21, _ =>
              injection ho with ho
              subst ho
              clear hl
              simp only [fillA, List.take, List.drop, put_none, Act.put, List.setIfInBounds_toArray, List.set_cons_zero, List.set_cons_succ, Nat.reduceAdd]
              have f20 := hf 20 (by decide) (by kernel_rfl)
              generalize vals 20 = v20 at *
              subst f20
              have f10 := hf 10 (by decide) (by kernel_rfl)
              generalize vals 10 = v10 at *
              subst f10
              clear hf
              go_wp2_with (fail)
              exact RQ.mk rfl ⟨(by first | rfl | (simp [FS52_6_10]; done) | (simp [FS52_6_10, *]; done) | (simp [FS52_6_10, gotV]; done) | (simp [FS52_6_10, gotV]; omega)), fun h => absurd h (by decide)⟩ (Below.refl _ _)
            | 22, _ =>
              injection ho with ho
              subst ho
              clear hl
              simp only [fillA, List.take, List.drop, put_none, Act.put, List.setIfInBounds_toArray, List.set_cons_zero, List.set_cons_succ, Nat.reduceAdd]
              have f16 := hf 16 (by decide) (by kernel_rfl)
              generalize vals 16 = v16 at *
              subst f16
              have f21 := hf 21 (by decide) (by kernel_rfl)
              generalize vals 21 = v21 at *
              subst f21
              have f10 := hf 10 (by decide) (by kernel_rfl)
              generalize vals 10 = v10 at *
              subst f10
              clear hf
              go_wp2_with (fail)
              exact RQ.mk rfl ⟨(by first | rfl | (simp [FS52_6_10]; done) | (simp [FS52_6_10, *]; done) | (simp [FS52_6_10, gotV]; done) | (simp [FS52_6_10, gotV]; omega)), fun h => absurd h (by decide)⟩ (Below.refl _ _)
            | 23, _ =>
              injection ho with ho
              subst ho
              clear hl
              simp only [fillA, List.take, List.drop, put_none, Act.put, List.setIfInBounds_toArray, List.set_cons_zero, List.set_cons_succ, Nat.reduceAdd]
              have f10 := hf 10 (by decide) (by kernel_rfl)
              generalize vals 10 = v10 at *
              subst f10
              have f22 := hf 22 (by decide) (by kernel_rfl)
              generalize vals 22 = v22 at *
              subst f22
              have f7 := hf 7 (by decide) (by kernel_rfl)
              generalize vals 7 = v7 at *
              subst f7
              clear hf
              go_wp2_with (fail)
              exact RQ.mk rfl ⟨(by first | rfl | (simp [FS52_6_10]; done) | (simp [FS52_6_10, *]; done) | (simp [FS52_6_10, gotV]; done) | (simp [FS52_6_10, gotV]; omega)), fun h => absurd h (by decide)⟩ (Below.refl _ _)
            | 24, _ =>
              injection ho with ho
              subst ho
              clear hl
              simp only [fillA, List.take, List.drop, put_none, Act.put, List.setIfInBounds_toArray, List.set_cons_zero, List.set_cons_succ, Nat.reduceAdd]
              have f7 := hf 7 (by decide) (by kernel_rfl)
              generalize vals 7 = v7 at *
              subst f7
              have f23 := hf 23 (by decide) (by kernel_rfl)
              generalize vals 23 = v23 at *
              subst f23
              clear hf
              go_wp2_with (fail)
              exact RQ.mk rfl ⟨(by first | rfl | (simp [FS52_6_10]; done) | (simp [FS52_6_10, *]; done) | (simp [FS52_6_10, gotV]; done) | (simp [FS52_6_10, gotV]; omega)), fun h => absurd h (by decide)⟩ (Below.refl _ _)
            | m + 25, h => exact absurd h (by omega)
          · intro vals w1 hb1 hf hd
            simp only [fillA, List.take, List.drop, put_none, Act.put, List.setIfInBounds_toArray, List.set_cons_zero, List.set_cons_succ, Nat.reduceAdd]
            clear hd
            have f0 := hf 0 (by decide)
            generalize vals 0 = v0 at *
            subst f0
            have f1 := hf 1 (by decide)
            generalize vals 1 = v1 at *
            subst f1
            have f2 := hf 2 (by decide)
            generalize vals 2 = v2 at *
            subst f2
            have f3 := hf 3 (by decide)
            generalize vals 3 = v3 at *
            subst f3
            have f4 := hf 4 (by decide)
            generalize vals 4 = v4 at *
            subst f4
            have f5 := hf 5 (by decide)
            generalize vals 5 = v5 at *
            subst f5
            have f6 := hf 6 (by decide)
            generalize vals 6 = v6 at *
            subst f6
            have f7 := hf 7 (by decide)
            generalize vals 7 = v7 at *
            subst f7
            have f8 := hf 8 (by decide)
            generalize vals 8 = v8 at *
            subst f8
            have f9 := hf 9 (by decide)
            generalize vals 9 = v9 at *
            subst f9
            have f10 := hf 10 (by decide)
            generalize vals 10 = v10 at *
            subst f10
            have f11 := hf 11 (by decide)
            generalize vals 11 = v11 at *
            subst f11
            have f12 := hf 12 (by decide)
            generalize vals 12 = v12 at *
            subst f12
            have f13 := hf 13 (by decide)
            generalize vals 13 = v13 at *
            subst f13
            have f14 := hf 14 (by decide)
            generalize vals 14 = v14 at *
            subst f14
            have f15 := hf 15 (by decide)
            generalize vals 15 = v15 at *
            subst f15
            have f16 := hf 16 (by decide)
            generalize vals 16 = v16 at *
            subst f16
            have f17 := hf 17 (by decide)
            generalize vals 17 = v17 at *
            subst f17
            have f18 := hf 18 (by decide)
            generalize vals 18 = v18 at *
            subst f18
            have f19 := hf 19 (by decide)
            generalize vals 19 = v19 at *
            subst f19
            have f20 := hf 20 (by decide)
            generalize vals 20 = v20 at *
            subst f20
            have f21 := hf 21 (by decide)
            generalize vals 21 = v21 at *
            subst f21
            have f22 := hf 22 (by decide)
            generalize vals 22 = v22 at *
            subst f22
            have f23 := hf 23 (by decide)
            generalize vals 23 = v23 at *
            subst f23
            have f24 := hf 24 (by decide)
            generalize vals 24 = v24 at *
            subst f24
            clear hf
            have hc1 := cellOf hb1
            have hf1 := frozOf hb1
            have hz1 := sizeOf hb1
            try simp at hz1
            go_wp2_with (fail)
            go_ret
            exact ⟨ret_bool (by rw [HB.out (by rw [HV.out, HG.out]; rfl)]), by (repeat' (first | exact Below.refl _ _ | assumption | refine Below.setCell ?_ ?_ _ | refine Below.drew ?_ | refine Below.alloc ?_ ?_ _ | refine Below.trans ?_ (Below.mono (by assumption) ?_) | (simp; done) | (simp; omega) | omega))⟩
        have HG := hid hg
        have hxb := berOk_bd hg
        simp only [berOk] at hg
        by_cases hl2 : y.1 < x.1
        rotate_left
        · have H2 : Hid (decide (y.1 < x.1) = false) := by show _ = _; simpa using hl2
          go_wp2_with (fail)
          refine wp_region_w (n := 25) [] [] (FS52_6_11 q wr x y bx ox k xs.length cap w) rfl (by kernel_rfl) (fun _ _ d _ _ h => by cases d <;> exact h) ?_ ?_ ?_ ?_ ?_ ?_
          · intro iq
            match iq with
            | 0 | 1 | 2 | 3 | 4 | 5 | 6 | 7 | 8 | 9 | 10 | 11 | 12 | 13 | 14 | 15 | 16 | 17 | 18 | 19 | 20 | 21 | 22 | 23 | 24 => exact Stable.const _
            | n + 25 => exact Stable.const _
          · intro iq hi
            exact absurd hi (by simp)
          · intro iq hi
            exact absurd hi (by simp)
          · intro iq o hi hl ho vals w1 hb1 hf
            exact absurd hl (by simp)
          · intro iq o hi hl ho vals w1 hb1 hf
            match iq, hi with
            | 0, _ =>
              injection ho with ho
              subst ho
              clear hl
              simp only [fillA, List.take, List.drop, put_none, Act.put, List.setIfInBounds_toArray, List.set_cons_zero, List.set_cons_succ, Nat.reduceAdd]
              clear hf
              go_wp2_with (fail)
              exact RQ.mk rfl ⟨(by first | rfl | (simp [FS52_6_11]; done) | (simp [FS52_6_11, *]; done) | (simp [FS52_6_11, gotV]; done) | (simp [FS52_6_11, gotV]; omega)), fun h => absurd h (by decide)⟩ (Below.refl _ _)
            | 1, _ =>
              injection ho with ho
              subst ho
              clear hl
              simp only [fillA, List.take, List.drop, put_none, Act.put, List.setIfInBounds_toArray, List.set_cons_zero, List.set_cons_succ, Nat.reduceAdd]
              clear hf
              go_wp2_with (fail)
              exact RQ.mk rfl ⟨(by first | rfl | (simp [FS52_6_11]; done) | (simp [FS52_6_11, *]; done) | (simp [FS52_6_11, gotV]; done) | (simp [FS52_6_11, gotV]; omega)), fun h => absurd h (by decide)⟩ (Below.refl _ _)
            | 2, _ =>
              injection ho with ho
              subst ho
              clear hl
              simp only [fillA, List.take, List.drop, put_none, Act.put, List.setIfInBounds_toArray, List.set_cons_zero, List.set_cons_succ, Nat.reduceAdd]
              clear hf
              go_wp2_with (fail)
              exact RQ.mk rfl ⟨(by first | rfl | (simp [FS52_6_11]; done) | (simp [FS52_6_11, *]; done) | (simp [FS52_6_11, gotV]; done) | (simp [FS52_6_11, gotV]; omega)), fun h => absurd h (by decide)⟩ (Below.refl _ _)
            | 3, _ =>
              injection ho with ho
              subst ho
              clear hl
              simp only [fillA, List.take, List.drop, put_none, Act.put, List.setIfInBounds_toArray, List.set_cons_zero, List.set_cons_succ, Nat.reduceAdd]
              have f1 := hf 1 (by decide) (by kernel_rfl)
              generalize vals 1 = v1 at *
              subst f1
              have f2 := hf 2 (by decide) (by kernel_rfl)
              generalize vals 2 = v2 at *
              subst f2
              clear hf
              go_wp2_with (fail)
              exact RQ.mk rfl ⟨(by first | rfl | (simp [FS52_6_11]; done) | (simp [FS52_6_11, *]; done) | (simp [FS52_6_11, gotV]; done) | (simp [FS52_6_11, gotV]; omega)), fun h => absurd h (by decide)⟩ (Below.refl _ _)
            | 4, _ =>
              injection ho with ho
              subst ho
              clear hl
              simp only [fillA, List.take, List.drop, put_none, Act.put, List.setIfInBounds_toArray, List.set_cons_zero, List.set_cons_succ, Nat.reduceAdd]
              have f3 := hf 3 (by decide) (by kernel_rfl)
              generalize vals 3 = v3 at *
              subst f3
              clear hf
              have hc1 := cellOf hb1
              have hf1 := frozOf hb1
              have hz1 := sizeOf hb1
              try simp at hz1
              go_wp2_with (fail)
              exact RQ.mk rfl ⟨(by first | rfl | (simp [FS52_6_11]; done) | (simp [FS52_6_11, *]; done) | (simp [FS52_6_11, gotV]; done) | (simp [FS52_6_11, gotV]; omega)), fun h => absurd h (by decide)⟩ (Below.refl _ _)
            | 5, _ =>
              injection ho with ho
              subst ho
              clear hl
              simp only [fillA, List.take, List.drop, put_none, Act.put, List.setIfInBounds_toArray, List.set_cons_zero, List.set_cons_succ, Nat.reduceAdd]
              have f0 := hf 0 (by decide) (by kernel_rfl)
              generalize vals 0 = v0 at *
              subst f0
              have f4 := hf 4 (by decide) (by kernel_rfl)
              generalize vals 4 = v4 at *
              subst f4
              clear hf
              have hc1 := cellOf hb1
              have hf1 := frozOf hb1
              have hz1 := sizeOf hb1
              try simp at hz1
              go_wp2_with (first | (go_at_call 79; refine (c_spec_l16One _ _ _ _ _ _ _ (by omega)).mono ?_; rintro e w' ⟨rfl, hb⟩; have hc := cellOf hb; have hf := frozOf hb; have hz := sizeOf hb; try simp at hz))
              exact RQ.mk rfl ⟨(by first | rfl | (simp [FS52_6_11]; done) | (simp [FS52_6_11, *]; done) | (simp [FS52_6_11, gotV]; done) | (simp [FS52_6_11, gotV]; omega)), fun h => absurd h (by decide)⟩ (by (repeat' (first | exact Below.refl _ _ | assumption | refine Below.setCell ?_ ?_ _ | refine Below.drew ?_ | refine Below.alloc ?_ ?_ _ | refine Below.trans ?_ (Below.mono (by assumption) ?_) | (simp; done) | (simp; omega) | omega)))
            | 6, _ =>
              injection ho with ho
              subst ho
              clear hl
              simp only [fillA, List.take, List.drop, put_none, Act.put, List.setIfInBounds_toArray, List.set_cons_zero, List.set_cons_succ, Nat.reduceAdd]
              have f5 := hf 5 (by decide) (by kernel_rfl)
              generalize vals 5 = v5 at *
              subst f5
              clear hf
              go_wp2_with (fail)
              exact RQ.mk rfl ⟨(by first | rfl | (simp [FS52_6_11]; done) | (simp [FS52_6_11, *]; done) | (simp [FS52_6_11, gotV]; done) | (simp [FS52_6_11, gotV]; omega)), fun h => absurd h (by decide)⟩ (Below.refl _ _)
            | 7, _ =>
              injection ho with ho
              subst ho
              clear hl
              simp only [fillA, List.take, List.drop, put_none, Act.put, List.setIfInBounds_toArray, List.set_cons_zero, List.set_cons_succ, Nat.reduceAdd]
              have f6 := hf 6 (by decide) (by kernel_rfl)
              generalize vals 6 = v6 at *
              subst f6
              have f5 := hf 5 (by decide) (by kernel_rfl)
              generalize vals 5 = v5 at *
              subst f5
              clear hf
              go_wp2_with (fail)
              exact RQ.mk rfl ⟨(by first | rfl | (simp [FS52_6_11]; done) | (simp [FS52_6_11, *]; done) | (simp [FS52_6_11, gotV]; done) | (simp [FS52_6_11, gotV]; omega)), fun h => absurd h (by decide)⟩ (Below.refl _ _)
            | 8, _ =>
              injection ho with ho
              subst ho
              clear hl
              simp only [fillA, List.take, List.drop, put_none, Act.put, List.setIfInBounds_toArray, List.set_cons_zero, List.set_cons_succ, Nat.reduceAdd]
              have f7 := hf 7 (by decide) (by kernel_rfl)
              generalize vals 7 = v7 at *
              subst f7
              clear hf
              go_wp2_with (fail)
              exact RQ.mk rfl ⟨(by first | rfl | (simp [FS52_6_11]; done) | (simp [FS52_6_11, *]; done) | (simp [FS52_6_11, gotV]; done) | (simp [FS52_6_11, gotV]; omega)), fun h => absurd h (by decide)⟩ (Below.refl _ _)
            | 9, _ =>
              injection ho with ho
              subst ho
              clear hl
              simp only [fillA, List.take, List.drop, put_none, Act.put, List.setIfInBounds_toArray, List.set_cons_zero, List.set_cons_succ, Nat.reduceAdd]
              have f8 := hf 8 (by decide) (by kernel_rfl)
              generalize vals 8 = v8 at *
              subst f8
              have f7 := hf 7 (by decide) (by kernel_rfl)
              generalize vals 7 = v7 at *
              subst f7
              clear hf
              go_wp2_with (fail)
              exact RQ.mk rfl ⟨(by first | rfl | (simp [FS52_6_11]; done) | (simp [FS52_6_11, *]; done) | (simp [FS52_6_11, gotV]; done) | (simp [FS52_6_11, gotV]; omega)), fun h => absurd h (by decide)⟩ (Below.refl _ _)
            | 10, _ =>
              injection ho with ho
              subst ho
              clear hl
              simp only [fillA, List.take, List.drop, put_none, Act.put, List.setIfInBounds_toArray, List.set_cons_zero, List.set_cons_succ, Nat.reduceAdd]
              have f9 := hf 9 (by decide) (by kernel_rfl)
              generalize vals 9 = v9 at *
              subst f9
              have f7 := hf 7 (by decide) (by kernel_rfl)
              generalize vals 7 = v7 at *
              subst f7
              clear hf
              go_wp2_with (fail)
              exact RQ.mk rfl ⟨(by first | rfl | (simp [FS52_6_11]; done) | (simp [FS52_6_11, *]; done) | (simp [FS52_6_11, gotV]; done) | (simp [FS52_6_11, gotV]; omega)), fun h => absurd h (by decide)⟩ (Below.refl _ _)
            | 11, _ =>
              injection ho with ho
              subst ho
              clear hl
              simp only [fillA, List.take, List.drop, put_none, Act.put, List.setIfInBounds_toArray, List.set_cons_zero, List.set_cons_succ, Nat.reduceAdd]
              have f10 := hf 10 (by decide) (by kernel_rfl)
              generalize vals 10 = v10 at *
              subst f10
              clear hf
              go_wp2_with (fail)
              exact RQ.mk rfl ⟨(by first | rfl | (simp [FS52_6_11]; done) | (simp [FS52_6_11, *]; done) | (simp [FS52_6_11, gotV]; done) | (simp [FS52_6_11, gotV]; omega)), fun h => absurd h (by decide)⟩ (Below.refl _ _)
            | 12, _ =>
              injection ho with ho
              subst ho
              clear hl
              simp only [fillA, List.take, List.drop, put_none, Act.put, List.setIfInBounds_toArray, List.set_cons_zero, List.set_cons_succ, Nat.reduceAdd]
              have f10 := hf 10 (by decide) (by kernel_rfl)
              generalize vals 10 = v10 at *
              subst f10
              clear hf
              go_wp2_with (fail)
              exact RQ.mk rfl ⟨(by first | rfl | (simp [FS52_6_11]; done) | (simp [FS52_6_11, *]; done) | (simp [FS52_6_11, gotV]; done) | (simp [FS52_6_11, gotV]; omega)), fun h => absurd h (by decide)⟩ (Below.refl _ _)
            | 13, _ =>
              injection ho with ho
              subst ho
              clear hl
              simp only [fillA, List.take, List.drop, put_none, Act.put, List.setIfInBounds_toArray, List.set_cons_zero, List.set_cons_succ, Nat.reduceAdd]
              have f12 := hf 12 (by decide) (by kernel_rfl)
              generalize vals 12 = v12 at *
              subst f12
              have f10 := hf 10 (by decide) (by kernel_rfl)
              generalize vals 10 = v10 at *
              subst f10
              clear hf
              go_wp2_with (fail)
              exact RQ.mk rfl ⟨(by first | rfl | (simp [FS52_6_11]; done) | (simp [FS52_6_11, *]; done) | (simp [FS52_6_11, gotV]; done) | (simp [FS52_6_11, gotV]; omega)), fun h => absurd h (by decide)⟩ (Below.refl _ _)
            | 14, _ =>
              injection ho with ho
              subst ho
              clear hl
              simp only [fillA, List.take, List.drop, put_none, Act.put, List.setIfInBounds_toArray, List.set_cons_zero, List.set_cons_succ, Nat.reduceAdd]
              have f11 := hf 11 (by decide) (by kernel_rfl)
              generalize vals 11 = v11 at *
              subst f11
              have f13 := hf 13 (by decide) (by kernel_rfl)
              generalize vals 13 = v13 at *
              subst f13
              have f10 := hf 10 (by decide) (by kernel_rfl)
              generalize vals 10 = v10 at *
              subst f10
              clear hf
              go_wp2_with (fail)
              exact RQ.mk rfl ⟨(by first | rfl | (simp [FS52_6_11]; done) | (simp [FS52_6_11, *]; done) | (simp [FS52_6_11, gotV]; done) | (simp [FS52_6_11, gotV]; omega)), fun h => absurd h (by decide)⟩ (Below.refl _ _)
            | 15, _ =>
              injection ho with ho
              subst ho
              clear hl
              simp only [fillA, List.take, List.drop, put_none, Act.put, List.setIfInBounds_toArray, List.set_cons_zero, List.set_cons_succ, Nat.reduceAdd]
              have f14 := hf 14 (by decide) (by kernel_rfl)
              generalize vals 14 = v14 at *
              subst f14
              have f10 := hf 10 (by decide) (by kernel_rfl)
              generalize vals 10 = v10 at *
              subst f10
              clear hf
              go_wp2_with (fail)
              exact RQ.mk rfl ⟨(by first | rfl | (simp [FS52_6_11]; done) | (simp [FS52_6_11, *]; done) | (simp [FS52_6_11, gotV]; done) | (simp [FS52_6_11, gotV]; omega)), fun h => absurd h (by decide)⟩ (Below.refl _ _)
            | 16, _ =>
              injection ho with ho
              subst ho
              clear hl
              simp only [fillA, List.take, List.drop, put_none, Act.put, List.setIfInBounds_toArray, List.set_cons_zero, List.set_cons_succ, Nat.reduceAdd]
              have f15 := hf 15 (by decide) (by kernel_rfl)
              generalize vals 15 = v15 at *
              subst f15
              have f10 := hf 10 (by decide) (by kernel_rfl)
              generalize vals 10 = v10 at *
              subst f10
              clear hf
              have hc1 := cellOf hb1
              have hf1 := frozOf hb1
              have hz1 := sizeOf hb1
              try simp at hz1
              go_wp2_with (fail)
              exact RQ.mk rfl ⟨(by first | rfl | (simp [FS52_6_11]; done) | (simp [FS52_6_11, *]; done) | (simp [FS52_6_11, gotV]; done) | (simp [FS52_6_11, gotV]; omega)), fun h => absurd h (by decide)⟩ (Below.refl _ _)
            | 17, _ =>
              injection ho with ho
              subst ho
              clear hl
              simp only [fillA, List.take, List.drop, put_none, Act.put, List.setIfInBounds_toArray, List.set_cons_zero, List.set_cons_succ, Nat.reduceAdd]
              have f10 := hf 10 (by decide) (by kernel_rfl)
              generalize vals 10 = v10 at *
              subst f10
              clear hf
              go_wp2_with (fail)
              exact RQ.mk rfl ⟨(by first | rfl | (simp [FS52_6_11]; done) | (simp [FS52_6_11, *]; done) | (simp [FS52_6_11, gotV]; done) | (simp [FS52_6_11, gotV]; omega)), fun h => absurd h (by decide)⟩ (Below.refl _ _)
            | 18, _ =>
              injection ho with ho
              subst ho
              clear hl
              simp only [fillA, List.take, List.drop, put_none, Act.put, List.setIfInBounds_toArray, List.set_cons_zero, List.set_cons_succ, Nat.reduceAdd]
              have f10 := hf 10 (by decide) (by kernel_rfl)
              generalize vals 10 = v10 at *
              subst f10
              clear hf
              go_wp2_with (fail)
              exact RQ.mk rfl ⟨(by first | rfl | (simp [FS52_6_11]; done) | (simp [FS52_6_11, *]; done) | (simp [FS52_6_11, gotV]; done) | (simp [FS52_6_11, gotV]; omega)), fun h => absurd h (by decide)⟩ (Below.refl _ _)
            | 19, _ =>
              injection ho with ho
              subst ho
              clear hl
              simp only [fillA, List.take, List.drop, put_none, Act.put, List.setIfInBounds_toArray, List.set_cons_zero, List.set_cons_succ, Nat.reduceAdd]
              have f17 := hf 17 (by decide) (by kernel_rfl)
              generalize vals 17 = v17 at *
              subst f17
              have f18 := hf 18 (by decide) (by kernel_rfl)
              generalize vals 18 = v18 at *
              subst f18
              have f10 := hf 10 (by decide) (by kernel_rfl)
              generalize vals 10 = v10 at *
              subst f10
              clear hf
              go_wp2_with (fail)
              exact RQ.mk rfl ⟨(by first | rfl | (simp [FS52_6_11]; done) | (simp [FS52_6_11, *]; done) | (simp [FS52_6_11, gotV]; done) | (simp [FS52_6_11, gotV]; omega)), fun h => absurd h (by decide)⟩ (Below.refl _ _)
            | 20, _ =>
              injection ho with ho
              subst ho
              clear hl
              simp only [fillA, List.take, List.drop, put_none, Act.put, List.setIfInBounds_toArray, List.set_cons_zero, List.set_cons_succ, Nat.reduceAdd]
              have f19 := hf 19 (by decide) (by kernel_rfl)
              generalize vals 19 = v19 at *
              subst f19
              have f10 := hf 10 (by decide) (by kernel_rfl)
              generalize vals 10 = v10 at *
              subst f10
              clear hf
              go_wp2_with (fail)
              exact RQ.mk rfl ⟨(by first | rfl | (simp [FS52_6_11]; done) | (simp [FS52_6_11, *]; done) | (simp [FS52_6_11, gotV]; done) | (simp [FS52_6_11, gotV]; omega)), fun h => absurd h (by decide)⟩ (Below.refl _ _)
            | 21, _ =>
              injection ho with ho
              subst ho
              clear hl
              simp only [fillA, List.take, List.drop, put_none, Act.put, List.setIfInBounds_toArray, List.set_cons_zero, List.set_cons_succ, Nat.reduceAdd]
              have f20 := hf 20 (by decide) (by kernel_rfl)
              generalize vals 20 = v20 at *
              subst f20
              have f10 := hf 10 (by decide) (by kernel_rfl)
              generalize vals 10 = v10 at *
              subst f10
              clear hf
              have hc1 := cellOf hb1
              have hf1 := frozOf hb1
              have hz1 := sizeOf hb1
              try simp at hz1
              go_wp2_with (fail)
              exact RQ.mk rfl ⟨(by first | rfl | (simp [FS52_6_11]; done) | (simp [FS52_6_11, *]; done) | (simp [FS52_6_11, gotV]; done) | (simp [FS52_6_11, gotV]; omega)), fun h => absurd h (by decide)⟩ (Below.refl _ _)
            | 22, _ =>
              injection ho with ho
              subst ho
              clear hl
              simp only [fillA, List.take, List.drop, put_none, Act.put, List.setIfInBounds_toArray, List.set_cons_zero, List.set_cons_succ, Nat.reduceAdd]
              have f16 := hf 16 (by decide) (by kernel_rfl)
              generalize vals 16 = v16 at *
              subst f16
              have f21 := hf 21 (by decide) (by kernel_rfl)
              generalize vals 21 = v21 at *
              subst f21
              have f10 := hf 10 (by decide) (by kernel_rfl)
              generalize vals 10 = v10 at *
              subst f10
              clear hf
              go_wp2_with (fail)
              exact RQ.mk rfl ⟨(by first | rfl | (simp [FS52_6_11]; done) | (simp [FS52_6_11, *]; done) | (simp [FS52_6_11, gotV]; done) | (simp [FS52_6_11, gotV]; omega)), fun h => absurd h (by decide)⟩ (Below.refl _ _)
            | 23, _ =>
              injection ho with ho
              subst ho
              clear hl
              simp only [fillA, List.take, List.drop, put_none, Act.put, List.setIfInBounds_toArray, List.set_cons_zero, List.set_cons_succ, Nat.reduceAdd]
              have f10 := hf 10 (by decide) (by kernel_rfl)
              generalize vals 10 = v10 at *
              subst f10
              have f22 := hf 22 (by decide) (by kernel_rfl)
              generalize vals 22 = v22 at *
              subst f22
              have f7 := hf 7 (by decide) (by kernel_rfl)
              generalize vals 7 = v7 at *
              subst f7
              clear hf
              go_wp2_with (fail)
              exact RQ.mk rfl ⟨(by first | rfl | (simp [FS52_6_11]; done) | (simp [FS52_6_11, *]; done) | (simp [FS52_6_11, gotV]; done) | (simp [FS52_6_11, gotV]; omega)), fun h => absurd h (by decide)⟩ (Below.refl _ _)
            | 24, _ =>
              injection ho with ho
              subst ho
              clear hl
              simp only [fillA, List.take, List.drop, put_none, Act.put, List.setIfInBounds_toArray, List.set_cons_zero, List.set_cons_succ, Nat.reduceAdd]
              have f7 := hf 7 (by decide) (by kernel_rfl)
              generalize vals 7 = v7 at *
              subst f7
              have f23 := hf 23 (by decide) (by kernel_rfl)
              generalize vals 23 = v23 at *
              subst f23
              clear hf
              go_wp2_with (fail)
              exact RQ.mk rfl ⟨(by first | rfl | (simp [FS52_6_11]; done) | (simp [FS52_6_11, *]; done) | (simp [FS52_6_11, gotV]; done) | (simp [FS52_6_11, gotV]; omega)), fun h => absurd h (by decide)⟩ (Below.refl _ _)
            | m + 25, h => exact absurd h (by omega)
          · intro vals w1 hb1 hf hd
            simp only [fillA, List.take, List.drop, put_none, Act.put, List.setIfInBounds_toArray, List.set_cons_zero, List.set_cons_succ, Nat.reduceAdd]
            clear hd
            have f0 := hf 0 (by decide)
            generalize vals 0 = v0 at *
            subst f0
            have f1 := hf 1 (by decide)
            generalize vals 1 = v1 at *
            subst f1
            have f2 := hf 2 (by decide)
            generalize vals 2 = v2 at *
            subst f2
            have f3 := hf 3 (by decide)
            generalize vals 3 = v3 at *
            subst f3
            have f4 := hf 4 (by decide)
            generalize vals 4 = v4 at *
            subst f4
            have f5 := hf 5 (by decide)
            generalize vals 5 = v5 at *
            subst f5
            have f6 := hf 6 (by decide)
            generalize vals 6 = v6 at *
            subst f6
            have f7 := hf 7 (by decide)
            generalize vals 7 = v7 at *
            subst f7
            have f8 := hf 8 (by decide)
            generalize vals 8 = v8 at *
            subst f8
            have f9 := hf 9 (by decide)
            generalize vals 9 = v9 at *
            subst f9
            have f10 := hf 10 (by decide)
            generalize vals 10 = v10 at *
            subst f10
            have f11 := hf 11 (by decide)
            generalize vals 11 = v11 at *
            subst f11
            have f12 := hf 12 (by decide)
            generalize vals 12 = v12 at *
            subst f12
            have f13 := hf 13 (by decide)
            generalize vals 13 = v13 at *
            subst f13
            have f14 := hf 14 (by decide)
            generalize vals 14 = v14 at *
            subst f14
            have f15 := hf 15 (by decide)
            generalize vals 15 = v15 at *
            subst f15
            have f16 := hf 16 (by decide)
            generalize vals 16 = v16 at *
            subst f16
            have f17 := hf 17 (by decide)
            generalize vals 17 = v17 at *
            subst f17
            have f18 := hf 18 (by decide)
            generalize vals 18 = v18 at *
            subst f18
            have f19 := hf 19 (by decide)
            generalize vals 19 = v19 at *
            subst f19
            have f20 := hf 20 (by decide)
            generalize vals 20 = v20 at *
            subst f20
            have f21 := hf 21 (by decide)
            generalize vals 21 = v21 at *
            subst f21
            have f22 := hf 22 (by decide)
            generalize vals 22 = v22 at *
            subst f22
            have f23 := hf 23 (by decide)
            generalize vals 23 = v23 at *
            subst f23
            have f24 := hf 24 (by decide)
            generalize vals 24 = v24 at *
            subst f24
            clear hf
            have hc1 := cellOf hb1
            have hf1 := frozOf hb1
            have hz1 := sizeOf hb1
            try simp at hz1
            go_wp2_with (fail)
            go_ret
            exact ⟨ret_bool (by rw [HB.out (by rw [HV.out, HG.out, H2.out]; rfl)]), by (repeat' (first | exact Below.refl _ _ | assumption | refine Below.setCell ?_ ?_ _ | refine Below.drew ?_ | refine Below.alloc ?_ ?_ _ | refine Below.trans ?_ (Below.mono (by assumption) ?_) | (simp; done) | (simp; omega) | omega))⟩
        have H2 : Hid (decide (y.1 < x.1) = true) := by show _ = _; simpa using hl2
        go_wp2_with (fail)
        refine wp_region_w (n := 25) [] [] (FS52_6_12 q wr x y bx ox k xs.length cap w) rfl (by kernel_rfl) (fun _ _ d _ _ h => by cases d <;> exact h) ?_ ?_ ?_ ?_ ?_ ?_
        · intro iq
          match iq with
          | 0 | 1 | 2 | 3 | 4 | 5 | 6 | 7 | 8 | 9 | 10 | 11 | 12 | 13 | 14 | 15 | 16 | 17 | 18 | 19 | 20 | 21 | 22 | 23 | 24 => exact Stable.const _
          | n + 25 => exact Stable.const _
        · intro iq hi
          exact absurd hi (by simp)
        · intro iq hi
          exact absurd hi (by simp)
        · intro iq o hi hl ho vals w1 hb1 hf
          exact absurd hl (by simp)
        · intro iq o hi hl ho vals w1 hb1 hf
          match iq, hi with
          | 0, _ =>
            injection ho with ho
            subst ho
            clear hl
            simp only [fillA, List.take, List.drop, put_none, Act.put, List.setIfInBounds_toArray, List.set_cons_zero, List.set_cons_succ, Nat.reduceAdd]
            clear hf
            go_wp2_with (fail)
            exact RQ.mk rfl ⟨(by first | rfl | (simp [FS52_6_12]; done) | (simp [FS52_6_12, *]; done) | (simp [FS52_6_12, gotV]; done) | (simp [FS52_6_12, gotV]; omega)), fun h => absurd h (by decide)⟩ (Below.refl _ _)
          | 1, _ =>
            injection ho with ho
            subst ho
            clear hl
            simp only [fillA, List.take, List.drop, put_none, Act.put, List.setIfInBounds_toArray, List.set_cons_zero, List.set_cons_succ, Nat.reduceAdd]
            clear hf
            go_wp2_with (fail)
            exact RQ.mk rfl ⟨(by first | rfl | (simp [FS52_6_12]; done) | (simp [FS52_6_12, *]; done) | (simp [FS52_6_12, gotV]; done) | (simp [FS52_6_12, gotV]; omega)), fun h => absurd h (by decide)⟩ (Below.refl _ _)
          | 2, _ =>
            injection ho with ho
            subst ho
            clear hl
            simp only [fillA, List.take, List.drop, put_none, Act.put, List.setIfInBounds_toArray, List.set_cons_zero, List.set_cons_succ, Nat.reduceAdd]
            clear hf
            go_wp2_with (fail)
            exact RQ.mk rfl ⟨(by first | rfl | (simp [FS52_6_12]; done) | (simp [FS52_6_12, *]; done) | (simp [FS52_6_12, gotV]; done) | (simp [FS52_6_12, gotV]; omega)), fun h => absurd h (by decide)⟩ (Below.refl _ _)
          | 3, _ =>
            injection ho with ho
            subst ho
            clear hl
            simp only [fillA, List.take, List.drop, put_none, Act.put, List.setIfInBounds_toArray, List.set_cons_zero, List.set_cons_succ, Nat.reduceAdd]
            have f1 := hf 1 (by decide) (by kernel_rfl)
            generalize vals 1 = v1 at *
            subst f1
            have f2 := hf 2 (by decide) (by kernel_rfl)
            generalize vals 2 = v2 at *
            subst f2
            clear hf
            go_wp2_with (fail)
            exact RQ.mk rfl ⟨(by first | rfl | (simp [FS52_6_12]; done) | (simp [FS52_6_12, *]; done) | (simp [FS52_6_12, gotV]; done) | (simp [FS52_6_12, gotV]; omega)), fun h => absurd h (by decide)⟩ (Below.refl _ _)
          | 4, _ =>
            injection ho with ho
            subst ho
            clear hl
            simp only [fillA, List.take, List.drop, put_none, Act.put, List.setIfInBounds_toArray, List.set_cons_zero, List.set_cons_succ, Nat.reduceAdd]
            have f3 := hf 3 (by decide) (by kernel_rfl)
            generalize vals 3 = v3 at *
            subst f3
            clear hf
            have hc1 := cellOf hb1
            have hf1 := frozOf hb1
            have hz1 := sizeOf hb1
            try simp at hz1
            go_wp2_with (fail)
            exact RQ.mk rfl ⟨(by first | rfl | (simp [FS52_6_12]; done) | (simp [FS52_6_12, *]; done) | (simp [FS52_6_12, gotV]; done) | (simp [FS52_6_12, gotV]; omega)), fun h => absurd h (by decide)⟩ (Below.refl _ _)
          | 5, _ =>
            injection ho with ho
            subst ho
            clear hl
            simp only [fillA, List.take, List.drop, put_none, Act.put, List.setIfInBounds_toArray, List.set_cons_zero, List.set_cons_succ, Nat.reduceAdd]
            have f0 := hf 0 (by decide) (by kernel_rfl)
            generalize vals 0 = v0 at *
            subst f0
            have f4 := hf 4 (by decide) (by kernel_rfl)
            generalize vals 4 = v4 at *
            subst f4
            clear hf
            have hc1 := cellOf hb1
            have hf1 := frozOf hb1
            have hz1 := sizeOf hb1
            try simp at hz1
            go_wp2_with (first | (go_at_call 79; refine (c_spec_l16One _ _ _ _ _ _ _ (by omega)).mono ?_; rintro e w' ⟨rfl, hb⟩; have hc := cellOf hb; have hf := frozOf hb; have hz := sizeOf hb; try simp at hz))
            exact RQ.mk rfl ⟨(by first | rfl | (simp [FS52_6_12]; done) | (simp [FS52_6_12, *]; done) | (simp [FS52_6_12, gotV]; done) | (simp [FS52_6_12, gotV]; omega)), fun h => absurd h (by decide)⟩ (by (repeat' (first | exact Below.refl _ _ | assumption | refine Below.setCell ?_ ?_ _ | refine Below.drew ?_ | refine Below.alloc ?_ ?_ _ | refine Below.trans ?_ (Below.mono (by assumption) ?_) | (simp; done) | (simp; omega) | omega)))
          | 6, _ =>
            injection ho with ho
            subst ho
            clear hl
            simp only [fillA, List.take, List.drop, put_none, Act.put, List.setIfInBounds_toArray, List.set_cons_zero, List.set_cons_succ, Nat.reduceAdd]
            have f5 := hf 5 (by decide) (by kernel_rfl)
            generalize vals 5 = v5 at *
            subst f5
            clear hf
            go_wp2_with (fail)
            exact RQ.mk rfl ⟨(by first | rfl | (simp [FS52_6_12]; done) | (simp [FS52_6_12, *]; done) | (simp [FS52_6_12, gotV]; done) | (simp [FS52_6_12, gotV]; omega)), fun h => absurd h (by decide)⟩ (Below.refl _ _)
          | 7, _ =>
            injection ho with ho
            subst ho
            clear hl
            simp only [fillA, List.take, List.drop, put_none, Act.put, List.setIfInBounds_toArray, List.set_cons_zero, List.set_cons_succ, Nat.reduceAdd]
            have f6 := hf 6 (by decide) (by kernel_rfl)
            generalize vals 6 = v6 at *
            subst f6
            have f5 := hf 5 (by decide) (by kernel_rfl)
            generalize vals 5 = v5 at *
            subst f5
            clear hf
            go_wp2_with (fail)
            exact RQ.mk rfl ⟨(by first | rfl | (simp [FS52_6_12]; done) | (simp [FS52_6_12, *]; done) | (simp [FS52_6_12, gotV]; done) | (simp [FS52_6_12, gotV]; omega)), fun h => absurd h (by decide)⟩ (Below.refl _ _)
          | 8, _ =>
            injection ho with ho
            subst ho
            clear hl
            simp only [fillA, List.take, List.drop, put_none, Act.put, List.setIfInBounds_toArray, List.set_cons_zero, List.set_cons_succ, Nat.reduceAdd]
            have f7 := hf 7 (by decide) (by kernel_rfl)
            generalize vals 7 = v7 at *
            subst f7
            clear hf
            go_wp2_with (fail)
            exact RQ.mk rfl ⟨(by first | rfl | (simp [FS52_6_12]; done) | (simp [FS52_6_12, *]; done) | (simp [FS52_6_12, gotV]; done) | (simp [FS52_6_12, gotV]; omega)), fun h => absurd h (by decide)⟩ (Below.refl _ _)
          | 9, _ =>
            injection ho with ho
            subst ho
            clear hl
            simp only [fillA, List.take, List.drop, put_none, Act.put, List.setIfInBounds_toArray, List.set_cons_zero, List.set_cons_succ, Nat.reduceAdd]
            have f8 := hf 8 (by decide) (by kernel_rfl)
            generalize vals 8 = v8 at *
            subst f8
            have f7 := hf 7 (by decide) (by kernel_rfl)
            generalize vals 7 = v7 at *
            subst f7
            clear hf
            go_wp2_with (fail)
            exact RQ.mk rfl ⟨(by first | rfl | (simp [FS52_6_12]; done) | (simp [FS52_6_12, *]; done) | (simp [FS52_6_12, gotV]; done) | (simp [FS52_6_12, gotV]; omega)), fun h => absurd h (by decide)⟩ (Below.refl _ _)
          | 10, _ =>
            injection ho with ho
            subst ho
            clear hl
            simp only [fillA, List.take, List.drop, put_none, Act.put, List.setIfInBounds_toArray, List.set_cons_zero, List.set_cons_succ, Nat.reduceAdd]
            have f9 := hf 9 (by decide) (by kernel_rfl)
            generalize vals 9 = v9 at *
            subst f9
            have f7 := hf 7 (by decide) (by kernel_rfl)
            generalize vals 7 = v7 at *
            subst f7
            clear hf
            go_wp2_with (fail)
            exact RQ.mk rfl ⟨(by first | rfl | (simp [FS52_6_12]; done) | (simp [FS52_6_12, *]; done) | (simp [FS52_6_12, gotV]; done) | (simp [FS52_6_12, gotV]; omega)), fun h => absurd h (by decide)⟩ (Below.refl _ _)
          | 11, _ =>
            injection ho with ho
            subst ho
            clear hl
            simp only [fillA, List.take, List.drop, put_none, Act.put, List.setIfInBounds_toArray, List.set_cons_zero, List.set_cons_succ, Nat.reduceAdd]
            have f10 := hf 10 (by decide) (by kernel_rfl)
            generalize vals 10 = v10 at *
            subst f10
            clear hf
            go_wp2_with (fail)
            exact RQ.mk rfl ⟨(by first | rfl | (simp [FS52_6_12]; done) | (simp [FS52_6_12, *]; done) | (simp [FS52_6_12, gotV]; done) | (simp [FS52_6_12, gotV]; omega)), fun h => absurd h (by decide)⟩ (Below.refl _ _)
          | 12, _ =>
            injection ho with ho
            subst ho
            clear hl
            simp only [fillA, List.take, List.drop, put_none, Act.put, List.setIfInBounds_toArray, List.set_cons_zero, List.set_cons_succ, Nat.reduceAdd]
            have f10 := hf 10 (by decide) (by kernel_rfl)
            generalize vals 10 = v10 at *
            subst f10
            clear hf
            go_wp2_with (fail)
            exact RQ.mk rfl ⟨(by first | rfl | (simp [FS52_6_12]; done) | (simp [FS52_6_12, *]; done) | (simp [FS52_6_12, gotV]; done) | (simp [FS52_6_12, gotV]; omega)), fun h => absurd h (by decide)⟩ (Below.refl _ _)
          | 13, _ =>
            injection ho with ho
            subst ho
            clear hl
            simp only [fillA, List.take, List.drop, put_none, Act.put, List.setIfInBounds_toArray, List.set_cons_zero, List.set_cons_succ, Nat.reduceAdd]
            have f12 := hf 12 (by decide) (by kernel_rfl)
            generalize vals 12 = v12 at *
            subst f12
            have f10 := hf 10 (by decide) (by kernel_rfl)
            generalize vals 10 = v10 at *
            subst f10
            clear hf
            go_wp2_with (fail)
            exact RQ.mk rfl ⟨(by first | rfl | (simp [FS52_6_12]; done) | (simp [FS52_6_12, *]; done) | (simp [FS52_6_12, gotV]; done) | (simp [FS52_6_12, gotV]; omega)), fun h => absurd h (by decide)⟩ (Below.refl _ _)
          | 14, _ =>
            injection ho with ho
            subst ho
            clear hl
            simp only [fillA, List.take, List.drop, put_none, Act.put, List.setIfInBounds_toArray, List.set_cons_zero, List.set_cons_succ, Nat.reduceAdd]
            have f11 := hf 11 (by decide) (by kernel_rfl)
            generalize vals 11 = v11 at *
            subst f11
            have f13 := hf 13 (by decide) (by kernel_rfl)
            generalize vals 13 = v13 at *
            subst f13
            have f10 := hf 10 (by decide) (by kernel_rfl)
            generalize vals 10 = v10 at *
            subst f10
            clear hf
            go_wp2_with (fail)
            exact RQ.mk rfl ⟨(by first | rfl | (simp [FS52_6_12]; done) | (simp [FS52_6_12, *]; done) | (simp [FS52_6_12, gotV]; done) | (simp [FS52_6_12, gotV]; omega)), fun h => absurd h (by decide)⟩ (Below.refl _ _)
          | 15, _ =>
            injection ho with ho
            subst ho
            clear hl
            simp only [fillA, List.take, List.drop, put_none, Act.put, List.setIfInBounds_toArray, List.set_cons_zero, List.set_cons_succ, Nat.reduceAdd]
            have f14 := hf 14 (by decide) (by kernel_rfl)
            generalize vals 14 = v14 at *
            subst f14
            have f10 := hf 10 (by decide) (by kernel_rfl)
            generalize vals 10 = v10 at *
            subst f10
            clear hf
            go_wp2_with (fail)
            exact RQ.mk rfl ⟨(by first | rfl | (simp [FS52_6_12]; done) | (simp [FS52_6_12, *]; done) | (simp [FS52_6_12, gotV]; done) | (simp [FS52_6_12, gotV]; omega)), fun h => absurd h (by decide)⟩ (Below.refl _ _)
          | 16, _ =>
            injection ho with ho
            subst ho
            clear hl
            simp only [fillA, List.take, List.drop, put_none, Act.put, List.setIfInBounds_toArray, List.set_cons_zero, List.set_cons_succ, Nat.reduceAdd]
            have f15 := hf 15 (by decide) (by kernel_rfl)
            generalize vals 15 = v15 at *
            subst f15
            have f10 := hf 10 (by decide) (by kernel_rfl)
            generalize vals 10 = v10 at *
            subst f10
            clear hf
            have hc1 := cellOf hb1
            have hf1 := frozOf hb1
            have hz1 := sizeOf hb1
            try simp at hz1
            go_wp2_with (fail)
            exact RQ.mk rfl ⟨(by first | rfl | (simp [FS52_6_12]; done) | (simp [FS52_6_12, *]; done) | (simp [FS52_6_12, gotV]; done) | (simp [FS52_6_12, gotV]; omega)), fun h => absurd h (by decide)⟩ (Below.refl _ _)
          | 17, _ =>
            injection ho with ho
            subst ho
            clear hl
            simp only [fillA, List.take, List.drop, put_none, Act.put, List.setIfInBounds_toArray, List.set_cons_zero, List.set_cons_succ, Nat.reduceAdd]
            have f10 := hf 10 (by decide) (by kernel_rfl)
            generalize vals 10 = v10 at *
            subst f10
            clear hf
            go_wp2_with (fail)
            exact RQ.mk rfl ⟨(by first | rfl | (simp [FS52_6_12]; done) | (simp [FS52_6_12, *]; done) | (simp [FS52_6_12, gotV]; done) | (simp [FS52_6_12, gotV]; omega)), fun h => absurd h (by decide)⟩ (Below.refl _ _)
          | 18, _ =>
            injection ho with ho
            subst ho
            clear hl
            simp only [fillA, List.take, List.drop, put_none, Act.put, List.setIfInBounds_toArray, List.set_cons_zero, List.set_cons_succ, Nat.reduceAdd]
            have f10 := hf 10 (by decide) (by kernel_rfl)
            generalize vals 10 = v10 at *
            subst f10
            clear hf
            go_wp2_with (fail)
            exact RQ.mk rfl ⟨(by first | rfl | (simp [FS52_6_12]; done) | (simp [FS52_6_12, *]; done) | (simp [FS52_6_12, gotV]; done) | (simp [FS52_6_12, gotV]; omega)), fun h => absurd h (by decide)⟩ (Below.refl _ _)
          | 19, _ =>
            injection ho with ho
            subst ho
            clear hl
            simp only [fillA, List.take, List.drop, put_none, Act.put, List.setIfInBounds_toArray, List.set_cons_zero, List.set_cons_succ, Nat.reduceAdd]
            have f17 := hf 17 (by decide) (by kernel_rfl)
            generalize vals 17 = v17 at *
            subst f17
            have f18 := hf 18 (by decide) (by kernel_rfl)
            generalize vals 18 = v18 at *
            subst f18
            have f10 := hf 10 (by decide) (by kernel_rfl)
            generalize vals 10 = v10 at *
            subst f10
            clear hf
            go_wp2_with (fail)
            exact RQ.mk rfl ⟨(by first | rfl | (simp [FS52_6_12]; done) | (simp [FS52_6_12, *]; done) | (simp [FS52_6_12, gotV]; done) | (simp [FS52_6_12, gotV]; omega)), fun h => absurd h (by decide)⟩ (Below.refl _ _)
          | 20, _ =>
            injection ho with ho
            subst ho
            clear hl
            simp only [fillA, List.take, List.drop, put_none, Act.put, List.setIfInBounds_toArray, List.set_cons_zero, List.set_cons_succ, Nat.reduceAdd]
            have f19 := hf 19 (by decide) (by kernel_rfl)
            generalize vals 19 = v19 at *
            subst f19
            have f10 := hf 10 (by decide) (by kernel_rfl)
            generalize vals 10 = v10 at *
            subst f10
            clear hf
            go_wp2_with (fail)
            exact RQ.mk rfl ⟨(by first | rfl | (simp [FS52_6_12]; done) | (simp [FS52_6_12, *]; done) | (simp [FS52_6_12, gotV]; done) | (simp [FS52_6_12, gotV]; omega)), fun h => absurd h (by decide)⟩ (Below.refl _ _)
          | 21, _ =>
            injection ho with ho
            subst ho
            clear hl
            simp only [fillA, List.take, List.drop, put_none, Act.put, List.setIfInBounds_toArray, List.set_cons_zero, List.set_cons_succ, Nat.reduceAdd]
            have f20 := hf 20 (by decide) (by kernel_rfl)
            generalize vals 20 = v20 at *
            subst f20
            have f10 := hf 10 (by decide) (by kernel_rfl)
            generalize vals 10 = v10 at *
            subst f10
            clear hf
            have hc1 := cellOf hb1
            have hf1 := frozOf hb1
            have hz1 := sizeOf hb1
            try simp at hz1
            go_wp2_with (fail)
            exact RQ.mk rfl ⟨(by first | rfl | (simp [FS52_6_12]; done) | (simp [FS52_6_12, *]; done) | (simp [FS52_6_12, gotV]; done) | (simp [FS52_6_12, gotV]; omega)), fun h => absurd h (by decide)⟩ (Below.refl _ _)
          | 22, _ =>
            injection ho with ho
            subst ho
            clear hl
            simp only [fillA, List.take, List.drop, put_none, Act.put, List.setIfInBounds_toArray, List.set_cons_zero, List.set_cons_succ, Nat.reduceAdd]
            have f16 := hf 16 (by decide) (by kernel_rfl)
            generalize vals 16 = v16 at *
            subst f16
            have f21 := hf 21 (by decide) (by kernel_rfl)
            generalize vals 21 = v21 at *
            subst f21
            have f10 := hf 10 (by decide) (by kernel_rfl)
            generalize vals 10 = v10 at *
            subst f10
            clear hf
            go_wp2_with (fail)
            exact RQ.mk rfl ⟨(by first | rfl | (simp [FS52_6_12]; done) | (simp [FS52_6_12, *]; done) | (simp [FS52_6_12, gotV]; done) | (simp [FS52_6_12, gotV]; omega)), fun h => absurd h (by decide)⟩ (Below.refl _ _)
          | 23, _ =>
            injection ho with ho
            subst ho
            clear hl
            simp only [fillA, List.take, List.drop, put_none, Act.put, List.setIfInBounds_toArray, List.set_cons_zero, List.set_cons_succ, Nat.reduceAdd]
            have f10 := hf 10 (by decide) (by kernel_rfl)
            generalize vals 10 = v10 at *
            subst f10
            have f22 := hf 22 (by decide) (by kernel_rfl)
            generalize vals 22 = v22 at *
            subst f22
            have f7 := hf 7 (by decide) (by kernel_rfl)
            generalize vals 7 = v7 at *
            subst f7
            clear hf
            go_wp2_with (fail)
            exact RQ.mk rfl ⟨(by first | rfl | (simp [FS52_6_12]; done) | (simp [FS52_6_12, *]; done) | (simp [FS52_6_12, gotV]; done) | (simp [FS52_6_12, gotV]; omega)), fun h => absurd h (by decide)⟩ (Below.refl _ _)
          | 24, _ =>
            injection ho with ho
            subst ho
            clear hl
            simp only [fillA, List.take, List.drop, put_none, Act.put, List.setIfInBounds_toArray, List.set_cons_zero, List.set_cons_succ, Nat.reduceAdd]
            have f7 := hf 7 (by decide) (by kernel_rfl)
            generalize vals 7 = v7 at *
            subst f7
            have f23 := hf 23 (by decide) (by kernel_rfl)
            generalize vals 23 = v23 at *
            subst f23
            clear hf
            go_wp2_with (fail)
            exact RQ.mk rfl ⟨(by first | rfl | (simp [FS52_6_12]; done) | (simp [FS52_6_12, *]; done) | (simp [FS52_6_12, gotV]; done) | (simp [FS52_6_12, gotV]; omega)), fun h => absurd h (by decide)⟩ (Below.refl _ _)
          | m + 25, h => exact absurd h (by omega)
        · intro vals w1 hb1 hf hd
          simp only [fillA, List.take, List.drop, put_none, Act.put, List.setIfInBounds_toArray, List.set_cons_zero, List.set_cons_succ, Nat.reduceAdd]
          clear hd
          have f0 := hf 0 (by decide)
          generalize vals 0 = v0 at *
          subst f0
          have f1 := hf 1 (by decide)
          generalize vals 1 = v1 at *
          subst f1
          have f2 := hf 2 (by decide)
          generalize vals 2 = v2 at *
          subst f2
          have f3 := hf 3 (by decide)
          generalize vals 3 = v3 at *
          subst f3
          have f4 := hf 4 (by decide)
          generalize vals 4 = v4 at *
          subst f4
          have f5 := hf 5 (by decide)
          generalize vals 5 = v5 at *
          subst f5
          have f6 := hf 6 (by decide)
          generalize vals 6 = v6 at *
          subst f6
          have f7 := hf 7 (by decide)
          generalize vals 7 = v7 at *
          subst f7
          have f8 := hf 8 (by decide)
          generalize vals 8 = v8 at *
          subst f8
          have f9 := hf 9 (by decide)
          generalize vals 9 = v9 at *
          subst f9
          have f10 := hf 10 (by decide)
          generalize vals 10 = v10 at *
          subst f10
          have f11 := hf 11 (by decide)
          generalize vals 11 = v11 at *
          subst f11
          have f12 := hf 12 (by decide)
          generalize vals 12 = v12 at *
          subst f12
          have f13 := hf 13 (by decide)
          generalize vals 13 = v13 at *
          subst f13
          have f14 := hf 14 (by decide)
          generalize vals 14 = v14 at *
          subst f14
          have f15 := hf 15 (by decide)
          generalize vals 15 = v15 at *
          subst f15
          have f16 := hf 16 (by decide)
          generalize vals 16 = v16 at *
          subst f16
          have f17 := hf 17 (by decide)
          generalize vals 17 = v17 at *
          subst f17
          have f18 := hf 18 (by decide)
          generalize vals 18 = v18 at *
          subst f18
          have f19 := hf 19 (by decide)
          generalize vals 19 = v19 at *
          subst f19
          have f20 := hf 20 (by decide)
          generalize vals 20 = v20 at *
          subst f20
          have f21 := hf 21 (by decide)
          generalize vals 21 = v21 at *
          subst f21
          have f22 := hf 22 (by decide)
          generalize vals 22 = v22 at *
          subst f22
          have f23 := hf 23 (by decide)
          generalize vals 23 = v23 at *
          subst f23
          have f24 := hf 24 (by decide)
          generalize vals 24 = v24 at *
          subst f24
          clear hf
          have hc1 := cellOf hb1
          have hf1 := frozOf hb1
          have hz1 := sizeOf hb1
          try simp at hz1
          go_wp2_with (fail)
          clear hy0
          go_loopw [6] (fun i wv => ∃ m : Nat, m ≤ k + 1 ∧ i = .int .i64 m ∧ meets (xs.take m) x.2.1 x.2.2.1 x.2.2.2.1 x.2.2.2.2 = false ∧ Below w.heap.size w wv) (fun i _ => k + 1 - (intOf i).toNat)
          case atStart => exact ⟨0, Nat.zero_le _, rfl, rfl, by (repeat' (first | exact Below.refl _ _ | assumption | refine Below.setCell ?_ ?_ _ | refine Below.drew ?_ | refine Below.alloc ?_ ?_ _ | refine Below.trans ?_ (Below.mono (by assumption) ?_) | (simp; done) | (simp; omega) | omega))⟩
          case round =>
            obtain ⟨m, hm, rfl, hme, hbv⟩ := hrel
            clear hc hf hz
            have hc := cellOf hbv
            have hf := frozOf hbv
            have hz := sizeOf hbv
            have HM := hid hme
            clear hme
            by_cases hmk : m < k + 1
            · have hml : m < xs.length := by omega
              have hz0 := HX.out m hml 0 _ rfl
              have hz1 := HX.out m hml 1 _ rfl
              have hz2 := HX.out m hml 2 _ rfl
              have hz3 := HX.out m hml 3 _ rfl
              have hz4 := HX.out m hml 4 _ rfl
              simp only [Nat.add_zero] at hz0
              have hzb := berOk_bd (berAt_ok hml (HL.out m hmk))
              have HS := hid (meets_snoc xs m hml x.2.1 x.2.2.1 x.2.2.2.1 x.2.2.2.2)
              have HT := hid (fun h => meets_hit (xs := xs) (k := k + 1) (c := x.2.1) (l := x.2.2.1) (f := x.2.2.2.1) (t := x.2.2.2.2) hmk hml h)
              generalize xs[m] = z at *
              go_wp2_with (fail)
              refine wp_region_w (n := 9) [] [] (FS52_11 x z bx ox m k xs.length cap w) rfl (by kernel_rfl) (fun _ _ d _ _ h => by cases d <;> exact h) ?_ ?_ ?_ ?_ ?_ ?_
              · intro iq
                match iq with
                | 0 | 1 | 2 | 3 | 4 | 5 | 6 | 7 | 8 => exact Stable.const _
                | n + 9 => exact Stable.const _
              · intro iq hi
                exact absurd hi (by simp)
              · intro iq hi
                exact absurd hi (by simp)
              · intro iq o hi hl ho vals w1 hb1 hf
                exact absurd hl (by simp)
              · intro iq o hi hl ho vals w1 hb1 hf
                match iq, hi with
                | 0, _ =>
                  injection ho with ho
                  subst ho
                  clear hl
                  simp only [fillA, List.take, List.drop, put_none, Act.put, List.setIfInBounds_toArray, List.set_cons_zero, List.set_cons_succ, Nat.reduceAdd]
                  clear hf
                  go_wp2_with (fail)
                  exact RQ.mk rfl ⟨(by first | rfl | (simp [FS52_11]; done) | (simp [FS52_11, *]; done) | (simp [FS52_11, gotV]; done) | (simp [FS52_11, gotV]; omega)), fun h => absurd h (by decide)⟩ (Below.refl _ _)
                | 1, _ =>
                  injection ho with ho
                  subst ho
                  clear hl
                  simp only [fillA, List.take, List.drop, put_none, Act.put, List.setIfInBounds_toArray, List.set_cons_zero, List.set_cons_succ, Nat.reduceAdd]
                  clear hf
                  go_wp2_with (fail)
                  exact RQ.mk rfl ⟨(by first | rfl | (simp [FS52_11]; done) | (simp [FS52_11, *]; done) | (simp [FS52_11, gotV]; done) | (simp [FS52_11, gotV]; omega)), fun h => absurd h (by decide)⟩ (Below.refl _ _)
                | 2, _ =>
                  injection ho with ho
                  subst ho
                  clear hl
                  simp only [fillA, List.take, List.drop, put_none, Act.put, List.setIfInBounds_toArray, List.set_cons_zero, List.set_cons_succ, Nat.reduceAdd]
                  have f0 := hf 0 (by decide) (by kernel_rfl)
                  generalize vals 0 = v0 at *
                  subst f0
                  have f1 := hf 1 (by decide) (by kernel_rfl)
                  generalize vals 1 = v1 at *
                  subst f1
                  clear hf
                  go_wp2_with (fail)
                  exact RQ.mk rfl ⟨(by first | rfl | (simp [FS52_11]; done) | (simp [FS52_11, *]; done) | (simp [FS52_11, gotV]; done) | (simp [FS52_11, gotV]; omega)), fun h => absurd h (by decide)⟩ (Below.refl _ _)
                | 3, _ =>
                  injection ho with ho
                  subst ho
                  clear hl
                  simp only [fillA, List.take, List.drop, put_none, Act.put, List.setIfInBounds_toArray, List.set_cons_zero, List.set_cons_succ, Nat.reduceAdd]
                  have f2 := hf 2 (by decide) (by kernel_rfl)
                  generalize vals 2 = v2 at *
                  subst f2
                  clear hf
                  have hc1 := cellOf hb1
                  have hf1 := frozOf hb1
                  have hz1 := sizeOf hb1
                  try simp at hz1
                  go_wp2_with (fail)
                  exact RQ.mk rfl ⟨(by first | rfl | (simp [FS52_11]; done) | (simp [FS52_11, *]; done) | (simp [FS52_11, gotV]; done) | (simp [FS52_11, gotV]; omega)), fun h => absurd h (by decide)⟩ (Below.refl _ _)
                | 4, _ =>
                  injection ho with ho
                  subst ho
                  clear hl
                  simp only [fillA, List.take, List.drop, put_none, Act.put, List.setIfInBounds_toArray, List.set_cons_zero, List.set_cons_succ, Nat.reduceAdd]
                  clear hf
                  go_wp2_with (fail)
                  exact RQ.mk rfl ⟨(by first | rfl | (simp [FS52_11]; done) | (simp [FS52_11, *]; done) | (simp [FS52_11, gotV]; done) | (simp [FS52_11, gotV]; omega)), fun h => absurd h (by decide)⟩ (Below.refl _ _)
                | 5, _ =>
                  injection ho with ho
                  subst ho
                  clear hl
                  simp only [fillA, List.take, List.drop, put_none, Act.put, List.setIfInBounds_toArray, List.set_cons_zero, List.set_cons_succ, Nat.reduceAdd]
                  clear hf
                  go_wp2_with (fail)
                  exact RQ.mk rfl ⟨(by first | rfl | (simp [FS52_11]; done) | (simp [FS52_11, *]; done) | (simp [FS52_11, gotV]; done) | (simp [FS52_11, gotV]; omega)), fun h => absurd h (by decide)⟩ (Below.refl _ _)
                | 6, _ =>
                  injection ho with ho
                  subst ho
                  clear hl
                  simp only [fillA, List.take, List.drop, put_none, Act.put, List.setIfInBounds_toArray, List.set_cons_zero, List.set_cons_succ, Nat.reduceAdd]
                  have f4 := hf 4 (by decide) (by kernel_rfl)
                  generalize vals 4 = v4 at *
                  subst f4
                  have f5 := hf 5 (by decide) (by kernel_rfl)
                  generalize vals 5 = v5 at *
                  subst f5
                  clear hf
                  go_wp2_with (fail)
                  exact RQ.mk rfl ⟨(by first | rfl | (simp [FS52_11]; done) | (simp [FS52_11, *]; done) | (simp [FS52_11, gotV]; done) | (simp [FS52_11, gotV]; omega)), fun h => absurd h (by decide)⟩ (Below.refl _ _)
                | 7, _ =>
                  injection ho with ho
                  subst ho
                  clear hl
                  simp only [fillA, List.take, List.drop, put_none, Act.put, List.setIfInBounds_toArray, List.set_cons_zero, List.set_cons_succ, Nat.reduceAdd]
                  have f6 := hf 6 (by decide) (by kernel_rfl)
                  generalize vals 6 = v6 at *
                  subst f6
                  clear hf
                  have hc1 := cellOf hb1
                  have hf1 := frozOf hb1
                  have hz1 := sizeOf hb1
                  try simp at hz1
                  go_wp2_with (fail)
                  exact RQ.mk rfl ⟨(by first | rfl | (simp [FS52_11]; done) | (simp [FS52_11, *]; done) | (simp [FS52_11, gotV]; done) | (simp [FS52_11, gotV]; omega)), fun h => absurd h (by decide)⟩ (Below.refl _ _)
                | 8, _ =>
                  injection ho with ho
                  subst ho
                  clear hl
                  simp only [fillA, List.take, List.drop, put_none, Act.put, List.setIfInBounds_toArray, List.set_cons_zero, List.set_cons_succ, Nat.reduceAdd]
                  have f3 := hf 3 (by decide) (by kernel_rfl)
                  generalize vals 3 = v3 at *
                  subst f3
                  have f7 := hf 7 (by decide) (by kernel_rfl)
                  generalize vals 7 = v7 at *
                  subst f7
                  clear hf
                  have hc1 := cellOf hb1
                  have hf1 := frozOf hb1
                  have hz1 := sizeOf hb1
                  try simp at hz1
                  go_wp2_with (first | (go_at_call 80; refine (c_spec_l16Clash _ _ _ _ _ _ _ _ _ _ _ (by omega) (by omega) (by omega) (by omega) (by omega) (by omega) (by omega) (by omega)).mono ?_; rintro e w' ⟨rfl, hb⟩; have hc := cellOf hb; have hf := frozOf hb; have hz := sizeOf hb; try simp at hz))
                  exact RQ.mk rfl ⟨(by first | rfl | (simp [FS52_11]; done) | (simp [FS52_11, *]; done) | (simp [FS52_11, gotV]; done) | (simp [FS52_11, gotV]; omega)), fun h => absurd h (by decide)⟩ (by (repeat' (first | exact Below.refl _ _ | assumption | refine Below.setCell ?_ ?_ _ | refine Below.drew ?_ | refine Below.alloc ?_ ?_ _ | refine Below.trans ?_ (Below.mono (by assumption) ?_) | (simp; done) | (simp; omega) | omega)))
              · intro vals w1 hb1 hf hd
                simp only [fillA, List.take, List.drop, put_none, Act.put, List.setIfInBounds_toArray, List.set_cons_zero, List.set_cons_succ, Nat.reduceAdd]
                clear hd
                have f0 := hf 0 (by decide)
                generalize vals 0 = v0 at *
                subst f0
                have f1 := hf 1 (by decide)
                generalize vals 1 = v1 at *
                subst f1
                have f2 := hf 2 (by decide)
                generalize vals 2 = v2 at *
                subst f2
                have f3 := hf 3 (by decide)
                generalize vals 3 = v3 at *
                subst f3
                have f4 := hf 4 (by decide)
                generalize vals 4 = v4 at *
                subst f4
                have f5 := hf 5 (by decide)
                generalize vals 5 = v5 at *
                subst f5
                have f6 := hf 6 (by decide)
                generalize vals 6 = v6 at *
                subst f6
                have f7 := hf 7 (by decide)
                generalize vals 7 = v7 at *
                subst f7
                have f8 := hf 8 (by decide)
                generalize vals 8 = v8 at *
                subst f8
                clear hf
                have hc1 := cellOf hb1
                have hf1 := frozOf hb1
                have hz1 := sizeOf hb1
                try simp at hz1
                by_cases hcl : crash x.2.1 x.2.2.1 x.2.2.2.1 x.2.2.2.2 z = true
                · have HC := hid (HT.out hcl)
                  simp only [crash] at hcl
                  simp only [hcl]
                  go_wp2_with (fail)
                  go_ret
                  exact ⟨ret_bool (by rw [HB.out (by rw [HV.out, HC.out] <;> simp)]), by (repeat' (first | exact Below.refl _ _ | assumption | refine Below.setCell ?_ ?_ _ | refine Below.drew ?_ | refine Below.alloc ?_ ?_ _ | refine Below.trans ?_ (Below.mono (by assumption) ?_) | (simp; done) | (simp; omega) | omega))⟩
                · have hcl' : crash x.2.1 x.2.2.1 x.2.2.2.1 x.2.2.2.2 z = false := by simpa using hcl
                  have HC := hid (HS.out.trans (by rw [HM.out, hcl']))
                  clear hcl
                  simp only [crash] at hcl'
                  simp only [hcl']
                  go_wp2_with (fail)
                  go_roundw
                  case rel => exact ⟨m + 1, by omega, by go_num, HC.out, by (repeat' (first | exact Below.refl _ _ | assumption | refine Below.setCell ?_ ?_ _ | refine Below.drew ?_ | refine Below.alloc ?_ ?_ _ | refine Below.trans ?_ (Below.mono (by assumption) ?_) | (simp; done) | (simp; omega) | omega))⟩
                  case measure => simp [intOf]; omega
            · obtain rfl : m = k + 1 := by omega
              go_wp2_with (fail)
              go_roundw
              case rel =>
                refine ⟨k + 2, by omega, by omega, by go_num, fun j hj => ?_, by (repeat' (first | exact Below.refl _ _ | assumption | refine Below.setCell ?_ ?_ _ | refine Below.drew ?_ | refine Below.alloc ?_ ?_ _ | refine Below.trans ?_ (Below.mono (by assumption) ?_) | (simp; done) | (simp; omega) | omega))⟩
                rcases Nat.lt_or_ge j (k + 1) with h | h
                · exact HL.out j h
                · obtain rfl : j = k + 1 := by omega
                  rw [HV.out, HG.out, H2.out, HM.out]; rfl
              case measure => simp [intOf]; omega
    · by_cases hle : k < xs.length
      · have HD := hid (berV_long (q := q) (xs := xs) (by omega))
        clear hl
        go_wp2_with (fail)
        go_ret
        exact ⟨ret_bool (by rw [HD.out]; simp; try omega), by (repeat' (first | exact Below.refl _ _ | assumption | refine Below.setCell ?_ ?_ _ | refine Below.drew ?_ | refine Below.alloc ?_ ?_ _ | refine Below.trans ?_ (Below.mono (by assumption) ?_) | (simp; done) | (simp; omega) | omega))⟩
      · obtain rfl : k = xs.length := by omega
        have HD := hid (berV_all hq hl)
        go_wp2_with (fail)
        all_goals go_ret
        all_goals exact ⟨ret_bool (by rw [HD.out]; simp; try omega), by (repeat' (first | exact Below.refl _ _ | assumption | refine Below.setCell ?_ ?_ _ | refine Below.drew ?_ | refine Below.alloc ?_ ?_ _ | refine Below.trans ?_ (Below.mono (by assumption) ?_) | (simp; done) | (simp; omega) | omega))⟩

end Go.Proofs.Ytfipmalomhflgaa
