import Derived.Test.YteciijnpfapmhaaQO03
namespace Go.Proofs.Yteciijnpfapmhaa
set_option linter.unusedSimpArgs false
set_option linter.unusedVariables false
open Go.RowKit

def FS50_6 (d : Int) (wr : World) (x y : Int × Int) (bx ox k n0 cap : Nat) (w W0 : World) (iq : Nat) (v : Value) (w1 : World) : Prop := match iq with
  | 0 => v = .pointer (some ⟨w.heap.size, 1, none⟩)
  | 1 => v = .slice (some ⟨bx, ox, none⟩) n0 cap
  | 2 => v = .int .i64 (0)
  | 3 => v = .pointer (some ⟨bx, ox + 0 * 2, none⟩)
  | 4 => v = .agg #[.int .i64 (x.1), .int .i64 (x.2)]
  | 5 => v = .bool (true)
  | 6 => v = .bool (false)
  | 7 => v = .bool (false)
  | 8 => v = .int .i64 (0)
  | 9 => v = .bool (false)
  | 10 => v = .bool (false)
  | 11 => v = undef
  | 12 => v = undef
  | 13 => v = undef
  | 14 => v = undef
  | 15 => v = undef
  | 16 => v = undef
  | 17 => v = undef
  | 18 => v = undef
  | 19 => v = undef
  | 20 => v = undef
  | 21 => v = undef
  | 22 => v = undef
  | 23 => v = undef
  | 24 => v = undef
  | 25 => v = .bool (false)
  | 26 => v = .bool (false)
  | _ => True

def FS50_6_7 (d : Int) (wr : World) (x y : Int × Int) (bx ox k n0 cap : Nat) (w W0 : World) (iq : Nat) (v : Value) (w1 : World) : Prop := match iq with
  | 0 => v = .pointer (some ⟨w.heap.size, 1, none⟩)
  | 1 => v = .slice (some ⟨bx, ox, none⟩) n0 cap
  | 2 => v = .int .i64 (0)
  | 3 => v = .pointer (some ⟨bx, ox + 0 * 2, none⟩)
  | 4 => v = .agg #[.int .i64 (x.1), .int .i64 (x.2)]
  | 5 => v = .bool (false)
  | 6 => v = .bool (true)
  | 7 => v = .bool (true)
  | 8 => v = undef
  | 9 => v = undef
  | 10 => v = undef
  | 11 => v = undef
  | 12 => v = undef
  | 13 => v = undef
  | 14 => v = undef
  | 15 => v = undef
  | 16 => v = undef
  | 17 => v = undef
  | 18 => v = undef
  | 19 => v = undef
  | 20 => v = undef
  | 21 => v = undef
  | 22 => v = undef
  | 23 => v = undef
  | 24 => v = undef
  | 25 => v = undef
  | 26 => v = .bool (true)
  | _ => True

def FS50_6_8 (d : Int) (wr : World) (x y : Int × Int) (bx ox k n0 cap : Nat) (w W0 : World) (iq : Nat) (v : Value) (w1 : World) : Prop := match iq with
  | 0 => v = .pointer (some ⟨w.heap.size, 1, none⟩)
  | 1 => v = .slice (some ⟨bx, ox, none⟩) n0 cap
  | 2 => v = .int .i64 (k + 1)
  | 3 => v = .pointer (some ⟨bx, ox + (k + 1) * 2, none⟩)
  | 4 => v = .agg #[.int .i64 (x.1), .int .i64 (x.2)]
  | 5 => v = .bool (false)
  | 6 => v = .bool (true)
  | 7 => v = .bool (true)
  | 8 => v = undef
  | 9 => v = undef
  | 10 => v = undef
  | 11 => v = undef
  | 12 => v = undef
  | 13 => v = undef
  | 14 => v = undef
  | 15 => v = undef
  | 16 => v = undef
  | 17 => v = undef
  | 18 => v = undef
  | 19 => v = undef
  | 20 => v = undef
  | 21 => v = undef
  | 22 => v = undef
  | 23 => v = undef
  | 24 => v = undef
  | 25 => v = undef
  | 26 => v = .bool (true)
  | _ => True

def FS50_6_9 (d : Int) (wr : World) (x y : Int × Int) (bx ox k n0 cap : Nat) (w W0 : World) (iq : Nat) (v : Value) (w1 : World) : Prop := match iq with
  | 0 => v = .pointer (some ⟨w.heap.size, 1, none⟩)
  | 1 => v = .slice (some ⟨bx, ox, none⟩) n0 cap
  | 2 => v = .int .i64 (k + 1)
  | 3 => v = .pointer (some ⟨bx, ox + (k + 1) * 2, none⟩)
  | 4 => v = .agg #[.int .i64 (x.1), .int .i64 (x.2)]
  | 5 => v = .bool (true)
  | 6 => v = .bool (false)
  | 7 => v = .bool (false)
  | 8 => v = .int .i64 (k + 1)
  | 9 => v = .bool (true)
  | 10 => v = .bool (true)
  | 11 => v = .pointer (some ⟨w.heap.size, 1, none⟩)
  | 12 => v = .slice (some ⟨bx, ox, none⟩) n0 cap
  | 13 => v = .int .i64 (k + 1)
  | 14 => v = .int .i64 (k)
  | 15 => v = .pointer (some ⟨bx, ox + k * 2, none⟩)
  | 16 => v = .pointer (some ⟨bx, ox + k * 2 + 1, none⟩)
  | 17 => v = .int .i64 (y.2)
  | 18 => v = .pointer (some ⟨w.heap.size, 1, none⟩)
  | 19 => v = .slice (some ⟨bx, ox, none⟩) n0 cap
  | 20 => v = .int .i64 (k + 1)
  | 21 => v = .pointer (some ⟨bx, ox + (k + 1) * 2, none⟩)
  | 22 => v = .pointer (some ⟨bx, ox + (k + 1) * 2, none⟩)
  | 23 => v = .int .i64 (x.1)
  | 24 => v = .bool (false)
  | 25 => v = .bool (false)
  | 26 => v = .bool (false)
  | _ => True

def FS50_6_10 (d : Int) (wr : World) (x y : Int × Int) (bx ox k n0 cap : Nat) (w W0 : World) (iq : Nat) (v : Value) (w1 : World) : Prop := match iq with
  | 0 => v = .pointer (some ⟨w.heap.size, 1, none⟩)
  | 1 => v = .slice (some ⟨bx, ox, none⟩) n0 cap
  | 2 => v = .int .i64 (k + 1)
  | 3 => v = .pointer (some ⟨bx, ox + (k + 1) * 2, none⟩)
  | 4 => v = .agg #[.int .i64 (x.1), .int .i64 (x.2)]
  | 5 => v = .bool (true)
  | 6 => v = .bool (false)
  | 7 => v = .bool (false)
  | 8 => v = .int .i64 (k + 1)
  | 9 => v = .bool (true)
  | 10 => v = .bool (true)
  | 11 => v = .pointer (some ⟨w.heap.size, 1, none⟩)
  | 12 => v = .slice (some ⟨bx, ox, none⟩) n0 cap
  | 13 => v = .int .i64 (k + 1)
  | 14 => v = .int .i64 (k)
  | 15 => v = .pointer (some ⟨bx, ox + k * 2, none⟩)
  | 16 => v = .pointer (some ⟨bx, ox + k * 2 + 1, none⟩)
  | 17 => v = .int .i64 (y.2)
  | 18 => v = .pointer (some ⟨w.heap.size, 1, none⟩)
  | 19 => v = .slice (some ⟨bx, ox, none⟩) n0 cap
  | 20 => v = .int .i64 (k + 1)
  | 21 => v = .pointer (some ⟨bx, ox + (k + 1) * 2, none⟩)
  | 22 => v = .pointer (some ⟨bx, ox + (k + 1) * 2, none⟩)
  | 23 => v = .int .i64 (x.1)
  | 24 => v = .bool (true)
  | 25 => v = .bool (true)
  | 26 => v = .bool (true)
  | _ => True

set_option maxRecDepth 100000 in
set_option maxHeartbeats 4000000 in
theorem c_spec_l15Good (d : Int) (A : Option Addr) (xs : List (Int × Int)) (cap : Nat) (w : World) (h0 : Rds cIv 2 w A xs) (hn : xs.length ≤ 9223372036854775807) :
    Calls Try.prog 50 #[.agg #[.int .i64 d, .slice A xs.length cap]] w fun e w' => e = .returned (.bool (brB d xs)) ∧ Below w.heap.size w w' := by
  by_cases hs0 : inB d 1 30 = true
  rotate_left
  · have hn0 : inB d 1 30 = false := Bool.eq_false_iff.2 hs0
    have HV := hid (show brB d xs = false by simp [brB, hn0])
    clear hs0
    go_enter Try.func50, Try.ntmps50
    go_wp2_with (first | (go_at_call 81; refine (c_spec_l1In _ _ _ _ ).mono ?_; rintro e w' ⟨rfl, hb⟩; have hc := cellOf hb; have hf := frozOf hb; have hz := sizeOf hb; try simp at hz))
    all_goals go_ret
    all_goals exact ⟨by first | (rw [HV.out]; done) | (rw [HV.out]; rfl), by (repeat' (first | exact Below.refl _ _ | assumption | refine Below.setCell ?_ ?_ _ | refine Below.drew ?_ | refine Below.alloc ?_ ?_ _ | refine Below.trans ?_ (Below.mono (by assumption) ?_) | (simp; done) | (simp; omega) | omega))⟩
  by_cases hs1 : xs.length ≤ 6
  rotate_left
  · have HV := hid (show brB d xs = false by simp [brB, vB_long (good := ivOk) (lt := ivLt) (n := 6) (xs := xs) (by omega)])
    go_enter Try.func50, Try.ntmps50
    go_wp2_with (first | (go_at_call 81; refine (c_spec_l1In _ _ _ _ ).mono ?_; rintro e w' ⟨rfl, hb⟩; have hc := cellOf hb; have hf := frozOf hb; have hz := sizeOf hb; try simp at hz))
    all_goals go_ret
    all_goals exact ⟨by first | (rw [HV.out]; done) | (rw [HV.out]; rfl), by (repeat' (first | exact Below.refl _ _ | assumption | refine Below.setCell ?_ ?_ _ | refine Below.drew ?_ | refine Below.alloc ?_ ?_ _ | refine Below.trans ?_ (Below.mono (by assumption) ?_) | (simp; done) | (simp; omega) | omega))⟩
  go_enter Try.func50, Try.ntmps50
  go_wp2_with (first | (go_at_call 81; refine (c_spec_l1In _ _ _ _ ).mono ?_; rintro e w' ⟨rfl, hb⟩; have hc := cellOf hb; have hf := frozOf hb; have hz := sizeOf hb; try simp at hz))
  go_loopw [3] (fun i wr => ∃ k : Nat, k ≤ xs.length ∧ i = .int .i64 k ∧ (∀ j, j < k → vAt ivOk ivLt xs j = true) ∧ wr.cell? ⟨w.heap.size, 0, none⟩ = some (.int .i64 d) ∧ wr.cell? ⟨w.heap.size, 1, none⟩ = some (.slice A xs.length cap) ∧ w.heap.size + 1 ≤ wr.heap.size ∧ Below w.heap.size w wr) (fun i _ => xs.length - (intOf i).toNat)
  case atStart =>
    refine ⟨0, Nat.zero_le _, rfl, fun j hj => absurd hj (Nat.not_lt_zero j), ?_, ?_, ?_, by (repeat' (first | exact Below.refl _ _ | assumption | refine Below.setCell ?_ ?_ _ | refine Below.drew ?_ | refine Below.alloc ?_ ?_ _ | refine Below.trans ?_ (Below.mono (by assumption) ?_) | (simp; done) | (simp; omega) | omega))⟩
    all_goals first | (simp [go_sem, ↓IntWalk.iteOmega, *]; done) | (simp at *; omega)
  case round =>
    obtain ⟨k, hk, rfl, hl, hp0, hp1, hzz, hbr⟩ := hrel
    have hc := cellOf hbr
    have hf := frozOf hbr
    have hz := sizeOf hbr
    by_cases hlt : k < xs.length
    · obtain ⟨bx, ox, rfl, hbx, hcx⟩ := Rds.all h0 (by omega)
      have hp0' : far wr w.heap.size 0 = _ := hp0
      have hp1' : far wr w.heap.size 1 = _ := hp1
      have HB := hid (vB_bad (good := ivOk) (lt := ivLt) (n := 6) hlt)
      have HL := hid hl
      clear hl h0
      cases k with
      | zero =>
        have HV := hid (vAt_zero (good := ivOk) (lt := ivLt) hlt)
        have hx0 := hcx 0 hlt 0 _ rfl
        have hx1 := hcx 0 hlt 1 _ rfl
        simp only [Nat.zero_mul, Nat.add_zero] at hx0 hx1
        clear hcx
        generalize xs[0] = x at *
        by_cases hg : ivOk x = true
        · have HG := hid hg
          simp only [ivOk] at hg
          go_wp2_with (fail)
          refine wp_region_w (n := 27) [] [] (FS50_6 d wr x x bx ox 0 xs.length cap w) rfl (by kernel_rfl) (fun _ _ d _ _ h => by cases d <;> exact h) ?_ ?_ ?_ ?_ ?_ ?_
          · intro iq
            match iq with
            | 0 | 1 | 2 | 3 | 4 | 5 | 6 | 7 | 8 | 9 | 10 | 11 | 12 | 13 | 14 | 15 | 16 | 17 | 18 | 19 | 20 | 21 | 22 | 23 | 24 | 25 | 26 => exact Stable.const _
            | n + 27 => exact Stable.const _
          · intro iq hi
            exact absurd hi (by simp)
          · intro iq hi
            exact absurd hi (by simp)
          · intro iq o hi hl ho vals w1 hb1 hf
            exact absurd hl (by simp)
          · intro iq o hi hl ho vals w1 hb1 hf
            match iq, hi with
            | 0, _ =>
              injection ho with ho
              subst ho
              clear hl
              simp only [fillA, List.take, List.drop, put_none, Act.put, List.setIfInBounds_toArray, List.set_cons_zero, List.set_cons_succ, Nat.reduceAdd]
              clear hf
              go_wp2_with (fail)
              exact RQ.mk rfl ⟨(by first | rfl | (simp [FS50_6]; done) | (simp [FS50_6, *]; done) | (simp [FS50_6, gotV]; done) | (simp [FS50_6, gotV]; omega)), fun h => absurd h (by decide)⟩ (Below.refl _ _)
            | 1, _ =>
              injection ho with ho
              subst ho
              clear hl
              simp only [fillA, List.take, List.drop, put_none, Act.put, List.setIfInBounds_toArray, List.set_cons_zero, List.set_cons_succ, Nat.reduceAdd]
              have f0 := hf 0 (by decide) (by kernel_rfl)
              generalize vals 0 = v0 at *
              subst f0
              clear hf
              have hc1 := cellOf hb1
              have hf1 := frozOf hb1
              have hz1 := sizeOf hb1
              try simp at hz1
              go_wp2_with (fail)
              exact RQ.mk rfl ⟨(by first | rfl | (simp [FS50_6]; done) | (simp [FS50_6, *]; done) | (simp [FS50_6, gotV]; done) | (simp [FS50_6, gotV]; omega)), fun h => absurd h (by decide)⟩ (Below.refl _ _)
            | 2, _ =>
              injection ho with ho
              subst ho
              clear hl
              simp only [fillA, List.take, List.drop, put_none, Act.put, List.setIfInBounds_toArray, List.set_cons_zero, List.set_cons_succ, Nat.reduceAdd]
              clear hf
              go_wp2_with (fail)
              exact RQ.mk rfl ⟨(by first | rfl | (simp [FS50_6]; done) | (simp [FS50_6, *]; done) | (simp [FS50_6, gotV]; done) | (simp [FS50_6, gotV]; omega)), fun h => absurd h (by decide)⟩ (Below.refl _ _)
            | 3, _ =>
              injection ho with ho
              subst ho
              clear hl
              simp only [fillA, List.take, List.drop, put_none, Act.put, List.setIfInBounds_toArray, List.set_cons_zero, List.set_cons_succ, Nat.reduceAdd]
              have f1 := hf 1 (by decide) (by kernel_rfl)
              generalize vals 1 = v1 at *
              subst f1
              have f2 := hf 2 (by decide) (by kernel_rfl)
              generalize vals 2 = v2 at *
              subst f2
              clear hf
              go_wp2_with (fail)
              exact RQ.mk rfl ⟨(by first | rfl | (simp [FS50_6]; done) | (simp [FS50_6, *]; done) | (simp [FS50_6, gotV]; done) | (simp [FS50_6, gotV]; omega)), fun h => absurd h (by decide)⟩ (Below.refl _ _)
            | 4, _ =>
              injection ho with ho
              subst ho
              clear hl
              simp only [fillA, List.take, List.drop, put_none, Act.put, List.setIfInBounds_toArray, List.set_cons_zero, List.set_cons_succ, Nat.reduceAdd]
              have f3 := hf 3 (by decide) (by kernel_rfl)
              generalize vals 3 = v3 at *
              subst f3
              clear hf
              have hc1 := cellOf hb1
              have hf1 := frozOf hb1
              have hz1 := sizeOf hb1
              try simp at hz1
              go_wp2_with (fail)
              exact RQ.mk rfl ⟨(by first | rfl | (simp [FS50_6]; done) | (simp [FS50_6, *]; done) | (simp [FS50_6, gotV]; done) | (simp [FS50_6, gotV]; omega)), fun h => absurd h (by decide)⟩ (Below.refl _ _)
            | 5, _ =>
              injection ho with ho
              subst ho
              clear hl
              simp only [fillA, List.take, List.drop, put_none, Act.put, List.setIfInBounds_toArray, List.set_cons_zero, List.set_cons_succ, Nat.reduceAdd]
              have f4 := hf 4 (by decide) (by kernel_rfl)
              generalize vals 4 = v4 at *
              subst f4
              clear hf
              have hc1 := cellOf hb1
              have hf1 := frozOf hb1
              have hz1 := sizeOf hb1
              try simp at hz1
              go_wp2_with (first | (go_at_call 82; refine (c_spec_l13Good _ _ _ ).mono ?_; rintro e w' ⟨rfl, hb⟩; have hc := cellOf hb; have hf := frozOf hb; have hz := sizeOf hb; try simp at hz))
              exact RQ.mk rfl ⟨(by first | rfl | (simp [FS50_6]; done) | (simp [FS50_6, *]; done) | (simp [FS50_6, gotV]; done) | (simp [FS50_6, gotV]; omega)), fun h => absurd h (by decide)⟩ (by (repeat' (first | exact Below.refl _ _ | assumption | refine Below.setCell ?_ ?_ _ | refine Below.drew ?_ | refine Below.alloc ?_ ?_ _ | refine Below.trans ?_ (Below.mono (by assumption) ?_) | (simp; done) | (simp; omega) | omega)))
            | 6, _ =>
              injection ho with ho
              subst ho
              clear hl
              simp only [fillA, List.take, List.drop, put_none, Act.put, List.setIfInBounds_toArray, List.set_cons_zero, List.set_cons_succ, Nat.reduceAdd]
              have f5 := hf 5 (by decide) (by kernel_rfl)
              generalize vals 5 = v5 at *
              subst f5
              clear hf
              go_wp2_with (fail)
              exact RQ.mk rfl ⟨(by first | rfl | (simp [FS50_6]; done) | (simp [FS50_6, *]; done) | (simp [FS50_6, gotV]; done) | (simp [FS50_6, gotV]; omega)), fun h => absurd h (by decide)⟩ (Below.refl _ _)
            | 7, _ =>
              injection ho with ho
              subst ho
              clear hl
              simp only [fillA, List.take, List.drop, put_none, Act.put, List.setIfInBounds_toArray, List.set_cons_zero, List.set_cons_succ, Nat.reduceAdd]
              have f6 := hf 6 (by decide) (by kernel_rfl)
              generalize vals 6 = v6 at *
              subst f6
              have f5 := hf 5 (by decide) (by kernel_rfl)
              generalize vals 5 = v5 at *
              subst f5
              clear hf
              go_wp2_with (fail)
              exact RQ.mk rfl ⟨(by first | rfl | (simp [FS50_6]; done) | (simp [FS50_6, *]; done) | (simp [FS50_6, gotV]; done) | (simp [FS50_6, gotV]; omega)), fun h => absurd h (by decide)⟩ (Below.refl _ _)
            | 8, _ =>
              injection ho with ho
              subst ho
              clear hl
              simp only [fillA, List.take, List.drop, put_none, Act.put, List.setIfInBounds_toArray, List.set_cons_zero, List.set_cons_succ, Nat.reduceAdd]
              have f7 := hf 7 (by decide) (by kernel_rfl)
              generalize vals 7 = v7 at *
              subst f7
              clear hf
              go_wp2_with (fail)
              exact RQ.mk rfl ⟨(by first | rfl | (simp [FS50_6]; done) | (simp [FS50_6, *]; done) | (simp [FS50_6, gotV]; done) | (simp [FS50_6, gotV]; omega)), fun h => absurd h (by decide)⟩ (Below.refl _ _)
            | 9, _ =>
              injection ho with ho
              subst ho
              clear hl
              simp only [fillA, List.take, List.drop, put_none, Act.put, List.setIfInBounds_toArray, List.set_cons_zero, List.set_cons_succ, Nat.reduceAdd]
              have f8 := hf 8 (by decide) (by kernel_rfl)
              generalize vals 8 = v8 at *
              subst f8
              have f7 := hf 7 (by decide) (by kernel_rfl)
              generalize vals 7 = v7 at *
              subst f7
              clear hf
              go_wp2_with (fail)
              exact RQ.mk rfl ⟨(by first | rfl | (simp [FS50_6]; done) | (simp [FS50_6, *]; done) | (simp [FS50_6, gotV]; done) | (simp [FS50_6, gotV]; omega)), fun h => absurd h (by decide)⟩ (Below.refl _ _)
            | 10, _ =>
              injection ho with ho
              subst ho
              clear hl
              simp only [fillA, List.take, List.drop, put_none, Act.put, List.setIfInBounds_toArray, List.set_cons_zero, List.set_cons_succ, Nat.reduceAdd]
              have f9 := hf 9 (by decide) (by kernel_rfl)
              generalize vals 9 = v9 at *
              subst f9
              have f7 := hf 7 (by decide) (by kernel_rfl)
              generalize vals 7 = v7 at *
              subst f7
              clear hf
              go_wp2_with (fail)
              exact RQ.mk rfl ⟨(by first | rfl | (simp [FS50_6]; done) | (simp [FS50_6, *]; done) | (simp [FS50_6, gotV]; done) | (simp [FS50_6, gotV]; omega)), fun h => absurd h (by decide)⟩ (Below.refl _ _)
            | 11, _ =>
              injection ho with ho
              subst ho
              clear hl
              simp only [fillA, List.take, List.drop, put_none, Act.put, List.setIfInBounds_toArray, List.set_cons_zero, List.set_cons_succ, Nat.reduceAdd]
              have f10 := hf 10 (by decide) (by kernel_rfl)
              generalize vals 10 = v10 at *
              subst f10
              clear hf
              go_wp2_with (fail)
              exact RQ.mk rfl ⟨(by first | rfl | (simp [FS50_6]; done) | (simp [FS50_6, *]; done) | (simp [FS50_6, gotV]; done) | (simp [FS50_6, gotV]; omega)), fun h => absurd h (by decide)⟩ (Below.refl _ _)
            | 12, _ =>
              injection ho with ho
              subst ho
              clear hl
              simp only [fillA, List.take, List.drop, put_none, Act.put, List.setIfInBounds_toArray, List.set_cons_zero, List.set_cons_succ, Nat.reduceAdd]
              have f11 := hf 11 (by decide) (by kernel_rfl)
              generalize vals 11 = v11 at *
              subst f11
              have f10 := hf 10 (by decide) (by kernel_rfl)
              generalize vals 10 = v10 at *
              subst f10
              clear hf
              go_wp2_with (fail)
              exact RQ.mk rfl ⟨(by first | rfl | (simp [FS50_6]; done) | (simp [FS50_6, *]; done) | (simp [FS50_6, gotV]; done) | (simp [FS50_6, gotV]; omega)), fun h => absurd h (by decide)⟩ (Below.refl _ _)
            | 13, _ =>
              injection ho with ho
              subst ho
              clear hl
              simp only [fillA, List.take, List.drop, put_none, Act.put, List.setIfInBounds_toArray, List.set_cons_zero, List.set_cons_succ, Nat.reduceAdd]
              have f10 := hf 10 (by decide) (by kernel_rfl)
              generalize vals 10 = v10 at *
              subst f10
              clear hf
              go_wp2_with (fail)
              exact RQ.mk rfl ⟨(by first | rfl | (simp [FS50_6]; done) | (simp [FS50_6, *]; done) | (simp [FS50_6, gotV]; done) | (simp [FS50_6, gotV]; omega)), fun h => absurd h (by decide)⟩ (Below.refl _ _)
            | 14, _ =>
              injection ho with ho
              subst ho
              clear hl
              simp only [fillA, List.take, List.drop, put_none, Act.put, List.setIfInBounds_toArray, List.set_cons_zero, List.set_cons_succ, Nat.reduceAdd]
              have f13 := hf 13 (by decide) (by kernel_rfl)
              generalize vals 13 = v13 at *
              subst f13
              have f10 := hf 10 (by decide) (by kernel_rfl)
              generalize vals 10 = v10 at *
              subst f10
              clear hf
              go_wp2_with (fail)
              exact RQ.mk rfl ⟨(by first | rfl | (simp [FS50_6]; done) | (simp [FS50_6, *]; done) | (simp [FS50_6, gotV]; done) | (simp [FS50_6, gotV]; omega)), fun h => absurd h (by decide)⟩ (Below.refl _ _)
            | 15, _ =>
              injection ho with ho
              subst ho
              clear hl
              simp only [fillA, List.take, List.drop, put_none, Act.put, List.setIfInBounds_toArray, List.set_cons_zero, List.set_cons_succ, Nat.reduceAdd]
              have f12 := hf 12 (by decide) (by kernel_rfl)
              generalize vals 12 = v12 at *
              subst f12
              have f14 := hf 14 (by decide) (by kernel_rfl)
              generalize vals 14 = v14 at *
              subst f14
              have f10 := hf 10 (by decide) (by kernel_rfl)
              generalize vals 10 = v10 at *
              subst f10
              clear hf
              go_wp2_with (fail)
              exact RQ.mk rfl ⟨(by first | rfl | (simp [FS50_6]; done) | (simp [FS50_6, *]; done) | (simp [FS50_6, gotV]; done) | (simp [FS50_6, gotV]; omega)), fun h => absurd h (by decide)⟩ (Below.refl _ _)
            | 16, _ =>
              injection ho with ho
              subst ho
              clear hl
              simp only [fillA, List.take, List.drop, put_none, Act.put, List.setIfInBounds_toArray, List.set_cons_zero, List.set_cons_succ, Nat.reduceAdd]
              have f15 := hf 15 (by decide) (by kernel_rfl)
              generalize vals 15 = v15 at *
              subst f15
              have f10 := hf 10 (by decide) (by kernel_rfl)
              generalize vals 10 = v10 at *
              subst f10
              clear hf
              go_wp2_with (fail)
              exact RQ.mk rfl ⟨(by first | rfl | (simp [FS50_6]; done) | (simp [FS50_6, *]; done) | (simp [FS50_6, gotV]; done) | (simp [FS50_6, gotV]; omega)), fun h => absurd h (by decide)⟩ (Below.refl _ _)
            | 17, _ =>
              injection ho with ho
              subst ho
              clear hl
              simp only [fillA, List.take, List.drop, put_none, Act.put, List.setIfInBounds_toArray, List.set_cons_zero, List.set_cons_succ, Nat.reduceAdd]
              have f16 := hf 16 (by decide) (by kernel_rfl)
              generalize vals 16 = v16 at *
              subst f16
              have f10 := hf 10 (by decide) (by kernel_rfl)
              generalize vals 10 = v10 at *
              subst f10
              clear hf
              go_wp2_with (fail)
              exact RQ.mk rfl ⟨(by first | rfl | (simp [FS50_6]; done) | (simp [FS50_6, *]; done) | (simp [FS50_6, gotV]; done) | (simp [FS50_6, gotV]; omega)), fun h => absurd h (by decide)⟩ (Below.refl _ _)
            | 18, _ =>
              injection ho with ho
              subst ho
              clear hl
              simp only [fillA, List.take, List.drop, put_none, Act.put, List.setIfInBounds_toArray, List.set_cons_zero, List.set_cons_succ, Nat.reduceAdd]
              have f10 := hf 10 (by decide) (by kernel_rfl)
              generalize vals 10 = v10 at *
              subst f10
              clear hf
              go_wp2_with (fail)
              exact RQ.mk rfl ⟨(by first | rfl | (simp [FS50_6]; done) | (simp [FS50_6, *]; done) | (simp [FS50_6, gotV]; done) | (simp [FS50_6, gotV]; omega)), fun h => absurd h (by decide)⟩ (Below.refl _ _)
            | 19, _ =>
              injection ho with ho
              subst ho
              clear hl
              simp only [fillA, List.take, List.drop, put_none, Act.put, List.setIfInBounds_toArray, List.set_cons_zero, List.set_cons_succ, Nat.reduceAdd]
              have f18 := hf 18 (by decide) (by kernel_rfl)
              generalize vals 18 = v18 at *
              subst f18
              have f10 := hf 10 (by decide) (by kernel_rfl)
              generalize vals 10 = v10 at *
              subst f10
              clear hf
              go_wp2_with (fail)
              exact RQ.mk rfl ⟨(by first | rfl | (simp [FS50_6]; done) | (simp [FS50_6, *]; done) | (simp [FS50_6, gotV]; done) | (simp [FS50_6, gotV]; omega)), fun h => absurd h (by decide)⟩ (Below.refl _ _)
            | 20, _ =>
              injection ho with ho
              subst ho
              clear hl
              simp only [fillA, List.take, List.drop, put_none, Act.put, List.setIfInBounds_toArray, List.set_cons_zero, List.set_cons_succ, Nat.reduceAdd]
              have f10 := hf 10 (by decide) (by kernel_rfl)
              generalize vals 10 = v10 at *
              subst f10
              clear hf
              go_wp2_with (fail)
              exact RQ.mk rfl ⟨(by first | rfl | (simp [FS50_6]; done) | (simp [FS50_6, *]; done) | (simp [FS50_6, gotV]; done) | (simp [FS50_6, gotV]; omega)), fun h => absurd h (by decide)⟩ (Below.refl _ _)
            | 21, _ =>
              injection ho with ho
              subst ho
              clear hl
              simp only [fillA, List.take, List.drop, put_none, Act.put, List.setIfInBounds_toArray, List.set_cons_zero, List.set_cons_succ, Nat.reduceAdd]
              have f19 := hf 19 (by decide) (by kernel_rfl)
              generalize vals 19 = v19 at *
              subst f19
              have f20 := hf 20 (by decide) (by kernel_rfl)
              generalize vals 20 = v20 at *
              subst f20
              have f10 := hf 10 (by decide) (by kernel_rfl)
              generalize vals 10 = v10 at *
              subst f10
              clear hf
              go_wp2_with (fail)
              exact RQ.mk rfl ⟨(by first | rfl | (simp [FS50_6]; done) | (simp [FS50_6, *]; done) | (simp [FS50_6, gotV]; done) | (simp [FS50_6, gotV]; omega)), fun h => absurd h (by decide)⟩ (Below.refl _ _)
            | 22, _ =>
              injection ho with ho
              subst ho
              clear hl
              simp only [fillA, List.take, List.drop, put_none, Act.put, List.setIfInBounds_toArray, List.set_cons_zero, List.set_cons_succ, Nat.reduceAdd]
              have f21 := hf 21 (by decide) (by kernel_rfl)
              generalize vals 21 = v21 at *
              subst f21
              have f10 := hf 10 (by decide) (by kernel_rfl)
              generalize vals 10 = v10 at *
              subst f10
              clear hf
              go_wp2_with (fail)
              exact RQ.mk rfl ⟨(by first | rfl | (simp [FS50_6]; done) | (simp [FS50_6, *]; done) | (simp [FS50_6, gotV]; done) | (simp [FS50_6, gotV]; omega)), fun h => absurd h (by decide)⟩ (Below.refl _ _)
            | 23, _ =>
              injection ho with ho
              subst ho
              clear hl
              simp only [fillA, List.take, List.drop, put_none, Act.put, List.setIfInBounds_toArray, List.set_cons_zero, List.set_cons_succ, Nat.reduceAdd]
              have f22 := hf 22 (by decide) (by kernel_rfl)
              generalize vals 22 = v22 at *
              subst f22
              have f10 := hf 10 (by decide) (by kernel_rfl)
              generalize vals 10 = v10 at *
              subst f10
              clear hf
              go_wp2_with (fail)
              exact RQ.mk rfl ⟨(by first | rfl | (simp [FS50_6]; done) | (simp [FS50_6, *]; done) | (simp [FS50_6, gotV]; done) | (simp [FS50_6, gotV]; omega)), fun h => absurd h (by decide)⟩ (Below.refl _ _)
            | 24, _ =>
              injection ho with ho
              subst ho
              clear hl
              simp only [fillA, List.take, List.drop, put_none, Act.put, List.setIfInBounds_toArray, List.set_cons_zero, List.set_cons_succ, Nat.reduceAdd]
              have f17 := hf 17 (by decide) (by kernel_rfl)
              generalize vals 17 = v17 at *
              subst f17
              have f23 := hf 23 (by decide) (by kernel_rfl)
              generalize vals 23 = v23 at *
              subst f23
              have f10 := hf 10 (by decide) (by kernel_rfl)
              generalize vals 10 = v10 at *
              subst f10
              clear hf
              go_wp2_with (fail)
              exact RQ.mk rfl ⟨(by first | rfl | (simp [FS50_6]; done) | (simp [FS50_6, *]; done) | (simp [FS50_6, gotV]; done) | (simp [FS50_6, gotV]; omega)), fun h => absurd h (by decide)⟩ (Below.refl _ _)
            | 25, _ =>
              injection ho with ho
              subst ho
              clear hl
              simp only [fillA, List.take, List.drop, put_none, Act.put, List.setIfInBounds_toArray, List.set_cons_zero, List.set_cons_succ, Nat.reduceAdd]
              have f10 := hf 10 (by decide) (by kernel_rfl)
              generalize vals 10 = v10 at *
              subst f10
              have f24 := hf 24 (by decide) (by kernel_rfl)
              generalize vals 24 = v24 at *
              subst f24
              have f7 := hf 7 (by decide) (by kernel_rfl)
              generalize vals 7 = v7 at *
              subst f7
              clear hf
              go_wp2_with (fail)
              exact RQ.mk rfl ⟨(by first | rfl | (simp [FS50_6]; done) | (simp [FS50_6, *]; done) | (simp [FS50_6, gotV]; done) | (simp [FS50_6, gotV]; omega)), fun h => absurd h (by decide)⟩ (Below.refl _ _)
            | 26, _ =>
              injection ho with ho
              subst ho
              clear hl
              simp only [fillA, List.take, List.drop, put_none, Act.put, List.setIfInBounds_toArray, List.set_cons_zero, List.set_cons_succ, Nat.reduceAdd]
              have f7 := hf 7 (by decide) (by kernel_rfl)
              generalize vals 7 = v7 at *
              subst f7
              have f25 := hf 25 (by decide) (by kernel_rfl)
              generalize vals 25 = v25 at *
              subst f25
              clear hf
              go_wp2_with (fail)
              exact RQ.mk rfl ⟨(by first | rfl | (simp [FS50_6]; done) | (simp [FS50_6, *]; done) | (simp [FS50_6, gotV]; done) | (simp [FS50_6, gotV]; omega)), fun h => absurd h (by decide)⟩ (Below.refl _ _)
            | m + 27, h => exact absurd h (by omega)
          · intro vals w1 hb1 hf hd
            simp only [fillA, List.take, List.drop, put_none, Act.put, List.setIfInBounds_toArray, List.set_cons_zero, List.set_cons_succ, Nat.reduceAdd]
            clear hd
            have f0 := hf 0 (by decide)
            generalize vals 0 = v0 at *
            subst f0
            have f1 := hf 1 (by decide)
            generalize vals 1 = v1 at *
            subst f1
            have f2 := hf 2 (by decide)
            generalize vals 2 = v2 at *
            subst f2
            have f3 := hf 3 (by decide)
            generalize vals 3 = v3 at *
            subst f3
            have f4 := hf 4 (by decide)
            generalize vals 4 = v4 at *
            subst f4
            have f5 := hf 5 (by decide)
            generalize vals 5 = v5 at *
            subst f5
            have f6 := hf 6 (by decide)
            generalize vals 6 = v6 at *
            subst f6
            have f7 := hf 7 (by decide)
            generalize vals 7 = v7 at *
            subst f7
            have f8 := hf 8 (by decide)
            generalize vals 8 = v8 at *
            subst f8
            have f9 := hf 9 (by decide)
            generalize vals 9 = v9 at *
            subst f9
            have f10 := hf 10 (by decide)
            generalize vals 10 = v10 at *
            subst f10
            have f11 := hf 11 (by decide)
            generalize vals 11 = v11 at *
            subst f11
            have f12 := hf 12 (by decide)
            generalize vals 12 = v12 at *
            subst f12
            have f13 := hf 13 (by decide)
            generalize vals 13 = v13 at *
            subst f13
            have f14 := hf 14 (by decide)
            generalize vals 14 = v14 at *
            subst f14
            have f15 := hf 15 (by decide)
            generalize vals 15 = v15 at *
            subst f15
            have f16 := hf 16 (by decide)
            generalize vals 16 = v16 at *
            subst f16
            have f17 := hf 17 (by decide)
            generalize vals 17 = v17 at *
            subst f17
            have f18 := hf 18 (by decide)
            generalize vals 18 = v18 at *
            subst f18
            have f19 := hf 19 (by decide)
            generalize vals 19 = v19 at *
            subst f19
            have f20 := hf 20 (by decide)
            generalize vals 20 = v20 at *
            subst f20
            have f21 := hf 21 (by decide)
            generalize vals 21 = v21 at *
            subst f21
            have f22 := hf 22 (by decide)
            generalize vals 22 = v22 at *
            subst f22
            have f23 := hf 23 (by decide)
            generalize vals 23 = v23 at *
            subst f23
            have f24 := hf 24 (by decide)
            generalize vals 24 = v24 at *
            subst f24
            have f25 := hf 25 (by decide)
            generalize vals 25 = v25 at *
            subst f25
            have f26 := hf 26 (by decide)
            generalize vals 26 = v26 at *
            subst f26
            clear hf
            have hc1 := cellOf hb1
            have hf1 := frozOf hb1
            have hz1 := sizeOf hb1
            try simp at hz1
            go_wp2_with (fail)
            go_roundw
            case rel =>
              refine ⟨1, by omega, by go_num, fun j hj => ?_, ?_, ?_, ?_, by (repeat' (first | exact Below.refl _ _ | assumption | refine Below.setCell ?_ ?_ _ | refine Below.drew ?_ | refine Below.alloc ?_ ?_ _ | refine Below.trans ?_ (Below.mono (by assumption) ?_) | (simp; done) | (simp; omega) | omega))⟩
              · obtain rfl : j = 0 := by omega
                rw [HV.out, HG.out]
              all_goals first | (simp [go_sem, ↓IntWalk.iteOmega, *]; done) | (simp [go_sem, ↓IntWalk.iteOmega, *]; omega) | omega
            case measure => simp [intOf]; omega
        · have HG : Hid (ivOk x = false) := by show _ = _; simpa using hg
          clear hg
          have hg := HG.out
          simp only [ivOk] at hg
          go_wp2_with (fail)
          refine wp_region_w (n := 27) [] [] (FS50_6_7 d wr x x bx ox 0 xs.length cap w) rfl (by kernel_rfl) (fun _ _ d _ _ h => by cases d <;> exact h) ?_ ?_ ?_ ?_ ?_ ?_
          · intro iq
            match iq with
            | 0 | 1 | 2 | 3 | 4 | 5 | 6 | 7 | 8 | 9 | 10 | 11 | 12 | 13 | 14 | 15 | 16 | 17 | 18 | 19 | 20 | 21 | 22 | 23 | 24 | 25 | 26 => exact Stable.const _
            | n + 27 => exact Stable.const _
          · intro iq hi
            exact absurd hi (by simp)
          · intro iq hi
            exact absurd hi (by simp)
          · intro iq o hi hl ho vals w1 hb1 hf
            exact absurd hl (by simp)
          · intro iq o hi hl ho vals w1 hb1 hf
            match iq, hi with
            | 0, _ =>
              injection ho with ho
              subst ho
              clear hl
              simp only [fillA, List.take, List.drop, put_none, Act.put, List.setIfInBounds_toArray, List.set_cons_zero, List.set_cons_succ, Nat.reduceAdd]
              clear hf
              go_wp2_with (fail)
              exact RQ.mk rfl ⟨(by first | rfl | (simp [FS50_6_7]; done) | (simp [FS50_6_7, *]; done) | (simp [FS50_6_7, gotV]; done) | (simp [FS50_6_7, gotV]; omega)), fun h => absurd h (by decide)⟩ (Below.refl _ _)
            | 1, _ =>
              injection ho with ho
              subst ho
              clear hl
              simp only [fillA, List.take, List.drop, put_none, Act.put, List.setIfInBounds_toArray, List.set_cons_zero, List.set_cons_succ, Nat.reduceAdd]
              have f0 := hf 0 (by decide) (by kernel_rfl)
              generalize vals 0 = v0 at *
              subst f0
              clear hf
              have hc1 := cellOf hb1
              have hf1 := frozOf hb1
              have hz1 := sizeOf hb1
              try simp at hz1
              go_wp2_with (fail)
              exact RQ.mk rfl ⟨(by first | rfl | (simp [FS50_6_7]; done) | (simp [FS50_6_7, *]; done) | (simp [FS50_6_7, gotV]; done) | (simp [FS50_6_7, gotV]; omega)), fun h => absurd h (by decide)⟩ (Below.refl _ _)
            | 2, _ =>
              injection ho with ho
              subst ho
              clear hl
              simp only [fillA, List.take, List.drop, put_none, Act.put, List.setIfInBounds_toArray, List.set_cons_zero, List.set_cons_succ, Nat.reduceAdd]
              clear hf
              go_wp2_with (fail)
              exact RQ.mk rfl ⟨(by first | rfl | (simp [FS50_6_7]; done) | (simp [FS50_6_7, *]; done) | (simp [FS50_6_7, gotV]; done) | (simp [FS50_6_7, gotV]; omega)), fun h => absurd h (by decide)⟩ (Below.refl _ _)
            | 3, _ =>
              injection ho with ho
              subst ho
              clear hl
              simp only [fillA, List.take, List.drop, put_none, Act.put, List.setIfInBounds_toArray, List.set_cons_zero, List.set_cons_succ, Nat.reduceAdd]
              have f1 := hf 1 (by decide) (by kernel_rfl)
              generalize vals 1 = v1 at *
              subst f1
              have f2 := hf 2 (by decide) (by kernel_rfl)
              generalize vals 2 = v2 at *
              subst f2
              clear hf
              go_wp2_with (fail)
              exact RQ.mk rfl ⟨(by first | rfl | (simp [FS50_6_7]; done) | (simp [FS50_6_7, *]; done) | (simp [FS50_6_7, gotV]; done) | (simp [FS50_6_7, gotV]; omega)), fun h => absurd h (by decide)⟩ (Below.refl _ _)
            | 4, _ =>
              injection ho with ho
              subst ho
              clear hl
              simp only [fillA, List.take, List.drop, put_none, Act.put, List.setIfInBounds_toArray, List.set_cons_zero, List.set_cons_succ, Nat.reduceAdd]
              have f3 := hf 3 (by decide) (by kernel_rfl)
              generalize vals 3 = v3 at *
              subst f3
              clear hf
              have hc1 := cellOf hb1
              have hf1 := frozOf hb1
              have hz1 := sizeOf hb1
              try simp at hz1
              go_wp2_with (fail)
              exact RQ.mk rfl ⟨(by first | rfl | (simp [FS50_6_7]; done) | (simp [FS50_6_7, *]; done) | (simp [FS50_6_7, gotV]; done) | (simp [FS50_6_7, gotV]; omega)), fun h => absurd h (by decide)⟩ (Below.refl _ _)
            | 5, _ =>
              injection ho with ho
              subst ho
              clear hl
              simp only [fillA, List.take, List.drop, put_none, Act.put, List.setIfInBounds_toArray, List.set_cons_zero, List.set_cons_succ, Nat.reduceAdd]
              have f4 := hf 4 (by decide) (by kernel_rfl)
              generalize vals 4 = v4 at *
              subst f4
              clear hf
              have hc1 := cellOf hb1
              have hf1 := frozOf hb1
              have hz1 := sizeOf hb1
              try simp at hz1
              go_wp2_with (first | (go_at_call 82; refine (c_spec_l13Good _ _ _ ).mono ?_; rintro e w' ⟨rfl, hb⟩; have hc := cellOf hb; have hf := frozOf hb; have hz := sizeOf hb; try simp at hz))
              exact RQ.mk rfl ⟨(by first | rfl | (simp [FS50_6_7]; done) | (simp [FS50_6_7, *]; done) | (simp [FS50_6_7, gotV]; done) | (simp [FS50_6_7, gotV]; omega)), fun h => absurd h (by decide)⟩ (by (repeat' (first | exact Below.refl _ _ | assumption | refine Below.setCell ?_ ?_ _ | refine Below.drew ?_ | refine Below.alloc ?_ ?_ _ | refine Below.trans ?_ (Below.mono (by assumption) ?_) | (simp; done) | (simp; omega) | omega)))
            | 6, _ =>
              injection ho with ho
              subst ho
              clear hl
              simp only [fillA, List.take, List.drop, put_none, Act.put, List.setIfInBounds_toArray, List.set_cons_zero, List.set_cons_succ, Nat.reduceAdd]
              have f5 := hf 5 (by decide) (by kernel_rfl)
              generalize vals 5 = v5 at *
              subst f5
              clear hf
              go_wp2_with (fail)
              exact RQ.mk rfl ⟨(by first | rfl | (simp [FS50_6_7]; done) | (simp [FS50_6_7, *]; done) | (simp [FS50_6_7, gotV]; done) | (simp [FS50_6_7, gotV]; omega)), fun h => absurd h (by decide)⟩ (Below.refl _ _)
            | 7, _ =>
              injection ho with ho
              subst ho
              clear hl
              simp only [fillA, List.take, List.drop, put_none, Act.put, List.setIfInBounds_toArray, List.set_cons_zero, List.set_cons_succ, Nat.reduceAdd]
              have f6 := hf 6 (by decide) (by kernel_rfl)
              generalize vals 6 = v6 at *
              subst f6
              have f5 := hf 5 (by decide) (by kernel_rfl)
              generalize vals 5 = v5 at *
              subst f5
              clear hf
              go_wp2_with (fail)
              exact RQ.mk rfl ⟨(by first | rfl | (simp [FS50_6_7]; done) | (simp [FS50_6_7, *]; done) | (simp [FS50_6_7, gotV]; done) | (simp [FS50_6_7, gotV]; omega)), fun h => absurd h (by decide)⟩ (Below.refl _ _)
            | 8, _ =>
              injection ho with ho
              subst ho
              clear hl
              simp only [fillA, List.take, List.drop, put_none, Act.put, List.setIfInBounds_toArray, List.set_cons_zero, List.set_cons_succ, Nat.reduceAdd]
              have f7 := hf 7 (by decide) (by kernel_rfl)
              generalize vals 7 = v7 at *
              subst f7
              clear hf
              go_wp2_with (fail)
              exact RQ.mk rfl ⟨(by first | rfl | (simp [FS50_6_7]; done) | (simp [FS50_6_7, *]; done) | (simp [FS50_6_7, gotV]; done) | (simp [FS50_6_7, gotV]; omega)), fun h => absurd h (by decide)⟩ (Below.refl _ _)
            | 9, _ =>
              injection ho with ho
              subst ho
              clear hl
              simp only [fillA, List.take, List.drop, put_none, Act.put, List.setIfInBounds_toArray, List.set_cons_zero, List.set_cons_succ, Nat.reduceAdd]
              have f8 := hf 8 (by decide) (by kernel_rfl)
              generalize vals 8 = v8 at *
              subst f8
              have f7 := hf 7 (by decide) (by kernel_rfl)
              generalize vals 7 = v7 at *
              subst f7
              clear hf
              go_wp2_with (fail)
              exact RQ.mk rfl ⟨(by first | rfl | (simp [FS50_6_7]; done) | (simp [FS50_6_7, *]; done) | (simp [FS50_6_7, gotV]; done) | (simp [FS50_6_7, gotV]; omega)), fun h => absurd h (by decide)⟩ (Below.refl _ _)
            | 10, _ =>
              injection ho with ho
              subst ho
              clear hl
              simp only [fillA, List.take, List.drop, put_none, Act.put, List.setIfInBounds_toArray, List.set_cons_zero, List.set_cons_succ, Nat.reduceAdd]
              have f9 := hf 9 (by decide) (by kernel_rfl)
              generalize vals 9 = v9 at *
              subst f9
              have f7 := hf 7 (by decide) (by kernel_rfl)
              generalize vals 7 = v7 at *
              subst f7
              clear hf
              go_wp2_with (fail)
              exact RQ.mk rfl ⟨(by first | rfl | (simp [FS50_6_7]; done) | (simp [FS50_6_7, *]; done) | (simp [FS50_6_7, gotV]; done) | (simp [FS50_6_7, gotV]; omega)), fun h => absurd h (by decide)⟩ (Below.refl _ _)
            | 11, _ =>
              injection ho with ho
              subst ho
              clear hl
              simp only [fillA, List.take, List.drop, put_none, Act.put, List.setIfInBounds_toArray, List.set_cons_zero, List.set_cons_succ, Nat.reduceAdd]
              have f10 := hf 10 (by decide) (by kernel_rfl)
              generalize vals 10 = v10 at *
              subst f10
              clear hf
              go_wp2_with (fail)
              exact RQ.mk rfl ⟨(by first | rfl | (simp [FS50_6_7]; done) | (simp [FS50_6_7, *]; done) | (simp [FS50_6_7, gotV]; done) | (simp [FS50_6_7, gotV]; omega)), fun h => absurd h (by decide)⟩ (Below.refl _ _)
            | 12, _ =>
              injection ho with ho
              subst ho
              clear hl
              simp only [fillA, List.take, List.drop, put_none, Act.put, List.setIfInBounds_toArray, List.set_cons_zero, List.set_cons_succ, Nat.reduceAdd]
              have f11 := hf 11 (by decide) (by kernel_rfl)
              generalize vals 11 = v11 at *
              subst f11
              have f10 := hf 10 (by decide) (by kernel_rfl)
              generalize vals 10 = v10 at *
              subst f10
              clear hf
              go_wp2_with (fail)
              exact RQ.mk rfl ⟨(by first | rfl | (simp [FS50_6_7]; done) | (simp [FS50_6_7, *]; done) | (simp [FS50_6_7, gotV]; done) | (simp [FS50_6_7, gotV]; omega)), fun h => absurd h (by decide)⟩ (Below.refl _ _)
            | 13, _ =>
              injection ho with ho
              subst ho
              clear hl
              simp only [fillA, List.take, List.drop, put_none, Act.put, List.setIfInBounds_toArray, List.set_cons_zero, List.set_cons_succ, Nat.reduceAdd]
              have f10 := hf 10 (by decide) (by kernel_rfl)
              generalize vals 10 = v10 at *
              subst f10
              clear hf
              go_wp2_with (fail)
              exact RQ.mk rfl ⟨(by first | rfl | (simp [FS50_6_7]; done) | (simp [FS50_6_7, *]; done) | (simp [FS50_6_7, gotV]; done) | (simp [FS50_6_7, gotV]; omega)), fun h => absurd h (by decide)⟩ (Below.refl _ _)
            | 14, _ =>
              injection ho with ho
              subst ho
              clear hl
              simp only [fillA, List.take, List.drop, put_none, Act.put, List.setIfInBounds_toArray, List.set_cons_zero, List.set_cons_succ, Nat.reduceAdd]
              have f13 := hf 13 (by decide) (by kernel_rfl)
              generalize vals 13 = v13 at *
              subst f13
              have f10 := hf 10 (by decide) (by kernel_rfl)
              generalize vals 10 = v10 at *
              subst f10
              clear hf
              go_wp2_with (fail)
              exact RQ.mk rfl ⟨(by first | rfl | (simp [FS50_6_7]; done) | (simp [FS50_6_7, *]; done) | (simp [FS50_6_7, gotV]; done) | (simp [FS50_6_7, gotV]; omega)), fun h => absurd h (by decide)⟩ (Below.refl _ _)
            | 15, _ =>
              injection ho with ho
              subst ho
              clear hl
              simp only [fillA, List.take, List.drop, put_none, Act.put, List.setIfInBounds_toArray, List.set_cons_zero, List.set_cons_succ, Nat.reduceAdd]
              have f12 := hf 12 (by decide) (by kernel_rfl)
              generalize vals 12 = v12 at *
              subst f12
              have f14 := hf 14 (by decide) (by kernel_rfl)
              generalize vals 14 = v14 at *
              subst f14
              have f10 := hf 10 (by decide) (by kernel_rfl)
              generalize vals 10 = v10 at *
              subst f10
              clear hf
              go_wp2_with (fail)
              exact RQ.mk rfl ⟨(by first | rfl | (simp [FS50_6_7]; done) | (simp [FS50_6_7, *]; done) | (simp [FS50_6_7, gotV]; done) | (simp [FS50_6_7, gotV]; omega)), fun h => absurd h (by decide)⟩ (Below.refl _ _)
            | 16, _ =>
              injection ho with ho
              subst ho
              clear hl
              simp only [fillA, List.take, List.drop, put_none, Act.put, List.setIfInBounds_toArray, List.set_cons_zero, List.set_cons_succ, Nat.reduceAdd]
              have f15 := hf 15 (by decide) (by kernel_rfl)
              generalize vals 15 = v15 at *
              subst f15
              have f10 := hf 10 (by decide) (by kernel_rfl)
              generalize vals 10 = v10 at *
              subst f10
              clear hf
              go_wp2_with (fail)
              exact RQ.mk rfl ⟨(by first | rfl | (simp [FS50_6_7]; done) | (simp [FS50_6_7, *]; done) | (simp [FS50_6_7, gotV]; done) | (simp [FS50_6_7, gotV]; omega)), fun h => absurd h (by decide)⟩ (Below.refl _ _)
            | 17, _ =>
              injection ho with ho
              subst ho
              clear hl
              simp only [fillA, List.take, List.drop, put_none, Act.put, List.setIfInBounds_toArray, List.set_cons_zero, List.set_cons_succ, Nat.reduceAdd]
              have f16 := hf 16 (by decide) (by kernel_rfl)
              generalize vals 16 = v16 at *
              subst f16
              have f10 := hf 10 (by decide) (by kernel_rfl)
              generalize vals 10 = v10 at *
              subst f10
              clear hf
              go_wp2_with (fail)
              exact RQ.mk rfl ⟨(by first | rfl | (simp [FS50_6_7]; done) | (simp [FS50_6_7, *]; done) | (simp [FS50_6_7, gotV]; done) | (simp [FS50_6_7, gotV]; omega)), fun h => absurd h (by decide)⟩ (Below.refl _ _)
            | 18, _ =>
              injection ho with ho
              subst ho
              clear hl
              simp only [fillA, List.take, List.drop, put_none, Act.put, List.setIfInBounds_toArray, List.set_cons_zero, List.set_cons_succ, Nat.reduceAdd]
              have f10 := hf 10 (by decide) (by kernel_rfl)
              generalize vals 10 = v10 at *
              subst f10
              clear hf
              go_wp2_with (fail)
              exact RQ.mk rfl ⟨(by first | rfl | (simp [FS50_6_7]; done) | (simp [FS50_6_7, *]; done) | (simp [FS50_6_7, gotV]; done) | (simp [FS50_6_7, gotV]; omega)), fun h => absurd h (by decide)⟩ (Below.refl _ _)
            | 19, _ =>
              injection ho with ho
              subst ho
              clear hl
              simp only [fillA, List.take, List.drop, put_none, Act.put, List.setIfInBounds_toArray, List.set_cons_zero, List.set_cons_succ, Nat.reduceAdd]
              have f18 := hf 18 (by decide) (by kernel_rfl)
              generalize vals 18 = v18 at *
              subst f18
              have f10 := hf 10 (by decide) (by kernel_rfl)
              generalize vals 10 = v10 at *
              subst f10
              clear hf
              go_wp2_with (fail)
              exact RQ.mk rfl ⟨(by first | rfl | (simp [FS50_6_7]; done) | (simp [FS50_6_7, *]; done) | (simp [FS50_6_7, gotV]; done) | (simp [FS50_6_7, gotV]; omega)), fun h => absurd h (by decide)⟩ (Below.refl _ _)
            | 20, _ =>
              injection ho with ho
              subst ho
              clear hl
              simp only [fillA, List.take, List.drop, put_none, Act.put, List.setIfInBounds_toArray, List.set_cons_zero, List.set_cons_succ, Nat.reduceAdd]
              have f10 := hf 10 (by decide) (by kernel_rfl)
              generalize vals 10 = v10 at *
              subst f10
              clear hf
              go_wp2_with (fail)
              exact RQ.mk rfl ⟨(by first | rfl | (simp [FS50_6_7]; done) | (simp [FS50_6_7, *]; done) | (simp [FS50_6_7, gotV]; done) | (simp [FS50_6_7, gotV]; omega)), fun h => absurd h (by decide)⟩ (Below.refl _ _)
            | 21, _ =>
              injection ho with ho
              subst ho
              clear hl
              simp only [fillA, List.take, List.drop, put_none, Act.put, List.setIfInBounds_toArray, List.set_cons_zero, List.set_cons_succ, Nat.reduceAdd]
              have f19 := hf 19 (by decide) (by kernel_rfl)
              generalize vals 19 = v19 at *
              subst f19
              have f20 := hf 20 (by decide) (by kernel_rfl)
              generalize vals 20 = v20 at *
              subst f20
              have f10 := hf 10 (by decide) (by kernel_rfl)
              generalize vals 10 = v10 at *
              subst f10
              clear hf
              go_wp2_with (fail)
              exact RQ.mk rfl ⟨(by first | rfl | (simp [FS50_6_7]; done) | (simp [FS50_6_7, *]; done) | (simp [FS50_6_7, gotV]; done) | (simp [FS50_6_7, gotV]; omega)), fun h => absurd h (by decide)⟩ (Below.refl _ _)
            | 22, _ =>
              injection ho with ho
              subst ho
              clear hl
              simp only [fillA, List.take, List.drop, put_none, Act.put, List.setIfInBounds_toArray, List.set_cons_zero, List.set_cons_succ, Nat.reduceAdd]
              have f21 := hf 21 (by decide) (by kernel_rfl)
              generalize vals 21 = v21 at *
              subst f21
              have f10 := hf 10 (by decide) (by kernel_rfl)
              generalize vals 10 = v10 at *
              subst f10
              clear hf
              go_wp2_with (fail)
              exact RQ.mk rfl ⟨(by first | rfl | (simp [FS50_6_7]; done) | (simp [FS50_6_7, *]; done) | (simp [FS50_6_7, gotV]; done) | (simp [FS50_6_7, gotV]; omega)), fun h => absurd h (by decide)⟩ (Below.refl _ _)
            | 23, _ =>
              injection ho with ho
              subst ho
              clear hl
              simp only [fillA, List.take, List.drop, put_none, Act.put, List.setIfInBounds_toArray, List.set_cons_zero, List.set_cons_succ, Nat.reduceAdd]
              have f22 := hf 22 (by decide) (by kernel_rfl)
              generalize vals 22 = v22 at *
              subst f22
              have f10 := hf 10 (by decide) (by kernel_rfl)
              generalize vals 10 = v10 at *
              subst f10
              clear hf
              go_wp2_with (fail)
              exact RQ.mk rfl ⟨(by first | rfl | (simp [FS50_6_7]; done) | (simp [FS50_6_7, *]; done) | (simp [FS50_6_7, gotV]; done) | (simp [FS50_6_7, gotV]; omega)), fun h => absurd h (by decide)⟩ (Below.refl _ _)
            | 24, _ =>
              injection ho with ho
              subst ho
              clear hl
              simp only [fillA, List.take, List.drop, put_none, Act.put, List.setIfInBounds_toArray, List.set_cons_zero, List.set_cons_succ, Nat.reduceAdd]
              have f17 := hf 17 (by decide) (by kernel_rfl)
              generalize vals 17 = v17 at *
              subst f17
              have f23 := hf 23 (by decide) (by kernel_rfl)
              generalize vals 23 = v23 at *
              subst f23
              have f10 := hf 10 (by decide) (by kernel_rfl)
              generalize vals 10 = v10 at *
              subst f10
              clear hf
              go_wp2_with (fail)
              exact RQ.mk rfl ⟨(by first | rfl | (simp [FS50_6_7]; done) | (simp [FS50_6_7, *]; done) | (simp [FS50_6_7, gotV]; done) | (simp [FS50_6_7, gotV]; omega)), fun h => absurd h (by decide)⟩ (Below.refl _ _)
            | 25, _ =>
              injection ho with ho
              subst ho
              clear hl
              simp only [fillA, List.take, List.drop, put_none, Act.put, List.setIfInBounds_toArray, List.set_cons_zero, List.set_cons_succ, Nat.reduceAdd]
              have f10 := hf 10 (by decide) (by kernel_rfl)
              generalize vals 10 = v10 at *
              subst f10
              have f24 := hf 24 (by decide) (by kernel_rfl)
              generalize vals 24 = v24 at *
              subst f24
              have f7 := hf 7 (by decide) (by kernel_rfl)
              generalize vals 7 = v7 at *
              subst f7
              clear hf
              go_wp2_with (fail)
              exact RQ.mk rfl ⟨(by first | rfl | (simp [FS50_6_7]; done) | (simp [FS50_6_7, *]; done) | (simp [FS50_6_7, gotV]; done) | (simp [FS50_6_7, gotV]; omega)), fun h => absurd h (by decide)⟩ (Below.refl _ _)
            | 26, _ =>
              injection ho with ho
              subst ho
              clear hl
              simp only [fillA, List.take, List.drop, put_none, Act.put, List.setIfInBounds_toArray, List.set_cons_zero, List.set_cons_succ, Nat.reduceAdd]
              have f7 := hf 7 (by decide) (by kernel_rfl)
              generalize vals 7 = v7 at *
              subst f7
              have f25 := hf 25 (by decide) (by kernel_rfl)
              generalize vals 25 = v25 at *
              subst f25
              clear hf
              go_wp2_with (fail)
              exact RQ.mk rfl ⟨(by first | rfl | (simp [FS50_6_7]; done) | (simp [FS50_6_7, *]; done) | (simp [FS50_6_7, gotV]; done) | (simp [FS50_6_7, gotV]; omega)), fun h => absurd h (by decide)⟩ (Below.refl _ _)
            | m + 27, h => exact absurd h (by omega)
          · intro vals w1 hb1 hf hd
            simp only [fillA, List.take, List.drop, put_none, Act.put, List.setIfInBounds_toArray, List.set_cons_zero, List.set_cons_succ, Nat.reduceAdd]
            clear hd
            have f0 := hf 0 (by decide)
            generalize vals 0 = v0 at *
            subst f0
            have f1 := hf 1 (by decide)
            generalize vals 1 = v1 at *
            subst f1
            have f2 := hf 2 (by decide)
            generalize vals 2 = v2 at *
            subst f2
            have f3 := hf 3 (by decide)
            generalize vals 3 = v3 at *
            subst f3
            have f4 := hf 4 (by decide)
            generalize vals 4 = v4 at *
            subst f4
            have f5 := hf 5 (by decide)
            generalize vals 5 = v5 at *
            subst f5
            have f6 := hf 6 (by decide)
            generalize vals 6 = v6 at *
            subst f6
            have f7 := hf 7 (by decide)
            generalize vals 7 = v7 at *
            subst f7
            have f8 := hf 8 (by decide)
            generalize vals 8 = v8 at *
            subst f8
            have f9 := hf 9 (by decide)
            generalize vals 9 = v9 at *
            subst f9
            have f10 := hf 10 (by decide)
            generalize vals 10 = v10 at *
            subst f10
            have f11 := hf 11 (by decide)
            generalize vals 11 = v11 at *
            subst f11
            have f12 := hf 12 (by decide)
            generalize vals 12 = v12 at *
            subst f12
            have f13 := hf 13 (by decide)
            generalize vals 13 = v13 at *
            subst f13
            have f14 := hf 14 (by decide)
            generalize vals 14 = v14 at *
            subst f14
            have f15 := hf 15 (by decide)
            generalize vals 15 = v15 at *
            subst f15
            have f16 := hf 16 (by decide)
            generalize vals 16 = v16 at *
            subst f16
            have f17 := hf 17 (by decide)
            generalize vals 17 = v17 at *
            subst f17
            have f18 := hf 18 (by decide)
            generalize vals 18 = v18 at *
            subst f18
            have f19 := hf 19 (by decide)
            generalize vals 19 = v19 at *
            subst f19
            have f20 := hf 20 (by decide)
            generalize vals 20 = v20 at *
            subst f20
            have f21 := hf 21 (by decide)
            generalize vals 21 = v21 at *
            subst f21
            have f22 := hf 22 (by decide)
            generalize vals 22 = v22 at *
            subst f22
            have f23 := hf 23 (by decide)
            generalize vals 23 = v23 at *
            subst f23
            have f24 := hf 24 (by decide)
            generalize vals 24 = v24 at *
            subst f24
            have f25 := hf 25 (by decide)
            generalize vals 25 = v25 at *
            subst f25
            have f26 := hf 26 (by decide)
            generalize vals 26 = v26 at *
            subst f26
            clear hf
            have hc1 := cellOf hb1
            have hf1 := frozOf hb1
            have hz1 := sizeOf hb1
            try simp at hz1
            go_wp2_with (fail)
            go_ret
            exact ⟨ret_bool (by rw [brB, HB.out (by rw [HV.out, HG.out])]; simp), by (repeat' (first | exact Below.refl _ _ | assumption | refine Below.setCell ?_ ?_ _ | refine Below.drew ?_ | refine Below.alloc ?_ ?_ _ | refine Below.trans ?_ (Below.mono (by assumption) ?_) | (simp; done) | (simp; omega) | omega))⟩
      | succ k =>
        have HV := hid (vAt_succ (good := ivOk) (lt := ivLt) k hlt)
        have hlt' : k < xs.length := by omega
        have hx0 := hcx (k + 1) hlt 0 _ rfl
        have hx1 := hcx (k + 1) hlt 1 _ rfl
        have hy1 := hcx k hlt' 1 _ rfl
        simp only [Nat.add_zero] at hx0
        clear hcx
        generalize xs[k + 1] = x at *
        generalize xs[k] = y at *
        by_cases hg : ivOk x = true
        rotate_left
        · have HG : Hid (ivOk x = false) := by show _ = _; simpa using hg
          clear hg
          have hg := HG.out
          simp only [ivOk] at hg
          go_wp2_with (fail)
          refine wp_region_w (n := 27) [] [] (FS50_6_8 d wr x y bx ox k xs.length cap w) rfl (by kernel_rfl) (fun _ _ d _ _ h => by cases d <;> exact h) ?_ ?_ ?_ ?_ ?_ ?_
          · intro iq
            match iq with
            | 0 | 1 | 2 | 3 | 4 | 5 | 6 | 7 | 8 | 9 | 10 | 11 | 12 | 13 | 14 | 15 | 16 | 17 | 18 | 19 | 20 | 21 | 22 | 23 | 24 | 25 | 26 => exact Stable.const _
            | n + 27 => exact Stable.const _
          · intro iq hi
            exact absurd hi (by simp)
          · intro iq hi
            exact absurd hi (by simp)
          · intro iq o hi hl ho vals w1 hb1 hf
            exact absurd hl (by simp)
          · intro iq o hi hl ho vals w1 hb1 hf
            match iq, hi with
            | 0, _ =>
              injection ho with ho
              subst ho
              clear hl
              simp only [fillA, List.take, List.drop, put_none, Act.put, List.setIfInBounds_toArray, List.set_cons_zero, List.set_cons_succ, Nat.reduceAdd]
              clear hf
              go_wp2_with (fail)
              exact RQ.mk rfl ⟨(by first | rfl | (simp [FS50_6_8]; done) | (simp [FS50_6_8, *]; done) | (simp [FS50_6_8, gotV]; done) | (simp [FS50_6_8, gotV]; omega)), fun h => absurd h (by decide)⟩ (Below.refl _ _)
            | 1, _ =>
              injection ho with ho
              subst ho
              clear hl
              simp only [fillA, List.take, List.drop, put_none, Act.put, List.setIfInBounds_toArray, List.set_cons_zero, List.set_cons_succ, Nat.reduceAdd]
              have f0 := hf 0 (by decide) (by kernel_rfl)
              generalize vals 0 = v0 at *
              subst f0
              clear hf
              have hc1 := cellOf hb1
              have hf1 := frozOf hb1
              have hz1 := sizeOf hb1
              try simp at hz1
              go_wp2_with (fail)
              exact RQ.mk rfl ⟨(by first | rfl | (simp [FS50_6_8]; done) | (simp [FS50_6_8, *]; done) | (simp [FS50_6_8, gotV]; done) | (simp [FS50_6_8, gotV]; omega)), fun h => absurd h (by decide)⟩ (Below.refl _ _)
            | 2, _ =>
              injection ho with ho
              subst ho
              clear hl
              simp only [fillA, List.take, List.drop, put_none, Act.put, List.setIfInBounds_toArray, List.set_cons_zero, List.set_cons_succ, Nat.reduceAdd]
              clear hf
              go_wp2_with (fail)
              exact RQ.mk rfl ⟨(by first | rfl | (simp [FS50_6_8]; done) | (simp [FS50_6_8, *]; done) | (simp [FS50_6_8, gotV]; done) | (simp [FS50_6_8, gotV]; omega)), fun h => absurd h (by decide)⟩ (Below.refl _ _)
            | 3, _ =>
              injection ho with ho
              subst ho
              clear hl
              simp only [fillA, List.take, List.drop, put_none, Act.put, List.setIfInBounds_toArray, List.set_cons_zero, List.set_cons_succ, Nat.reduceAdd]
              have f1 := hf 1 (by decide) (by kernel_rfl)
              generalize vals 1 = v1 at *
              subst f1
              have f2 := hf 2 (by decide) (by kernel_rfl)
              generalize vals 2 = v2 at *
              subst f2
              clear hf
              go_wp2_with (fail)
              exact RQ.mk rfl ⟨(by first | rfl | (simp [FS50_6_8]; done) | (simp [FS50_6_8, *]; done) | (simp [FS50_6_8, gotV]; done) | (simp [FS50_6_8, gotV]; omega)), fun h => absurd h (by decide)⟩ (Below.refl _ _)
            | 4, _ =>
              injection ho with ho
              subst ho
              clear hl
              simp only [fillA, List.take, List.drop, put_none, Act.put, List.setIfInBounds_toArray, List.set_cons_zero, List.set_cons_succ, Nat.reduceAdd]
              have f3 := hf 3 (by decide) (by kernel_rfl)
              generalize vals 3 = v3 at *
              subst f3
              clear hf
              have hc1 := cellOf hb1
              have hf1 := frozOf hb1
              have hz1 := sizeOf hb1
              try simp at hz1
              go_wp2_with (fail)
              exact RQ.mk rfl ⟨(by first | rfl | (simp [FS50_6_8]; done) | (simp [FS50_6_8, *]; done) | (simp [FS50_6_8, gotV]; done) | (simp [FS50_6_8, gotV]; omega)), fun h => absurd h (by decide)⟩ (Below.refl _ _)
            | 5, _ =>
              injection ho with ho
              subst ho
              clear hl
              simp only [fillA, List.take, List.drop, put_none, Act.put, List.setIfInBounds_toArray, List.set_cons_zero, List.set_cons_succ, Nat.reduceAdd]
              have f4 := hf 4 (by decide) (by kernel_rfl)
              generalize vals 4 = v4 at *
              subst f4
              clear hf
              have hc1 := cellOf hb1
              have hf1 := frozOf hb1
              have hz1 := sizeOf hb1
              try simp at hz1
              go_wp2_with (first | (go_at_call 82; refine (c_spec_l13Good _ _ _ ).mono ?_; rintro e w' ⟨rfl, hb⟩; have hc := cellOf hb; have hf := frozOf hb; have hz := sizeOf hb; try simp at hz))
              exact RQ.mk rfl ⟨(by first | rfl | (simp [FS50_6_8]; done) | (simp [FS50_6_8, *]; done) | (simp [FS50_6_8, gotV]; done) | (simp [FS50_6_8, gotV]; omega)), fun h => absurd h (by decide)⟩ (by (repeat' (first | exact Below.refl _ _ | assumption | refine Below.setCell ?_ ?_ _ | refine Below.drew ?_ | refine Below.alloc ?_ ?_ _ | refine Below.trans ?_ (Below.mono (by assumption) ?_) | (simp; done) | (simp; omega) | omega)))
            | 6, _ =>
              injection ho with ho
              subst ho
              clear hl
              simp only [fillA, List.take, List.drop, put_none, Act.put, List.setIfInBounds_toArray, List.set_cons_zero, List.set_cons_succ, Nat.reduceAdd]
              have f5 := hf 5 (by decide) (by kernel_rfl)
              generalize vals 5 = v5 at *
              subst f5
              clear hf
              go_wp2_with (fail)
              exact RQ.mk rfl ⟨(by first | rfl | (simp [FS50_6_8]; done) | (simp [FS50_6_8, *]; done) | (simp [FS50_6_8, gotV]; done) | (simp [FS50_6_8, gotV]; omega)), fun h => absurd h (by decide)⟩ (Below.refl _ _)
            | 7, _ =>
              injection ho with ho
              subst ho
              clear hl
              simp only [fillA, List.take, List.drop, put_none, Act.put, List.setIfInBounds_toArray, List.set_cons_zero, List.set_cons_succ, Nat.reduceAdd]
              have f6 := hf 6 (by decide) (by kernel_rfl)
              generalize vals 6 = v6 at *
              subst f6
              have f5 := hf 5 (by decide) (by kernel_rfl)
              generalize vals 5 = v5 at *
              subst f5
              clear hf
              go_wp2_with (fail)
              exact RQ.mk rfl ⟨(by first | rfl | (simp [FS50_6_8]; done) | (simp [FS50_6_8, *]; done) | (simp [FS50_6_8, gotV]; done) | (simp [FS50_6_8, gotV]; omega)), fun h => absurd h (by decide)⟩ (Below.refl _ _)
            | 8, _ =>
              injection ho with ho
              subst ho
              clear hl
              simp only [fillA, List.take, List.drop, put_none, Act.put, List.setIfInBounds_toArray, List.set_cons_zero, List.set_cons_succ, Nat.reduceAdd]
              have f7 := hf 7 (by decide) (by kernel_rfl)
              generalize vals 7 = v7 at *
              subst f7
              clear hf
              go_wp2_with (fail)
              exact RQ.mk rfl ⟨(by first | rfl | (simp [FS50_6_8]; done) | (simp [FS50_6_8, *]; done) | (simp [FS50_6_8, gotV]; done) | (simp [FS50_6_8, gotV]; omega)), fun h => absurd h (by decide)⟩ (Below.refl _ _)
            | 9, _ =>
              injection ho with ho
              subst ho
              clear hl
              simp only [fillA, List.take, List.drop, put_none, Act.put, List.setIfInBounds_toArray, List.set_cons_zero, List.set_cons_succ, Nat.reduceAdd]
              have f8 := hf 8 (by decide) (by kernel_rfl)
              generalize vals 8 = v8 at *
              subst f8
              have f7 := hf 7 (by decide) (by kernel_rfl)
              generalize vals 7 = v7 at *
              subst f7
              clear hf
              go_wp2_with (fail)
              exact RQ.mk rfl ⟨(by first | rfl | (simp [FS50_6_8]; done) | (simp [FS50_6_8, *]; done) | (simp [FS50_6_8, gotV]; done) | (simp [FS50_6_8, gotV]; omega)), fun h => absurd h (by decide)⟩ (Below.refl _ _)
            | 10, _ =>
              injection ho with ho
              subst ho
              clear hl
              simp only [fillA, List.take, List.drop, put_none, Act.put, List.setIfInBounds_toArray, List.set_cons_zero, List.set_cons_succ, Nat.reduceAdd]
              have f9 := hf 9 (by decide) (by kernel_rfl)
              generalize vals 9 = v9 at *
              subst f9
              have f7 := hf 7 (by decide) (by kernel_rfl)
              generalize vals 7 = v7 at *
              subst f7
              clear hf
              go_wp2_with (fail)
              exact RQ.mk rfl ⟨(by first | rfl | (simp [FS50_6_8]; done) | (simp [FS50_6_8, *]; done) | (simp [FS50_6_8, gotV]; done) | (simp [FS50_6_8, gotV]; omega)), fun h => absurd h (by decide)⟩ (Below.refl _ _)
            | 11, _ =>
              injection ho with ho
              subst ho
              clear hl
              simp only [fillA, List.take, List.drop, put_none, Act.put, List.setIfInBounds_toArray, List.set_cons_zero, List.set_cons_succ, Nat.reduceAdd]
              have f10 := hf 10 (by decide) (by kernel_rfl)
              generalize vals 10 = v10 at *
              subst f10
              clear hf
              go_wp2_with (fail)
              exact RQ.mk rfl ⟨(by first | rfl | (simp [FS50_6_8]; done) | (simp [FS50_6_8, *]; done) | (simp [FS50_6_8, gotV]; done) | (simp [FS50_6_8, gotV]; omega)), fun h => absurd h (by decide)⟩ (Below.refl _ _)
            | 12, _ =>
              injection ho with ho
              subst ho
              clear hl
              simp only [fillA, List.take, List.drop, put_none, Act.put, List.setIfInBounds_toArray, List.set_cons_zero, List.set_cons_succ, Nat.reduceAdd]
              have f11 := hf 11 (by decide) (by kernel_rfl)
              generalize vals 11 = v11 at *
              subst f11
              have f10 := hf 10 (by decide) (by kernel_rfl)
              generalize vals 10 = v10 at *
              subst f10
              clear hf
              go_wp2_with (fail)
              exact RQ.mk rfl ⟨(by first | rfl | (simp [FS50_6_8]; done) | (simp [FS50_6_8, *]; done) | (simp [FS50_6_8, gotV]; done) | (simp [FS50_6_8, gotV]; omega)), fun h => absurd h (by decide)⟩ (Below.refl _ _)
            | 13, _ =>
              injection ho with ho
              subst ho
              clear hl
              simp only [fillA, List.take, List.drop, put_none, Act.put, List.setIfInBounds_toArray, List.set_cons_zero, List.set_cons_succ, Nat.reduceAdd]
              have f10 := hf 10 (by decide) (by kernel_rfl)
              generalize vals 10 = v10 at *
              subst f10
              clear hf
              go_wp2_with (fail)
              exact RQ.mk rfl ⟨(by first | rfl | (simp [FS50_6_8]; done) | (simp [FS50_6_8, *]; done) | (simp [FS50_6_8, gotV]; done) | (simp [FS50_6_8, gotV]; omega)), fun h => absurd h (by decide)⟩ (Below.refl _ _)
            | 14, _ =>
              injection ho with ho
              subst ho
              clear hl
              simp only [fillA, List.take, List.drop, put_none, Act.put, List.setIfInBounds_toArray, List.set_cons_zero, List.set_cons_succ, Nat.reduceAdd]
              have f13 := hf 13 (by decide) (by kernel_rfl)
              generalize vals 13 = v13 at *
              subst f13
              have f10 := hf 10 (by decide) (by kernel_rfl)
              generalize vals 10 = v10 at *
              subst f10
              clear hf
              go_wp2_with (fail)
              exact RQ.mk rfl ⟨(by first | rfl | (simp [FS50_6_8]; done) | (simp [FS50_6_8, *]; done) | (simp [FS50_6_8, gotV]; done) | (simp [FS50_6_8, gotV]; omega)), fun h => absurd h (by decide)⟩ (Below.refl _ _)
            | 15, _ =>
              injection ho with ho
              subst ho
              clear hl
              simp only [fillA, List.take, List.drop, put_none, Act.put, List.setIfInBounds_toArray, List.set_cons_zero, List.set_cons_succ, Nat.reduceAdd]
              have f12 := hf 12 (by decide) (by kernel_rfl)
              generalize vals 12 = v12 at *
              subst f12
              have f14 := hf 14 (by decide) (by kernel_rfl)
              generalize vals 14 = v14 at *
              subst f14
              have f10 := hf 10 (by decide) (by kernel_rfl)
              generalize vals 10 = v10 at *
              subst f10
              clear hf
              go_wp2_with (fail)
              exact RQ.mk rfl ⟨(by first | rfl | (simp [FS50_6_8]; done) | (simp [FS50_6_8, *]; done) | (simp [FS50_6_8, gotV]; done) | (simp [FS50_6_8, gotV]; omega)), fun h => absurd h (by decide)⟩ (Below.refl _ _)
            | 16, _ =>
              injection ho with ho
              subst ho
              clear hl
              simp only [fillA, List.take, List.drop, put_none, Act.put, List.setIfInBounds_toArray, List.set_cons_zero, List.set_cons_succ, Nat.reduceAdd]
              have f15 := hf 15 (by decide) (by kernel_rfl)
              generalize vals 15 = v15 at *
              subst f15
              have f10 := hf 10 (by decide) (by kernel_rfl)
              generalize vals 10 = v10 at *
              subst f10
              clear hf
              go_wp2_with (fail)
              exact RQ.mk rfl ⟨(by first | rfl | (simp [FS50_6_8]; done) | (simp [FS50_6_8, *]; done) | (simp [FS50_6_8, gotV]; done) | (simp [FS50_6_8, gotV]; omega)), fun h => absurd h (by decide)⟩ (Below.refl _ _)
            | 17, _ =>
              injection ho with ho
              subst ho
              clear hl
              simp only [fillA, List.take, List.drop, put_none, Act.put, List.setIfInBounds_toArray, List.set_cons_zero, List.set_cons_succ, Nat.reduceAdd]
              have f16 := hf 16 (by decide) (by kernel_rfl)
              generalize vals 16 = v16 at *
              subst f16
              have f10 := hf 10 (by decide) (by kernel_rfl)
              generalize vals 10 = v10 at *
              subst f10
              clear hf
              go_wp2_with (fail)
              exact RQ.mk rfl ⟨(by first | rfl | (simp [FS50_6_8]; done) | (simp [FS50_6_8, *]; done) | (simp [FS50_6_8, gotV]; done) | (simp [FS50_6_8, gotV]; omega)), fun h => absurd h (by decide)⟩ (Below.refl _ _)
            | 18, _ =>
              injection ho with ho
              subst ho
              clear hl
              simp only [fillA, List.take, List.drop, put_none, Act.put, List.setIfInBounds_toArray, List.set_cons_zero, List.set_cons_succ, Nat.reduceAdd]
              have f10 := hf 10 (by decide) (by kernel_rfl)
              generalize vals 10 = v10 at *
              subst f10
              clear hf
              go_wp2_with (fail)
              exact RQ.mk rfl ⟨(by first | rfl | (simp [FS50_6_8]; done) | (simp [FS50_6_8, *]; done) | (simp [FS50_6_8, gotV]; done) | (simp [FS50_6_8, gotV]; omega)), fun h => absurd h (by decide)⟩ (Below.refl _ _)
            | 19, _ =>
              injection ho with ho
              subst ho
              clear hl
              simp only [fillA, List.take, List.drop, put_none, Act.put, List.setIfInBounds_toArray, List.set_cons_zero, List.set_cons_succ, Nat.reduceAdd]
              have f18 := hf 18 (by decide) (by kernel_rfl)
              generalize vals 18 = v18 at *
              subst f18
              have f10 := hf 10 (by decide) (by kernel_rfl)
              generalize vals 10 = v10 at *
              subst f10
              clear hf
              go_wp2_with (fail)
              exact RQ.mk rfl ⟨(by first | rfl | (simp [FS50_6_8]; done) | (simp [FS50_6_8, *]; done) | (simp [FS50_6_8, gotV]; done) | (simp [FS50_6_8, gotV]; omega)), fun h => absurd h (by decide)⟩ (Below.refl _ _)
            | 20, _ =>
              injection ho with ho
              subst ho
              clear hl
              simp only [fillA, List.take, List.drop, put_none, Act.put, List.setIfInBounds_toArray, List.set_cons_zero, List.set_cons_succ, Nat.reduceAdd]
              have f10 := hf 10 (by decide) (by kernel_rfl)
              generalize vals 10 = v10 at *
              subst f10
              clear hf
              go_wp2_with (fail)
              exact RQ.mk rfl ⟨(by first | rfl | (simp [FS50_6_8]; done) | (simp [FS50_6_8, *]; done) | (simp [FS50_6_8, gotV]; done) | (simp [FS50_6_8, gotV]; omega)), fun h => absurd h (by decide)⟩ (Below.refl _ _)
            | 21, _ =>
              injection ho with ho
              subst ho
              clear hl
              simp only [fillA, List.take, List.drop, put_none, Act.put, List.setIfInBounds_toArray, List.set_cons_zero, List.set_cons_succ, Nat.reduceAdd]
              have f19 := hf 19 (by decide) (by kernel_rfl)
              generalize vals 19 = v19 at *
              subst f19
              have f20 := hf 20 (by decide) (by kernel_rfl)
              generalize vals 20 = v20 at *
              subst f20
              have f10 := hf 10 (by decide) (by kernel_rfl)
              generalize vals 10 = v10 at *
              subst f10
              clear hf
              go_wp2_with (fail)
              exact RQ.mk rfl ⟨(by first | rfl | (simp [FS50_6_8]; done) | (simp [FS50_6_8, *]; done) | (simp [FS50_6_8, gotV]; done) | (simp [FS50_6_8, gotV]; omega)), fun h => absurd h (by decide)⟩ (Below.refl _ _)
            | 22, _ =>
              injection ho with ho
              subst ho
              clear hl
              simp only [fillA, List.take, List.drop, put_none, Act.put, List.setIfInBounds_toArray, List.set_cons_zero, List.set_cons_succ, Nat.reduceAdd]
              have f21 := hf 21 (by decide) (by kernel_rfl)
              generalize vals 21 = v21 at *
              subst f21
              have f10 := hf 10 (by decide) (by kernel_rfl)
              generalize vals 10 = v10 at *
              subst f10
              clear hf
              go_wp2_with (fail)
              exact RQ.mk rfl ⟨(by first | rfl | (simp [FS50_6_8]; done) | (simp [FS50_6_8, *]; done) | (simp [FS50_6_8, gotV]; done) | (simp [FS50_6_8, gotV]; omega)), fun h => absurd h (by decide)⟩ (Below.refl _ _)
            | 23, _ =>
              injection ho with ho
              subst ho
              clear hl
              simp only [fillA, List.take, List.drop, put_none, Act.put, List.setIfInBounds_toArray, List.set_cons_zero, List.set_cons_succ, Nat.reduceAdd]
              have f22 := hf 22 (by decide) (by kernel_rfl)
              generalize vals 22 = v22 at *
              subst f22
              have f10 := hf 10 (by decide) (by kernel_rfl)
              generalize vals 10 = v10 at *
              subst f10
              clear hf
              go_wp2_with (fail)
              exact RQ.mk rfl ⟨(by first | rfl | (simp [FS50_6_8]; done) | (simp [FS50_6_8, *]; done) | (simp [FS50_6_8, gotV]; done) | (simp [FS50_6_8, gotV]; omega)), fun h => absurd h (by decide)⟩ (Below.refl _ _)
            | 24, _ =>
              injection ho with ho
              subst ho
              clear hl
              simp only [fillA, List.take, List.drop, put_none, Act.put, List.setIfInBounds_toArray, List.set_cons_zero, List.set_cons_succ, Nat.reduceAdd]
              have f17 := hf 17 (by decide) (by kernel_rfl)
              generalize vals 17 = v17 at *
              subst f17
              have f23 := hf 23 (by decide) (by kernel_rfl)
              generalize vals 23 = v23 at *
              subst f23
              have f10 := hf 10 (by decide) (by kernel_rfl)
              generalize vals 10 = v10 at *
              subst f10
              clear hf
              go_wp2_with (fail)
              exact RQ.mk rfl ⟨(by first | rfl | (simp [FS50_6_8]; done) | (simp [FS50_6_8, *]; done) | (simp [FS50_6_8, gotV]; done) | (simp [FS50_6_8, gotV]; omega)), fun h => absurd h (by decide)⟩ (Below.refl _ _)
            | 25, _ =>
              injection ho with ho
              subst ho
              clear hl
              simp only [fillA, List.take, List.drop, put_none, Act.put, List.setIfInBounds_toArray, List.set_cons_zero, List.set_cons_succ, Nat.reduceAdd]
              have f10 := hf 10 (by decide) (by kernel_rfl)
              generalize vals 10 = v10 at *
              subst f10
              have f24 := hf 24 (by decide) (by kernel_rfl)
              generalize vals 24 = v24 at *
              subst f24
              have f7 := hf 7 (by decide) (by kernel_rfl)
              generalize vals 7 = v7 at *
              subst f7
              clear hf
              go_wp2_with (fail)
              exact RQ.mk rfl ⟨(by first | rfl | (simp [FS50_6_8]; done) | (simp [FS50_6_8, *]; done) | (simp [FS50_6_8, gotV]; done) | (simp [FS50_6_8, gotV]; omega)), fun h => absurd h (by decide)⟩ (Below.refl _ _)
            | 26, _ =>
              injection ho with ho
              subst ho
              clear hl
              simp only [fillA, List.take, List.drop, put_none, Act.put, List.setIfInBounds_toArray, List.set_cons_zero, List.set_cons_succ, Nat.reduceAdd]
              have f7 := hf 7 (by decide) (by kernel_rfl)
              generalize vals 7 = v7 at *
              subst f7
              have f25 := hf 25 (by decide) (by kernel_rfl)
              generalize vals 25 = v25 at *
              subst f25
              clear hf
              go_wp2_with (fail)
              exact RQ.mk rfl ⟨(by first | rfl | (simp [FS50_6_8]; done) | (simp [FS50_6_8, *]; done) | (simp [FS50_6_8, gotV]; done) | (simp [FS50_6_8, gotV]; omega)), fun h => absurd h (by decide)⟩ (Below.refl _ _)
            | m + 27, h => exact absurd h (by omega)
          · intro vals w1 hb1 hf hd
            simp only [fillA, List.take, List.drop, put_none, Act.put, List.setIfInBounds_toArray, List.set_cons_zero, List.set_cons_succ, Nat.reduceAdd]
            clear hd
            have f0 := hf 0 (by decide)
            generalize vals 0 = v0 at *
            subst f0
            have f1 := hf 1 (by decide)
            generalize vals 1 = v1 at *
            subst f1
            have f2 := hf 2 (by decide)
            generalize vals 2 = v2 at *
            subst f2
            have f3 := hf 3 (by decide)
            generalize vals 3 = v3 at *
            subst f3
            have f4 := hf 4 (by decide)
            generalize vals 4 = v4 at *
            subst f4
            have f5 := hf 5 (by decide)
            generalize vals 5 = v5 at *
            subst f5
            have f6 := hf 6 (by decide)
            generalize vals 6 = v6 at *
            subst f6
            have f7 := hf 7 (by decide)
            generalize vals 7 = v7 at *
            subst f7
            have f8 := hf 8 (by decide)
            generalize vals 8 = v8 at *
            subst f8
            have f9 := hf 9 (by decide)
            generalize vals 9 = v9 at *
            subst f9
            have f10 := hf 10 (by decide)
            generalize vals 10 = v10 at *
            subst f10
            have f11 := hf 11 (by decide)
            generalize vals 11 = v11 at *
            subst f11
            have f12 := hf 12 (by decide)
            generalize vals 12 = v12 at *
            subst f12
            have f13 := hf 13 (by decide)
            generalize vals 13 = v13 at *
            subst f13
            have f14 := hf 14 (by decide)
            generalize vals 14 = v14 at *
            subst f14
            have f15 := hf 15 (by decide)
            generalize vals 15 = v15 at *
            subst f15
            have f16 := hf 16 (by decide)
            generalize vals 16 = v16 at *
            subst f16
            have f17 := hf 17 (by decide)
            generalize vals 17 = v17 at *
            subst f17
            have f18 := hf 18 (by decide)
            generalize vals 18 = v18 at *
            subst f18
            have f19 := hf 19 (by decide)
            generalize vals 19 = v19 at *
            subst f19
            have f20 := hf 20 (by decide)
            generalize vals 20 = v20 at *
            subst f20
            have f21 := hf 21 (by decide)
            generalize vals 21 = v21 at *
            subst f21
            have f22 := hf 22 (by decide)
            generalize vals 22 = v22 at *
            subst f22
            have f23 := hf 23 (by decide)
            generalize vals 23 = v23 at *
            subst f23
            have f24 := hf 24 (by decide)
            generalize vals 24 = v24 at *
            subst f24
            have f25 := hf 25 (by decide)
            generalize vals 25 = v25 at *
            subst f25
            have f26 := hf 26 (by decide)
            generalize vals 26 = v26 at *
            subst f26
            clear hf
            have hc1 := cellOf hb1
            have hf1 := frozOf hb1
            have hz1 := sizeOf hb1
            try simp at hz1
            go_wp2_with (fail)
            go_ret
            exact ⟨ret_bool (by rw [brB, HB.out (by rw [HV.out, HG.out]; rfl)]; simp), by (repeat' (first | exact Below.refl _ _ | assumption | refine Below.setCell ?_ ?_ _ | refine Below.drew ?_ | refine Below.alloc ?_ ?_ _ | refine Below.trans ?_ (Below.mono (by assumption) ?_) | (simp; done) | (simp; omega) | omega))⟩
        have HG := hid hg
        simp only [ivOk] at hg
        by_cases hl2 : y.2 < x.1
        · have H2 : Hid (ivLt y x = true) := by show _ = _; simpa [ivLt] using hl2
          go_wp2_with (fail)
          refine wp_region_w (n := 27) [] [] (FS50_6_9 d wr x y bx ox k xs.length cap w) rfl (by kernel_rfl) (fun _ _ d _ _ h => by cases d <;> exact h) ?_ ?_ ?_ ?_ ?_ ?_
          · intro iq
            match iq with
            | 0 | 1 | 2 | 3 | 4 | 5 | 6 | 7 | 8 | 9 | 10 | 11 | 12 | 13 | 14 | 15 | 16 | 17 | 18 | 19 | 20 | 21 | 22 | 23 | 24 | 25 | 26 => exact Stable.const _
            | n + 27 => exact Stable.const _
          · intro iq hi
            exact absurd hi (by simp)
          · intro iq hi
            exact absurd hi (by simp)
          · intro iq o hi hl ho vals w1 hb1 hf
            exact absurd hl (by simp)
          · intro iq o hi hl ho vals w1 hb1 hf
            match iq, hi with
            | 0, _ =>
              injection ho with ho
              subst ho
              clear hl
              simp only [fillA, List.take, List.drop, put_none, Act.put, List.setIfInBounds_toArray, List.set_cons_zero, List.set_cons_succ, Nat.reduceAdd]
              clear hf
              go_wp2_with (fail)
              exact RQ.mk rfl ⟨(by first | rfl | (simp [FS50_6_9]; done) | (simp [FS50_6_9, *]; done) | (simp [FS50_6_9, gotV]; done) | (simp [FS50_6_9, gotV]; omega)), fun h => absurd h (by decide)⟩ (Below.refl _ _)
            | 1, _ =>
              injection ho with ho
              subst ho
              clear hl
              simp only [fillA, List.take, List.drop, put_none, Act.put, List.setIfInBounds_toArray, List.set_cons_zero, List.set_cons_succ, Nat.reduceAdd]
              have f0 := hf 0 (by decide) (by kernel_rfl)
              generalize vals 0 = v0 at *
              subst f0
              clear hf
              have hc1 := cellOf hb1
              have hf1 := frozOf hb1
              have hz1 := sizeOf hb1
              try simp at hz1
              go_wp2_with (fail)
              exact RQ.mk rfl ⟨(by first | rfl | (simp [FS50_6_9]; done) | (simp [FS50_6_9, *]; done) | (simp [FS50_6_9, gotV]; done) | (simp [FS50_6_9, gotV]; omega)), fun h => absurd h (by decide)⟩ (Below.refl _ _)
            | 2, _ =>
              injection ho with ho
              subst ho
              clear hl
              simp only [fillA, List.take, List.drop, put_none, Act.put, List.setIfInBounds_toArray, List.set_cons_zero, List.set_cons_succ, Nat.reduceAdd]
              clear hf
              go_wp2_with (fail)
              exact RQ.mk rfl ⟨(by first | rfl | (simp [FS50_6_9]; done) | (simp [FS50_6_9, *]; done) | (simp [FS50_6_9, gotV]; done) | (simp [FS50_6_9, gotV]; omega)), fun h => absurd h (by decide)⟩ (Below.refl _ _)
            | 3, _ =>
              injection ho with ho
              subst ho
              clear hl
              simp only [fillA, List.take, List.drop, put_none, Act.put, List.setIfInBounds_toArray, List.set_cons_zero, List.set_cons_succ, Nat.reduceAdd]
              have f1 := hf 1 (by decide) (by kernel_rfl)
              generalize vals 1 = v1 at *
              subst f1
              have f2 := hf 2 (by decide) (by kernel_rfl)
              generalize vals 2 = v2 at *
              subst f2
              clear hf
              go_wp2_with (fail)
              exact RQ.mk rfl ⟨(by first | rfl | (simp [FS50_6_9]; done) | (simp [FS50_6_9, *]; done) | (simp [FS50_6_9, gotV]; done) | (simp [FS50_6_9, gotV]; omega)), fun h => absurd h (by decide)⟩ (Below.refl _ _)
            | 4, _ =>
              injection ho with ho
              subst ho
              clear hl
              simp only [fillA, List.take, List.drop, put_none, Act.put, List.setIfInBounds_toArray, List.set_cons_zero, List.set_cons_succ, Nat.reduceAdd]
              have f3 := hf 3 (by decide) (by kernel_rfl)
              generalize vals 3 = v3 at *
              subst f3
              clear hf
              have hc1 := cellOf hb1
              have hf1 := frozOf hb1
              have hz1 := sizeOf hb1
              try simp at hz1
              go_wp2_with (fail)
              exact RQ.mk rfl ⟨(by first | rfl | (simp [FS50_6_9]; done) | (simp [FS50_6_9, *]; done) | (simp [FS50_6_9, gotV]; done) | (simp [FS50_6_9, gotV]; omega)), fun h => absurd h (by decide)⟩ (Below.refl _ _)
            | 5, _ =>
              injection ho with ho
              subst ho
              clear hl
              simp only [fillA, List.take, List.drop, put_none, Act.put, List.setIfInBounds_toArray, List.set_cons_zero, List.set_cons_succ, Nat.reduceAdd]
              have f4 := hf 4 (by decide) (by kernel_rfl)
              generalize vals 4 = v4 at *
              subst f4
              clear hf
              have hc1 := cellOf hb1
              have hf1 := frozOf hb1
              have hz1 := sizeOf hb1
              try simp at hz1
              go_wp2_with (first | (go_at_call 82; refine (c_spec_l13Good _ _ _ ).mono ?_; rintro e w' ⟨rfl, hb⟩; have hc := cellOf hb; have hf := frozOf hb; have hz := sizeOf hb; try simp at hz))
              exact RQ.mk rfl ⟨(by first | rfl | (simp [FS50_6_9]; done) | (simp [FS50_6_9, *]; done) | (simp [FS50_6_9, gotV]; done) | (simp [FS50_6_9, gotV]; omega)), fun h => absurd h (by decide)⟩ (by (repeat' (first | exact Below.refl _ _ | assumption | refine Below.setCell ?_ ?_ _ | refine Below.drew ?_ | refine Below.alloc ?_ ?_ _ | refine Below.trans ?_ (Below.mono (by assumption) ?_) | (simp; done) | (simp; omega) | omega)))
            | 6, _ =>
              injection ho with ho
              subst ho
              clear hl
              simp only [fillA, List.take, List.drop, put_none, Act.put, List.setIfInBounds_toArray, List.set_cons_zero, List.set_cons_succ, Nat.reduceAdd]
              have f5 := hf 5 (by decide) (by kernel_rfl)
              generalize vals 5 = v5 at *
              subst f5
              clear hf
              go_wp2_with (fail)
              exact RQ.mk rfl ⟨(by first | rfl | (simp [FS50_6_9]; done) | (simp [FS50_6_9, *]; done) | (simp [FS50_6_9, gotV]; done) | (simp [FS50_6_9, gotV]; omega)), fun h => absurd h (by decide)⟩ (Below.refl _ _)
            | 7, _ =>
              injection ho with ho
              subst ho
              clear hl
              simp only [fillA, List.take, List.drop, put_none, Act.put, List.setIfInBounds_toArray, List.set_cons_zero, List.set_cons_succ, Nat.reduceAdd]
              have f6 := hf 6 (by decide) (by kernel_rfl)
              generalize vals 6 = v6 at *
              subst f6
              have f5 := hf 5 (by decide) (by kernel_rfl)
              generalize vals 5 = v5 at *
              subst f5
              clear hf
              go_wp2_with (fail)
              exact RQ.mk rfl ⟨(by first | rfl | (simp [FS50_6_9]; done) | (simp [FS50_6_9, *]; done) | (simp [FS50_6_9, gotV]; done) | (simp [FS50_6_9, gotV]; omega)), fun h => absurd h (by decide)⟩ (Below.refl _ _)
            | 8, _ =>
              injection ho with ho
              subst ho
              clear hl
              simp only [fillA, List.take, List.drop, put_none, Act.put, List.setIfInBounds_toArray, List.set_cons_zero, List.set_cons_succ, Nat.reduceAdd]
              have f7 := hf 7 (by decide) (by kernel_rfl)
              generalize vals 7 = v7 at *
              subst f7
              clear hf
              go_wp2_with (fail)
              exact RQ.mk rfl ⟨(by first | rfl | (simp [FS50_6_9]; done) | (simp [FS50_6_9, *]; done) | (simp [FS50_6_9, gotV]; done) | (simp [FS50_6_9, gotV]; omega)), fun h => absurd h (by decide)⟩ (Below.refl _ _)
            | 9, _ =>
              injection ho with ho
              subst ho
              clear hl
              simp only [fillA, List.take, List.drop, put_none, Act.put, List.setIfInBounds_toArray, List.set_cons_zero, List.set_cons_succ, Nat.reduceAdd]
              have f8 := hf 8 (by decide) (by kernel_rfl)
              generalize vals 8 = v8 at *
              subst f8
              have f7 := hf 7 (by decide) (by kernel_rfl)
              generalize vals 7 = v7 at *
              subst f7
              clear hf
              go_wp2_with (fail)
              exact RQ.mk rfl ⟨(by first | rfl | (simp [FS50_6_9]; done) | (simp [FS50_6_9, *]; done) | (simp [FS50_6_9, gotV]; done) | (simp [FS50_6_9, gotV]; omega)), fun h => absurd h (by decide)⟩ (Below.refl _ _)
            | 10, _ =>
              injection ho with ho
              subst ho
              clear hl
              simp only [fillA, List.take, List.drop, put_none, Act.put, List.setIfInBounds_toArray, List.set_cons_zero, List.set_cons_succ, Nat.reduceAdd]
              have f9 := hf 9 (by decide) (by kernel_rfl)
              generalize vals 9 = v9 at *
              subst f9
              have f7 := hf 7 (by decide) (by kernel_rfl)
              generalize vals 7 = v7 at *
              subst f7
              clear hf
              go_wp2_with (fail)
              exact RQ.mk rfl ⟨(by first | rfl | (simp [FS50_6_9]; done) | (simp [FS50_6_9, *]; done) | (simp [FS50_6_9, gotV]; done) | (simp [FS50_6_9, gotV]; omega)), fun h => absurd h (by decide)⟩ (Below.refl _ _)
            | 11, _ =>
              injection ho with ho
              subst ho
              clear hl
              simp only [fillA, List.take, List.drop, put_none, Act.put, List.setIfInBounds_toArray, List.set_cons_zero, List.set_cons_succ, Nat.reduceAdd]
              have f10 := hf 10 (by decide) (by kernel_rfl)
              generalize vals 10 = v10 at *
              subst f10
              clear hf
              go_wp2_with (fail)
              exact RQ.mk rfl ⟨(by first | rfl | (simp [FS50_6_9]; done) | (simp [FS50_6_9, *]; done) | (simp [FS50_6_9, gotV]; done) | (simp [FS50_6_9, gotV]; omega)), fun h => absurd h (by decide)⟩ (Below.refl _ _)
            | 12, _ =>
              injection ho with ho
              subst ho
              clear hl
              simp only [fillA, List.take, List.drop, put_none, Act.put, List.setIfInBounds_toArray, List.set_cons_zero, List.set_cons_succ, Nat.reduceAdd]
              have f11 := hf 11 (by decide) (by kernel_rfl)
              generalize vals 11 = v11 at *
              subst f11
              have f10 := hf 10 (by decide) (by kernel_rfl)
              generalize vals 10 = v10 at *
              subst f10
              clear hf
              have hc1 := cellOf hb1
              have hf1 := frozOf hb1
              have hz1 := sizeOf hb1
              try simp at hz1
              go_wp2_with (fail)
              exact RQ.mk rfl ⟨(by first | rfl | (simp [FS50_6_9]; done) | (simp [FS50_6_9, *]; done) | (simp [FS50_6_9, gotV]; done) | (simp [FS50_6_9, gotV]; omega)), fun h => absurd h (by decide)⟩ (Below.refl _ _)
            | 13, _ =>
              injection ho with ho
              subst ho
              clear hl
              simp only [fillA, List.take, List.drop, put_none, Act.put, List.setIfInBounds_toArray, List.set_cons_zero, List.set_cons_succ, Nat.reduceAdd]
              have f10 := hf 10 (by decide) (by kernel_rfl)
              generalize vals 10 = v10 at *
              subst f10
              clear hf
              go_wp2_with (fail)
              exact RQ.mk rfl ⟨(by first | rfl | (simp [FS50_6_9]; done) | (simp [FS50_6_9, *]; done) | (simp [FS50_6_9, gotV]; done) | (simp [FS50_6_9, gotV]; omega)), fun h => absurd h (by decide)⟩ (Below.refl _ _)
            | 14, _ =>
              injection ho with ho
              subst ho
              clear hl
              simp only [fillA, List.take, List.drop, put_none, Act.put, List.setIfInBounds_toArray, List.set_cons_zero, List.set_cons_succ, Nat.reduceAdd]
              have f13 := hf 13 (by decide) (by kernel_rfl)
              generalize vals 13 = v13 at *
              subst f13
              have f10 := hf 10 (by decide) (by kernel_rfl)
              generalize vals 10 = v10 at *
              subst f10
              clear hf
              go_wp2_with (fail)
              exact RQ.mk rfl ⟨(by first | rfl | (simp [FS50_6_9]; done) | (simp [FS50_6_9, *]; done) | (simp [FS50_6_9, gotV]; done) | (simp [FS50_6_9, gotV]; omega)), fun h => absurd h (by decide)⟩ (Below.refl _ _)
            | 15, _ =>
              injection ho with ho
              subst ho
              clear hl
              simp only [fillA, List.take, List.drop, put_none, Act.put, List.setIfInBounds_toArray, List.set_cons_zero, List.set_cons_succ, Nat.reduceAdd]
              have f12 := hf 12 (by decide) (by kernel_rfl)
              generalize vals 12 = v12 at *
              subst f12
              have f14 := hf 14 (by decide) (by kernel_rfl)
              generalize vals 14 = v14 at *
              subst f14
              have f10 := hf 10 (by decide) (by kernel_rfl)
              generalize vals 10 = v10 at *
              subst f10
              clear hf
              go_wp2_with (fail)
              exact RQ.mk rfl ⟨(by first | rfl | (simp [FS50_6_9]; done) | (simp [FS50_6_9, *]; done) | (simp [FS50_6_9, gotV]; done) | (simp [FS50_6_9, gotV]; omega)), fun h => absurd h (by decide)⟩ (Below.refl _ _)
            | 16, _ =>
              injection ho with ho
              subst ho
              clear hl
              simp only [fillA, List.take, List.drop, put_none, Act.put, List.setIfInBounds_toArray, List.set_cons_zero, List.set_cons_succ, Nat.reduceAdd]
              have f15 := hf 15 (by decide) (by kernel_rfl)
              generalize vals 15 = v15 at *
              subst f15
              have f10 := hf 10 (by decide) (by kernel_rfl)
              generalize vals 10 = v10 at *
              subst f10
              clear hf
              go_wp2_with (fail)
              exact RQ.mk rfl ⟨(by first | rfl | (simp [FS50_6_9]; done) | (simp [FS50_6_9, *]; done) | (simp [FS50_6_9, gotV]; done) | (simp [FS50_6_9, gotV]; omega)), fun h => absurd h (by decide)⟩ (Below.refl _ _)
            | 17, _ =>
              injection ho with ho
              subst ho
              clear hl
              simp only [fillA, List.take, List.drop, put_none, Act.put, List.setIfInBounds_toArray, List.set_cons_zero, List.set_cons_succ, Nat.reduceAdd]
              have f16 := hf 16 (by decide) (by kernel_rfl)
              generalize vals 16 = v16 at *
              subst f16
              have f10 := hf 10 (by decide) (by kernel_rfl)
              generalize vals 10 = v10 at *
              subst f10
              clear hf
              have hc1 := cellOf hb1
              have hf1 := frozOf hb1
              have hz1 := sizeOf hb1
              try simp at hz1
              go_wp2_with (fail)
              exact RQ.mk rfl ⟨(by first | rfl | (simp [FS50_6_9]; done) | (simp [FS50_6_9, *]; done) | (simp [FS50_6_9, gotV]; done) | (simp [FS50_6_9, gotV]; omega)), fun h => absurd h (by decide)⟩ (Below.refl _ _)
            | 18, _ =>
              injection ho with ho
              subst ho
              clear hl
              simp only [fillA, List.take, List.drop, put_none, Act.put, List.setIfInBounds_toArray, List.set_cons_zero, List.set_cons_succ, Nat.reduceAdd]
              have f10 := hf 10 (by decide) (by kernel_rfl)
              generalize vals 10 = v10 at *
              subst f10
              clear hf
              go_wp2_with (fail)
              exact RQ.mk rfl ⟨(by first | rfl | (simp [FS50_6_9]; done) | (simp [FS50_6_9, *]; done) | (simp [FS50_6_9, gotV]; done) | (simp [FS50_6_9, gotV]; omega)), fun h => absurd h (by decide)⟩ (Below.refl _ _)
            | 19, _ =>
              injection ho with ho
              subst ho
              clear hl
              simp only [fillA, List.take, List.drop, put_none, Act.put, List.setIfInBounds_toArray, List.set_cons_zero, List.set_cons_succ, Nat.reduceAdd]
              have f18 := hf 18 (by decide) (by kernel_rfl)
              generalize vals 18 = v18 at *
              subst f18
              have f10 := hf 10 (by decide) (by kernel_rfl)
              generalize vals 10 = v10 at *
              subst f10
              clear hf
              have hc1 := cellOf hb1
              have hf1 := frozOf hb1
              have hz1 := sizeOf hb1
              try simp at hz1
              go_wp2_with (fail)
              exact RQ.mk rfl ⟨(by first | rfl | (simp [FS50_6_9]; done) | (simp [FS50_6_9, *]; done) | (simp [FS50_6_9, gotV]; done) | (simp [FS50_6_9, gotV]; omega)), fun h => absurd h (by decide)⟩ (Below.refl _ _)
            | 20, _ =>
              injection ho with ho
              subst ho
              clear hl
              simp only [fillA, List.take, List.drop, put_none, Act.put, List.setIfInBounds_toArray, List.set_cons_zero, List.set_cons_succ, Nat.reduceAdd]
              have f10 := hf 10 (by decide) (by kernel_rfl)
              generalize vals 10 = v10 at *
              subst f10
              clear hf
              go_wp2_with (fail)
              exact RQ.mk rfl ⟨(by first | rfl | (simp [FS50_6_9]; done) | (simp [FS50_6_9, *]; done) | (simp [FS50_6_9, gotV]; done) | (simp [FS50_6_9, gotV]; omega)), fun h => absurd h (by decide)⟩ (Below.refl _ _)
            | 21, _ =>
              injection ho with ho
              subst ho
              clear hl
              simp only [fillA, List.take, List.drop, put_none, Act.put, List.setIfInBounds_toArray, List.set_cons_zero, List.set_cons_succ, Nat.reduceAdd]
              have f19 := hf 19 (by decide) (by kernel_rfl)
              generalize vals 19 = v19 at *
              subst f19
              have f20 := hf 20 (by decide) (by kernel_rfl)
              generalize vals 20 = v20 at *
              subst f20
              have f10 := hf 10 (by decide) (by kernel_rfl)
              generalize vals 10 = v10 at *
              subst f10
              clear hf
              go_wp2_with (fail)
              exact RQ.mk rfl ⟨(by first | rfl | (simp [FS50_6_9]; done) | (simp [FS50_6_9, *]; done) | (simp [FS50_6_9, gotV]; done) | (simp [FS50_6_9, gotV]; omega)), fun h => absurd h (by decide)⟩ (Below.refl _ _)
            | 22, _ =>
              injection ho with ho
              subst ho
              clear hl
              simp only [fillA, List.take, List.drop, put_none, Act.put, List.setIfInBounds_toArray, List.set_cons_zero, List.set_cons_succ, Nat.reduceAdd]
              have f21 := hf 21 (by decide) (by kernel_rfl)
              generalize vals 21 = v21 at *
              subst f21
              have f10 := hf 10 (by decide) (by kernel_rfl)
              generalize vals 10 = v10 at *
              subst f10
              clear hf
              go_wp2_with (fail)
              exact RQ.mk rfl ⟨(by first | rfl | (simp [FS50_6_9]; done) | (simp [FS50_6_9, *]; done) | (simp [FS50_6_9, gotV]; done) | (simp [FS50_6_9, gotV]; omega)), fun h => absurd h (by decide)⟩ (Below.refl _ _)
            | 23, _ =>
              injection ho with ho
              subst ho
              clear hl
              simp only [fillA, List.take, List.drop, put_none, Act.put, List.setIfInBounds_toArray, List.set_cons_zero, List.set_cons_succ, Nat.reduceAdd]
              have f22 := hf 22 (by decide) (by kernel_rfl)
              generalize vals 22 = v22 at *
              subst f22
              have f10 := hf 10 (by decide) (by kernel_rfl)
              generalize vals 10 = v10 at *
              subst f10
              clear hf
              have hc1 := cellOf hb1
              have hf1 := frozOf hb1
              have hz1 := sizeOf hb1
              try simp at hz1
              go_wp2_with (fail)
              exact RQ.mk rfl ⟨(by first | rfl | (simp [FS50_6_9]; done) | (simp [FS50_6_9, *]; done) | (simp [FS50_6_9, gotV]; done) | (simp [FS50_6_9, gotV]; omega)), fun h => absurd h (by decide)⟩ (Below.refl _ _)
            | 24, _ =>
              injection ho with ho
              subst ho
              clear hl
              simp only [fillA, List.take, List.drop, put_none, Act.put, List.setIfInBounds_toArray, List.set_cons_zero, List.set_cons_succ, Nat.reduceAdd]
              have f17 := hf 17 (by decide) (by kernel_rfl)
              generalize vals 17 = v17 at *
              subst f17
              have f23 := hf 23 (by decide) (by kernel_rfl)
              generalize vals 23 = v23 at *
              subst f23
              have f10 := hf 10 (by decide) (by kernel_rfl)
              generalize vals 10 = v10 at *
              subst f10
              clear hf
              go_wp2_with (fail)
              exact RQ.mk rfl ⟨(by first | rfl | (simp [FS50_6_9]; done) | (simp [FS50_6_9, *]; done) | (simp [FS50_6_9, gotV]; done) | (simp [FS50_6_9, gotV]; omega)), fun h => absurd h (by decide)⟩ (Below.refl _ _)
            | 25, _ =>
              injection ho with ho
              subst ho
              clear hl
              simp only [fillA, List.take, List.drop, put_none, Act.put, List.setIfInBounds_toArray, List.set_cons_zero, List.set_cons_succ, Nat.reduceAdd]
              have f10 := hf 10 (by decide) (by kernel_rfl)
              generalize vals 10 = v10 at *
              subst f10
              have f24 := hf 24 (by decide) (by kernel_rfl)
              generalize vals 24 = v24 at *
              subst f24
              have f7 := hf 7 (by decide) (by kernel_rfl)
              generalize vals 7 = v7 at *
              subst f7
              clear hf
              go_wp2_with (fail)
              exact RQ.mk rfl ⟨(by first | rfl | (simp [FS50_6_9]; done) | (simp [FS50_6_9, *]; done) | (simp [FS50_6_9, gotV]; done) | (simp [FS50_6_9, gotV]; omega)), fun h => absurd h (by decide)⟩ (Below.refl _ _)
            | 26, _ =>
              injection ho with ho
              subst ho
              clear hl
              simp only [fillA, List.take, List.drop, put_none, Act.put, List.setIfInBounds_toArray, List.set_cons_zero, List.set_cons_succ, Nat.reduceAdd]
              have f7 := hf 7 (by decide) (by kernel_rfl)
              generalize vals 7 = v7 at *
              subst f7
              have f25 := hf 25 (by decide) (by kernel_rfl)
              generalize vals 25 = v25 at *
              subst f25
              clear hf
              go_wp2_with (fail)
              exact RQ.mk rfl ⟨(by first | rfl | (simp [FS50_6_9]; done) | (simp [FS50_6_9, *]; done) | (simp [FS50_6_9, gotV]; done) | (simp [FS50_6_9, gotV]; omega)), fun h => absurd h (by decide)⟩ (Below.refl _ _)
            | m + 27, h => exact absurd h (by omega)
          · intro vals w1 hb1 hf hd
            simp only [fillA, List.take, List.drop, put_none, Act.put, List.setIfInBounds_toArray, List.set_cons_zero, List.set_cons_succ, Nat.reduceAdd]
            clear hd
            have f0 := hf 0 (by decide)
            generalize vals 0 = v0 at *
            subst f0
            have f1 := hf 1 (by decide)
            generalize vals 1 = v1 at *
            subst f1
            have f2 := hf 2 (by decide)
            generalize vals 2 = v2 at *
            subst f2
            have f3 := hf 3 (by decide)
            generalize vals 3 = v3 at *
            subst f3
            have f4 := hf 4 (by decide)
            generalize vals 4 = v4 at *
            subst f4
            have f5 := hf 5 (by decide)
            generalize vals 5 = v5 at *
            subst f5
            have f6 := hf 6 (by decide)
            generalize vals 6 = v6 at *
            subst f6
            have f7 := hf 7 (by decide)
            generalize vals 7 = v7 at *
            subst f7
            have f8 := hf 8 (by decide)
            generalize vals 8 = v8 at *
            subst f8
            have f9 := hf 9 (by decide)
            generalize vals 9 = v9 at *
            subst f9
            have f10 := hf 10 (by decide)
            generalize vals 10 = v10 at *
            subst f10
            have f11 := hf 11 (by decide)
            generalize vals 11 = v11 at *
            subst f11
            have f12 := hf 12 (by decide)
            generalize vals 12 = v12 at *
            subst f12
            have f13 := hf 13 (by decide)
            generalize vals 13 = v13 at *
            subst f13
            have f14 := hf 14 (by decide)
            generalize vals 14 = v14 at *
            subst f14
            have f15 := hf 15 (by decide)
            generalize vals 15 = v15 at *
            subst f15
            have f16 := hf 16 (by decide)
            generalize vals 16 = v16 at *
            subst f16
            have f17 := hf 17 (by decide)
            generalize vals 17 = v17 at *
            subst f17
            have f18 := hf 18 (by decide)
            generalize vals 18 = v18 at *
            subst f18
            have f19 := hf 19 (by decide)
            generalize vals 19 = v19 at *
            subst f19
            have f20 := hf 20 (by decide)
            generalize vals 20 = v20 at *
            subst f20
            have f21 := hf 21 (by decide)
            generalize vals 21 = v21 at *
            subst f21
            have f22 := hf 22 (by decide)
            generalize vals 22 = v22 at *
            subst f22
            have f23 := hf 23 (by decide)
            generalize vals 23 = v23 at *
            subst f23
            have f24 := hf 24 (by decide)
            generalize vals 24 = v24 at *
            subst f24
            have f25 := hf 25 (by decide)
            generalize vals 25 = v25 at *
            subst f25
            have f26 := hf 26 (by decide)
            generalize vals 26 = v26 at *
            subst f26
            clear hf
            have hc1 := cellOf hb1
            have hf1 := frozOf hb1
            have hz1 := sizeOf hb1
            try simp at hz1
            go_wp2_with (fail)
            go_roundw
            case rel =>
              refine ⟨k + 2, by omega, by go_num, fun j hj => ?_, ?_, ?_, ?_, by (repeat' (first | exact Below.refl _ _ | assumption | refine Below.setCell ?_ ?_ _ | refine Below.drew ?_ | refine Below.alloc ?_ ?_ _ | refine Below.trans ?_ (Below.mono (by assumption) ?_) | (simp; done) | (simp; omega) | omega))⟩
              · rcases Nat.lt_or_ge j (k + 1) with h | h
                · exact HL.out j h
                · obtain rfl : j = k + 1 := by omega
                  rw [HV.out, HG.out, H2.out]; rfl
              all_goals first | (simp [go_sem, ↓IntWalk.iteOmega, *]; done) | (simp [go_sem, ↓IntWalk.iteOmega, *]; omega) | omega
            case measure => simp [intOf]; omega
        · have H2 : Hid (ivLt y x = false) := by show _ = _; simpa [ivLt] using hl2
          go_wp2_with (fail)
          refine wp_region_w (n := 27) [] [] (FS50_6_10 d wr x y bx ox k xs.length cap w) rfl (by kernel_rfl) (fun _ _ d _ _ h => by cases d <;> exact h) ?_ ?_ ?_ ?_ ?_ ?_
          · intro iq
            match iq with
            | 0 | 1 | 2 | 3 | 4 | 5 | 6 | 7 | 8 | 9 | 10 | 11 | 12 | 13 | 14 | 15 | 16 | 17 | 18 | 19 | 20 | 21 | 22 | 23 | 24 | 25 | 26 => exact Stable.const _
            | n + 27 => exact Stable.const _
          · intro iq hi
            exact absurd hi (by simp)
          · intro iq hi
            exact absurd hi (by simp)
          · intro iq o hi hl ho vals w1 hb1 hf
            exact absurd hl (by simp)
          · intro iq o hi hl ho vals w1 hb1 hf
            match iq, hi with
            | 0, _ =>
              injection ho with ho
              subst ho
              clear hl
              simp only [fillA, List.take, List.drop, put_none, Act.put, List.setIfInBounds_toArray, List.set_cons_zero, List.set_cons_succ, Nat.reduceAdd]
              clear hf
              go_wp2_with (fail)
              exact RQ.mk rfl ⟨(by first | rfl | (simp [FS50_6_10]; done) | (simp [FS50_6_10, *]; done) | (simp [FS50_6_10, gotV]; done) | (simp [FS50_6_10, gotV]; omega)), fun h => absurd h (by decide)⟩ (Below.refl _ _)
            | 1, _ =>
              injection ho with ho
              subst ho
              clear hl
              simp only [fillA, List.take, List.drop, put_none, Act.put, List.setIfInBounds_toArray, List.set_cons_zero, List.set_cons_succ, Nat.reduceAdd]
              have f0 := hf 0 (by decide) (by kernel_rfl)
              generalize vals 0 = v0 at *
              subst f0
              clear hf
              have hc1 := cellOf hb1
              have hf1 := frozOf hb1
              have hz1 := sizeOf hb1
              try simp at hz1
              go_wp2_with (fail)
              exact RQ.mk rfl ⟨(by first | rfl | (simp [FS50_6_10]; done) | (simp [FS50_6_10, *]; done) | (simp [FS50_6_10, gotV]; done) | (simp [FS50_6_10, gotV]; omega)), fun h => absurd h (by decide)⟩ (Below.refl _ _)
            | 2, _ =>
              injection ho with ho
              subst ho
              clear hl
              simp only [fillA, List.take, List.drop, put_none, Act.put, List.setIfInBounds_toArray, List.set_cons_zero, List.set_cons_succ, Nat.reduceAdd]
              clear hf
              go_wp2_with (fail)
              exact RQ.mk rfl ⟨(by first | rfl | (simp [FS50_6_10]; done) | (simp [FS50_6_10, *]; done) | (simp [FS50_6_10, gotV]; done) | (simp [FS50_6_10, gotV]; omega)), fun h => absurd h (by decide)⟩ (Below.refl _ _)
            | 3, _ =>
              injection ho with ho
              subst ho
              clear hl
              simp only [fillA, List.take, List.drop, put_none, Act.put, List.setIfInBounds_toArray, List.set_cons_zero, List.set_cons_succ, Nat.reduceAdd]
              have f1 := hf 1 (by decide) (by kernel_rfl)
              generalize vals 1 = v1 at *
              subst f1
              have f2 := hf 2 (by decide) (by kernel_rfl)
              generalize vals 2 = v2 at *
              subst f2
              clear hf
              go_wp2_with (fail)
              exact RQ.mk rfl ⟨(by first | rfl | (simp [FS50_6_10]; done) | (simp [FS50_6_10, *]; done) | (simp [FS50_6_10, gotV]; done) | (simp [FS50_6_10, gotV]; omega)), fun h => absurd h (by decide)⟩ (Below.refl _ _)
            | 4, _ =>
              injection ho with ho
              subst ho
              clear hl
              simp only [fillA, List.take, List.drop, put_none, Act.put, List.setIfInBounds_toArray, List.set_cons_zero, List.set_cons_succ, Nat.reduceAdd]
              have f3 := hf 3 (by decide) (by kernel_rfl)
              generalize vals 3 = v3 at *
              subst f3
              clear hf
              have hc1 := cellOf hb1
              have hf1 := frozOf hb1
              have hz1 := sizeOf hb1
              try simp at hz1
              go_wp2_with (fail)
              exact RQ.mk rfl ⟨(by first | rfl | (simp [FS50_6_10]; done) | (simp [FS50_6_10, *]; done) | (simp [FS50_6_10, gotV]; done) | (simp [FS50_6_10, gotV]; omega)), fun h => absurd h (by decide)⟩ (Below.refl _ _)
            | 5, _ =>
              injection ho with ho
              subst ho
              clear hl
              simp only [fillA, List.take, List.drop, put_none, Act.put, List.setIfInBounds_toArray, List.set_cons_zero, List.set_cons_succ, Nat.reduceAdd]
              have f4 := hf 4 (by decide) (by kernel_rfl)
              generalize vals 4 = v4 at *
              subst f4
              clear hf
              have hc1 := cellOf hb1
              have hf1 := frozOf hb1
              have hz1 := sizeOf hb1
              try simp at hz1
              go_wp2_with (first | (go_at_call 82; refine (c_spec_l13Good _ _ _ ).mono ?_; rintro e w' ⟨rfl, hb⟩; have hc := cellOf hb; have hf := frozOf hb; have hz := sizeOf hb; try simp at hz))
              exact RQ.mk rfl ⟨(by first | rfl | (simp [FS50_6_10]; done) | (simp [FS50_6_10, *]; done) | (simp [FS50_6_10, gotV]; done) | (simp [FS50_6_10, gotV]; omega)), fun h => absurd h (by decide)⟩ (by (repeat' (first | exact Below.refl _ _ | assumption | refine Below.setCell ?_ ?_ _ | refine Below.drew ?_ | refine Below.alloc ?_ ?_ _ | refine Below.trans ?_ (Below.mono (by assumption) ?_) | (simp; done) | (simp; omega) | omega)))
            | 6, _ =>
              injection ho with ho
              subst ho
              clear hl
              simp only [fillA, List.take, List.drop, put_none, Act.put, List.setIfInBounds_toArray, List.set_cons_zero, List.set_cons_succ, Nat.reduceAdd]
              have f5 := hf 5 (by decide) (by kernel_rfl)
              generalize vals 5 = v5 at *
              subst f5
              clear hf
              go_wp2_with (fail)
              exact RQ.mk rfl ⟨(by first | rfl | (simp [FS50_6_10]; done) | (simp [FS50_6_10, *]; done) | (simp [FS50_6_10, gotV]; done) | (simp [FS50_6_10, gotV]; omega)), fun h => absurd h (by decide)⟩ (Below.refl _ _)
            | 7, _ =>
              injection ho with ho
              subst ho
              clear hl
              simp only [fillA, List.take, List.drop, put_none, Act.put, List.setIfInBounds_toArray, List.set_cons_zero, List.set_cons_succ, Nat.reduceAdd]
              have f6 := hf 6 (by decide) (by kernel_rfl)
              generalize vals 6 = v6 at *
              subst f6
              have f5 := hf 5 (by decide) (by kernel_rfl)
              generalize vals 5 = v5 at *
              subst f5
              clear hf
              go_wp2_with (fail)
              exact RQ.mk rfl ⟨(by first | rfl | (simp [FS50_6_10]; done) | (simp [FS50_6_10, *]; done) | (simp [FS50_6_10, gotV]; done) | (simp [FS50_6_10, gotV]; omega)), fun h => absurd h (by decide)⟩ (Below.refl _ _)
            | 8, _ =>
              injection ho with ho
              subst ho
              clear hl
              simp only [fillA, List.take, List.drop, put_none, Act.put, List.setIfInBounds_toArray, List.set_cons_zero, List.set_cons_succ, Nat.reduceAdd]
              have f7 := hf 7 (by decide) (by kernel_rfl)
              generalize vals 7 = v7 at *
              subst f7
              clear hf
              go_wp2_with (fail)
              exact RQ.mk rfl ⟨(by first | rfl | (simp [FS50_6_10]; done) | (simp [FS50_6_10, *]; done) | (simp [FS50_6_10, gotV]; done) | (simp [FS50_6_10, gotV]; omega)), fun h => absurd h (by decide)⟩ (Below.refl _ _)
            | 9, _ =>
              injection ho with ho
              subst ho
              clear hl
              simp only [fillA, List.take, List.drop, put_none, Act.put, List.setIfInBounds_toArray, List.set_cons_zero, List.set_cons_succ, Nat.reduceAdd]
              have f8 := hf 8 (by decide) (by kernel_rfl)
              generalize vals 8 = v8 at *
              subst f8
              have f7 := hf 7 (by decide) (by kernel_rfl)
              generalize vals 7 = v7 at *
              subst f7
              clear hf
              go_wp2_with (fail)
              exact RQ.mk rfl ⟨(by first | rfl | (simp [FS50_6_10]; done) | (simp [FS50_6_10, *]; done) | (simp [FS50_6_10, gotV]; done) | (simp [FS50_6_10, gotV]; omega)), fun h => absurd h (by decide)⟩ (Below.refl _ _)
            | 10, _ =>
              injection ho with ho
              subst ho
              clear hl
              simp only [fillA, List.take, List.drop, put_none, Act.put, List.setIfInBounds_toArray, List.set_cons_zero, List.set_cons_succ, Nat.reduceAdd]
              have f9 := hf 9 (by decide) (by kernel_rfl)
              generalize vals 9 = v9 at *
              subst f9
              have f7 := hf 7 (by decide) (by kernel_rfl)
              generalize vals 7 = v7 at *
              subst f7
              clear hf
              go_wp2_with (fail)
              exact RQ.mk rfl ⟨(by first | rfl | (simp [FS50_6_10]; done) | (simp [FS50_6_10, *]; done) | (simp [FS50_6_10, gotV]; done) | (simp [FS50_6_10, gotV]; omega)), fun h => absurd h (by decide)⟩ (Below.refl _ _)
            | 11, _ =>
              injection ho with ho
              subst ho
              clear hl
              simp only [fillA, List.take, List.drop, put_none, Act.put, List.setIfInBounds_toArray, List.set_cons_zero, List.set_cons_succ, Nat.reduceAdd]
              have f10 := hf 10 (by decide) (by kernel_rfl)
              generalize vals 10 = v10 at *
              subst f10
              clear hf
              go_wp2_with (fail)
              exact RQ.mk rfl ⟨(by first | rfl | (simp [FS50_6_10]; done) | (simp [FS50_6_10, *]; done) | (simp [FS50_6_10, gotV]; done) | (simp [FS50_6_10, gotV]; omega)), fun h => absurd h (by decide)⟩ (Below.refl _ _)
            | 12, _ =>
              injection ho with ho
              subst ho
              clear hl
              simp only [fillA, List.take, List.drop, put_none, Act.put, List.setIfInBounds_toArray, List.set_cons_zero, List.set_cons_succ, Nat.reduceAdd]
              have f11 := hf 11 (by decide) (by kernel_rfl)
              generalize vals 11 = v11 at *
              subst f11
              have f10 := hf 10 (by decide) (by kernel_rfl)
              generalize vals 10 = v10 at *
              subst f10
              clear hf
              have hc1 := cellOf hb1
              have hf1 := frozOf hb1
              have hz1 := sizeOf hb1
              try simp at hz1
              go_wp2_with (fail)
              exact RQ.mk rfl ⟨(by first | rfl | (simp [FS50_6_10]; done) | (simp [FS50_6_10, *]; done) | (simp [FS50_6_10, gotV]; done) | (simp [FS50_6_10, gotV]; omega)), fun h => absurd h (by decide)⟩ (Below.refl _ _)
            | 13, _ =>
              injection ho with ho
              subst ho
              clear hl
              simp only [fillA, List.take, List.drop, put_none, Act.put, List.setIfInBounds_toArray, List.set_cons_zero, List.set_cons_succ, Nat.reduceAdd]
              have f10 := hf 10 (by decide) (by kernel_rfl)
              generalize vals 10 = v10 at *
              subst f10
              clear hf
              go_wp2_with (fail)
              exact RQ.mk rfl ⟨(by first | rfl | (simp [FS50_6_10]; done) | (simp [FS50_6_10, *]; done) | (simp [FS50_6_10, gotV]; done) | (simp [FS50_6_10, gotV]; omega)), fun h => absurd h (by decide)⟩ (Below.refl _ _)
            | 14, _ =>
              injection ho with ho
              subst ho
              clear hl
              simp only [fillA, List.take, List.drop, put_none, Act.put, List.setIfInBounds_toArray, List.set_cons_zero, List.set_cons_succ, Nat.reduceAdd]
              have f13 := hf 13 (by decide) (by kernel_rfl)
              generalize vals 13 = v13 at *
              subst f13
              have f10 := hf 10 (by decide) (by kernel_rfl)
              generalize vals 10 = v10 at *
              subst f10
              clear hf
              go_wp2_with (fail)
              exact RQ.mk rfl ⟨(by first | rfl | (simp [FS50_6_10]; done) | (simp [FS50_6_10, *]; done) | (simp [FS50_6_10, gotV]; done) | (simp [FS50_6_10, gotV]; omega)), fun h => absurd h (by decide)⟩ (Below.refl _ _)
            | 15, _ =>
              injection ho with ho
              subst ho
              clear hl
              simp only [fillA, List.take, List.drop, put_none, Act.put, List.setIfInBounds_toArray, List.set_cons_zero, List.set_cons_succ, Nat.reduceAdd]
              have f12 := hf 12 (by decide) (by kernel_rfl)
              generalize vals 12 = v12 at *
              subst f12
              have f14 := hf 14 (by decide) (by kernel_rfl)
              generalize vals 14 = v14 at *
              subst f14
              have f10 := hf 10 (by decide) (by kernel_rfl)
              generalize vals 10 = v10 at *
              subst f10
              clear hf
              go_wp2_with (fail)
              exact RQ.mk rfl ⟨(by first | rfl | (simp [FS50_6_10]; done) | (simp [FS50_6_10, *]; done) | (simp [FS50_6_10, gotV]; done) | (simp [FS50_6_10, gotV]; omega)), fun h => absurd h (by decide)⟩ (Below.refl _ _)
            | 16, _ =>
              injection ho with ho
              subst ho
              clear hl
              simp only [fillA, List.take, List.drop, put_none, Act.put, List.setIfInBounds_toArray, List.set_cons_zero, List.set_cons_succ, Nat.reduceAdd]
              have f15 := hf 15 (by decide) (by kernel_rfl)
              generalize vals 15 = v15 at *
              subst f15
              have f10 := hf 10 (by decide) (by kernel_rfl)
              generalize vals 10 = v10 at *
              subst f10
              clear hf
              go_wp2_with (fail)
              exact RQ.mk rfl ⟨(by first | rfl | (simp [FS50_6_10]; done) | (simp [FS50_6_10, *]; done) | (simp [FS50_6_10, gotV]; done) | (simp [FS50_6_10, gotV]; omega)), fun h => absurd h (by decide)⟩ (Below.refl _ _)
            | 17, _ =>
              injection ho with ho
              subst ho
              clear hl
              simp only [fillA, List.take, List.drop, put_none, Act.put, List.setIfInBounds_toArray, List.set_cons_zero, List.set_cons_succ, Nat.reduceAdd]
              have f16 := hf 16 (by decide) (by kernel_rfl)
              generalize vals 16 = v16 at *
              subst f16
              have f10 := hf 10 (by decide) (by kernel_rfl)
              generalize vals 10 = v10 at *
              subst f10
              clear hf
              have hc1 := cellOf hb1
              have hf1 := frozOf hb1
              have hz1 := sizeOf hb1
              try simp at hz1
              go_wp2_with (fail)
              exact RQ.mk rfl ⟨(by first | rfl | (simp [FS50_6_10]; done) | (simp [FS50_6_10, *]; done) | (simp [FS50_6_10, gotV]; done) | (simp [FS50_6_10, gotV]; omega)), fun h => absurd h (by decide)⟩ (Below.refl _ _)
            | 18, _ =>
              injection ho with ho
              subst ho
              clear hl
              simp only [fillA, List.take, List.drop, put_none, Act.put, List.setIfInBounds_toArray, List.set_cons_zero, List.set_cons_succ, Nat.reduceAdd]
              have f10 := hf 10 (by decide) (by kernel_rfl)
              generalize vals 10 = v10 at *
              subst f10
              clear hf
              go_wp2_with (fail)
              exact RQ.mk rfl ⟨(by first | rfl | (simp [FS50_6_10]; done) | (simp [FS50_6_10, *]; done) | (simp [FS50_6_10, gotV]; done) | (simp [FS50_6_10, gotV]; omega)), fun h => absurd h (by decide)⟩ (Below.refl _ _)
            | 19, _ =>
              injection ho with ho
              subst ho
              clear hl
              simp only [fillA, List.take, List.drop, put_none, Act.put, List.setIfInBounds_toArray, List.set_cons_zero, List.set_cons_succ, Nat.reduceAdd]
              have f18 := hf 18 (by decide) (by kernel_rfl)
              generalize vals 18 = v18 at *
              subst f18
              have f10 := hf 10 (by decide) (by kernel_rfl)
              generalize vals 10 = v10 at *
              subst f10
              clear hf
              have hc1 := cellOf hb1
              have hf1 := frozOf hb1
              have hz1 := sizeOf hb1
              try simp at hz1
              go_wp2_with (fail)
              exact RQ.mk rfl ⟨(by first | rfl | (simp [FS50_6_10]; done) | (simp [FS50_6_10, *]; done) | (simp [FS50_6_10, gotV]; done) | (simp [FS50_6_10, gotV]; omega)), fun h => absurd h (by decide)⟩ (Below.refl _ _)
            | 20, _ =>
              injection ho with ho
              subst ho
              clear hl
              simp only [fillA, List.take, List.drop, put_none, Act.put, List.setIfInBounds_toArray, List.set_cons_zero, List.set_cons_succ, Nat.reduceAdd]
              have f10 := hf 10 (by decide) (by kernel_rfl)
              generalize vals 10 = v10 at *
              subst f10
              clear hf
              go_wp2_with (fail)
              exact RQ.mk rfl ⟨(by first | rfl | (simp [FS50_6_10]; done) | (simp [FS50_6_10, *]; done) | (simp [FS50_6_10, gotV]; done) | (simp [FS50_6_10, gotV]; omega)), fun h => absurd h (by decide)⟩ (Below.refl _ _)
            | 21, _ =>
              injection ho with ho
              subst ho
              clear hl
              simp only [fillA, List.take, List.drop, put_none, Act.put, List.setIfInBounds_toArray, List.set_cons_zero, List.set_cons_succ, Nat.reduceAdd]
              have f19 := hf 19 (by decide) (by kernel_rfl)
              generalize vals 19 = v19 at *
              subst f19
              have f20 := hf 20 (by decide) (by kernel_rfl)
              generalize vals 20 = v20 at *
              subst f20
              have f10 := hf 10 (by decide) (by kernel_rfl)
              generalize vals 10 = v10 at *
              subst f10
              clear hf
              go_wp2_with (fail)
              exact RQ.mk rfl ⟨(by first | rfl | (simp [FS50_6_10]; done) | (simp [FS50_6_10, *]; done) | (simp [FS50_6_10, gotV]; done) | (simp [FS50_6_10, gotV]; omega)), fun h => absurd h (by decide)⟩ (Below.refl _ _)
            | 22, _ =>
              injection ho with ho
              subst ho
              clear hl
              simp only [fillA, List.take, List.drop, put_none, Act.put, List.setIfInBounds_toArray, List.set_cons_zero, List.set_cons_succ, Nat.reduceAdd]
              have f21 := hf 21 (by decide) (by kernel_rfl)
              generalize vals 21 = v21 at *
              subst f21
              have f10 := hf 10 (by decide) (by kernel_rfl)
              generalize vals 10 = v10 at *
              subst f10
              clear hf
              go_wp2_with (fail)
              exact RQ.mk rfl ⟨(by first | rfl | (simp [FS50_6_10]; done) | (simp [FS50_6_10, *]; done) | (simp [FS50_6_10, gotV]; done) | (simp [FS50_6_10, gotV]; omega)), fun h => absurd h (by decide)⟩ (Below.refl _ _)
            | 23, _ =>
              injection ho with ho
              subst ho
              clear hl
              simp only [fillA, List.take, List.drop, put_none, Act.put, List.setIfInBounds_toArray, List.set_cons_zero, List.set_cons_succ, Nat.reduceAdd]
              have f22 := hf 22 (by decide) (by kernel_rfl)
              generalize vals 22 = v22 at *
              subst f22
              have f10 := hf 10 (by decide) (by kernel_rfl)
              generalize vals 10 = v10 at *
              subst f10
              clear hf
              have hc1 := cellOf hb1
              have hf1 := frozOf hb1
              have hz1 := sizeOf hb1
              try simp at hz1
              go_wp2_with (fail)
              exact RQ.mk rfl ⟨(by first | rfl | (simp [FS50_6_10]; done) | (simp [FS50_6_10, *]; done) | (simp [FS50_6_10, gotV]; done) | (simp [FS50_6_10, gotV]; omega)), fun h => absurd h (by decide)⟩ (Below.refl _ _)
            | 24, _ =>
              injection ho with ho
              subst ho
              clear hl
              simp only [fillA, List.take, List.drop, put_none, Act.put, List.setIfInBounds_toArray, List.set_cons_zero, List.set_cons_succ, Nat.reduceAdd]
              have f17 := hf 17 (by decide) (by kernel_rfl)
              generalize vals 17 = v17 at *
              subst f17
              have f23 := hf 23 (by decide) (by kernel_rfl)
              generalize vals 23 = v23 at *
              subst f23
              have f10 := hf 10 (by decide) (by kernel_rfl)
              generalize vals 10 = v10 at *
              subst f10
              clear hf
              go_wp2_with (fail)
              exact RQ.mk rfl ⟨(by first | rfl | (simp [FS50_6_10]; done) | (simp [FS50_6_10, *]; done) | (simp [FS50_6_10, gotV]; done) | (simp [FS50_6_10, gotV]; omega)), fun h => absurd h (by decide)⟩ (Below.refl _ _)
            | 25, _ =>
              injection ho with ho
              subst ho
              clear hl
              simp only [fillA, List.take, List.drop, put_none, Act.put, List.setIfInBounds_toArray, List.set_cons_zero, List.set_cons_succ, Nat.reduceAdd]
              have f10 := hf 10 (by decide) (by kernel_rfl)
              generalize vals 10 = v10 at *
              subst f10
              have f24 := hf 24 (by decide) (by kernel_rfl)
              generalize vals 24 = v24 at *
              subst f24
              have f7 := hf 7 (by decide) (by kernel_rfl)
              generalize vals 7 = v7 at *
              subst f7
              clear hf
              go_wp2_with (fail)
              exact RQ.mk rfl ⟨(by first | rfl | (simp [FS50_6_10]; done) | (simp [FS50_6_10, *]; done) | (simp [FS50_6_10, gotV]; done) | (simp [FS50_6_10, gotV]; omega)), fun h => absurd h (by decide)⟩ (Below.refl _ _)
            | 26, _ =>
              injection ho with ho
              subst ho
              clear hl
              simp only [fillA, List.take, List.drop, put_none, Act.put, List.setIfInBounds_toArray, List.set_cons_zero, List.set_cons_succ, Nat.reduceAdd]
              have f7 := hf 7 (by decide) (by kernel_rfl)
              generalize vals 7 = v7 at *
              subst f7
              have f25 := hf 25 (by decide) (by kernel_rfl)
              generalize vals 25 = v25 at *
              subst f25
              clear hf
              go_wp2_with (fail)
              exact RQ.mk rfl ⟨(by first | rfl | (simp [FS50_6_10]; done) | (simp [FS50_6_10, *]; done) | (simp [FS50_6_10, gotV]; done) | (simp [FS50_6_10, gotV]; omega)), fun h => absurd h (by decide)⟩ (Below.refl _ _)
            | m + 27, h => exact absurd h (by omega)
          · intro vals w1 hb1 hf hd
            simp only [fillA, List.take, List.drop, put_none, Act.put, List.setIfInBounds_toArray, List.set_cons_zero, List.set_cons_succ, Nat.reduceAdd]
            clear hd
            have f0 := hf 0 (by decide)
            generalize vals 0 = v0 at *
            subst f0
            have f1 := hf 1 (by decide)
            generalize vals 1 = v1 at *
            subst f1
            have f2 := hf 2 (by decide)
            generalize vals 2 = v2 at *
            subst f2
            have f3 := hf 3 (by decide)
            generalize vals 3 = v3 at *
            subst f3
            have f4 := hf 4 (by decide)
            generalize vals 4 = v4 at *
            subst f4
            have f5 := hf 5 (by decide)
            generalize vals 5 = v5 at *
            subst f5
            have f6 := hf 6 (by decide)
            generalize vals 6 = v6 at *
            subst f6
            have f7 := hf 7 (by decide)
            generalize vals 7 = v7 at *
            subst f7
            have f8 := hf 8 (by decide)
            generalize vals 8 = v8 at *
            subst f8
            have f9 := hf 9 (by decide)
            generalize vals 9 = v9 at *
            subst f9
            have f10 := hf 10 (by decide)
            generalize vals 10 = v10 at *
            subst f10
            have f11 := hf 11 (by decide)
            generalize vals 11 = v11 at *
            subst f11
            have f12 := hf 12 (by decide)
            generalize vals 12 = v12 at *
            subst f12
            have f13 := hf 13 (by decide)
            generalize vals 13 = v13 at *
            subst f13
            have f14 := hf 14 (by decide)
            generalize vals 14 = v14 at *
            subst f14
            have f15 := hf 15 (by decide)
            generalize vals 15 = v15 at *
            subst f15
            have f16 := hf 16 (by decide)
            generalize vals 16 = v16 at *
            subst f16
            have f17 := hf 17 (by decide)
            generalize vals 17 = v17 at *
            subst f17
            have f18 := hf 18 (by decide)
            generalize vals 18 = v18 at *
            subst f18
            have f19 := hf 19 (by decide)
            generalize vals 19 = v19 at *
            subst f19
            have f20 := hf 20 (by decide)
            generalize vals 20 = v20 at *
            subst f20
            have f21 := hf 21 (by decide)
            generalize vals 21 = v21 at *
            subst f21
            have f22 := hf 22 (by decide)
            generalize vals 22 = v22 at *
            subst f22
            have f23 := hf 23 (by decide)
            generalize vals 23 = v23 at *
            subst f23
            have f24 := hf 24 (by decide)
            generalize vals 24 = v24 at *
            subst f24
            have f25 := hf 25 (by decide)
            generalize vals 25 = v25 at *
            subst f25
            have f26 := hf 26 (by decide)
            generalize vals 26 = v26 at *
            subst f26
            clear hf
            have hc1 := cellOf hb1
            have hf1 := frozOf hb1
            have hz1 := sizeOf hb1
            try simp at hz1
            go_wp2_with (fail)
            go_ret
            exact ⟨ret_bool (by rw [brB, HB.out (by rw [HV.out, HG.out, H2.out]; rfl)]; simp), by (repeat' (first | exact Below.refl _ _ | assumption | refine Below.setCell ?_ ?_ _ | refine Below.drew ?_ | refine Below.alloc ?_ ?_ _ | refine Below.trans ?_ (Below.mono (by assumption) ?_) | (simp; done) | (simp; omega) | omega))⟩
    · obtain rfl : k = xs.length := by omega
      have hp0' : far wr w.heap.size 0 = _ := hp0
      have hp1' : far wr w.heap.size 1 = _ := hp1
      have HD := hid (vB_all (good := ivOk) (lt := ivLt) (n := 6) hl)
      go_wp2_with (first | (go_at_call 81; refine (c_spec_l1In _ _ _ _ ).mono ?_; rintro e w' ⟨rfl, hb⟩; have hc := cellOf hb; have hf := frozOf hb; have hz := sizeOf hb; try simp at hz))
      all_goals go_ret
      all_goals exact ⟨ret_bool (by rw [brB, HD.out]; simp [*]; try omega), by (repeat' (first | exact Below.refl _ _ | assumption | refine Below.setCell ?_ ?_ _ | refine Below.drew ?_ | refine Below.alloc ?_ ?_ _ | refine Below.trans ?_ (Below.mono (by assumption) ?_) | (simp; done) | (simp; omega) | omega))⟩

end Go.Proofs.Yteciijnpfapmhaa
namespace Go.Proofs.Yteciijnpfapmhaa
set_option linter.unusedSimpArgs false
set_option linter.unusedVariables false
open Go.RowKit

def FS56_6 (d t : Int) (x : Int × Int) (bx ox k n0 cap : Nat) (w W0 : World) (iq : Nat) (v : Value) (w1 : World) : Prop := match iq with
  | 0 => v = .int .i64 (t)
  | 1 => v = .pointer (some ⟨w.heap.size, 1, none⟩)
  | 2 => v = .slice (some ⟨bx, ox, none⟩) n0 cap
  | 3 => v = .int .i64 (k)
  | 4 => v = .pointer (some ⟨bx, ox + k * 2, none⟩)
  | 5 => v = .pointer (some ⟨bx, ox + k * 2 + 1, none⟩)
  | 6 => v = .int .i64 (x.2)
  | 7 => v = .bool (false)
  | 8 => v = .bool (false)
  | 9 => v = undef
  | 10 => v = undef
  | 11 => v = undef
  | 12 => v = undef
  | 13 => v = undef
  | 14 => v = undef
  | 15 => v = undef
  | 16 => v = undef
  | 17 => v = undef
  | 18 => v = undef
  | 19 => v = undef
  | 20 => v = undef
  | 21 => v = .bool (false)
  | _ => True

def FS56_6_12 (d t : Int) (x : Int × Int) (bx ox k n0 cap : Nat) (w W0 : World) (iq : Nat) (v : Value) (w1 : World) : Prop := match iq with
  | 0 => v = .int .i64 (t)
  | 1 => v = .pointer (some ⟨w.heap.size, 1, none⟩)
  | 2 => v = .slice (some ⟨bx, ox, none⟩) n0 cap
  | 3 => v = .int .i64 (k)
  | 4 => v = .pointer (some ⟨bx, ox + k * 2, none⟩)
  | 5 => v = .pointer (some ⟨bx, ox + k * 2 + 1, none⟩)
  | 6 => v = .int .i64 (x.2)
  | 7 => v = .bool (true)
  | 8 => v = .bool (true)
  | 9 => v = .pointer (some ⟨w.heap.size, 1, none⟩)
  | 10 => v = .slice (some ⟨bx, ox, none⟩) n0 cap
  | 11 => v = .int .i64 (k)
  | 12 => v = .pointer (some ⟨bx, ox + k * 2, none⟩)
  | 13 => v = .pointer (some ⟨bx, ox + k * 2, none⟩)
  | 14 => v = .int .i64 (x.1)
  | 15 => v = .int .i64 (t)
  | 16 => v = .pointer (some ⟨w.heap.size, 0, none⟩)
  | 17 => v = .int .i64 (d)
  | 18 => v = .int .i64 (t + d)
  | 19 => v = .int .i64 ((t + d) - 1)
  | 20 => v = .bool (false)
  | 21 => v = .bool (false)
  | _ => True

def FS56_6_13 (d t : Int) (x : Int × Int) (bx ox k n0 cap : Nat) (w W0 : World) (iq : Nat) (v : Value) (w1 : World) : Prop := match iq with
  | 0 => v = .int .i64 (t)
  | 1 => v = .pointer (some ⟨w.heap.size, 1, none⟩)
  | 2 => v = .slice (some ⟨bx, ox, none⟩) n0 cap
  | 3 => v = .int .i64 (k)
  | 4 => v = .pointer (some ⟨bx, ox + k * 2, none⟩)
  | 5 => v = .pointer (some ⟨bx, ox + k * 2 + 1, none⟩)
  | 6 => v = .int .i64 (x.2)
  | 7 => v = .bool (true)
  | 8 => v = .bool (true)
  | 9 => v = .pointer (some ⟨w.heap.size, 1, none⟩)
  | 10 => v = .slice (some ⟨bx, ox, none⟩) n0 cap
  | 11 => v = .int .i64 (k)
  | 12 => v = .pointer (some ⟨bx, ox + k * 2, none⟩)
  | 13 => v = .pointer (some ⟨bx, ox + k * 2, none⟩)
  | 14 => v = .int .i64 (x.1)
  | 15 => v = .int .i64 (t)
  | 16 => v = .pointer (some ⟨w.heap.size, 0, none⟩)
  | 17 => v = .int .i64 (d)
  | 18 => v = .int .i64 (t + d)
  | 19 => v = .int .i64 ((t + d) - 1)
  | 20 => v = .bool (true)
  | 21 => v = .bool (true)
  | _ => True

set_option maxRecDepth 100000 in
set_option maxHeartbeats 4000000 in
theorem c_spec_l15May (d : Int) (A : Option Addr) (xs : List (Int × Int)) (n cap : Nat) (t : Int) (w : World) (hx : Rds cIv 2 w A xs) (hxl : xs.length = n) (hn : xs.length ≤ 9223372036854775807) (hok : ∀ k (hk : k < xs.length), ivP xs[k]) (hd : 1 ≤ d ∧ d ≤ 30) :
    Calls Try.prog 56 #[.agg #[.int .i64 d, .slice A n cap], .int .i64 t] w fun e w' => e = .returned (.bool (mayB d xs t)) ∧ Below w.heap.size w w' := by
  subst hxl
  by_cases hs0 : 0 ≤ t
  rotate_left
  · have HV := hid (show mayB d xs t = false by simp [mayB, hs0])
    go_enter Try.func56, Try.ntmps56
    go_wp2_with (fail)
    all_goals go_ret
    all_goals exact ⟨by first | (rw [HV.out]; done) | (rw [HV.out]; rfl), by (repeat' (first | exact Below.refl _ _ | assumption | refine Below.setCell ?_ ?_ _ | refine Below.drew ?_ | refine Below.alloc ?_ ?_ _ | refine Below.trans ?_ (Below.mono (by assumption) ?_) | (simp; done) | (simp; omega) | omega))⟩
  by_cases hs1 : t + d ≤ 10000
  rotate_left
  · have HV := hid (show mayB d xs t = false by simp [mayB, hs1])
    go_enter Try.func56, Try.ntmps56
    go_wp2_with (fail)
    all_goals go_ret
    all_goals exact ⟨by first | (rw [HV.out]; done) | (rw [HV.out]; rfl), by (repeat' (first | exact Below.refl _ _ | assumption | refine Below.setCell ?_ ?_ _ | refine Below.drew ?_ | refine Below.alloc ?_ ?_ _ | refine Below.trans ?_ (Below.mono (by assumption) ?_) | (simp; done) | (simp; omega) | omega))⟩
  go_enter Try.func56, Try.ntmps56
  go_wp2_with (fail)
  go_loopw [5] (fun p wr => ∃ k : Nat, k ≤ xs.length ∧ p = .int .i64 k ∧ (xs.take k).any (hitI t d) = false ∧ wr.cell? ⟨w.heap.size, 0, none⟩ = some (.int .i64 d) ∧ wr.cell? ⟨w.heap.size, 1, none⟩ = some (.slice A xs.length cap) ∧ w.heap.size + 1 ≤ wr.heap.size ∧ Below w.heap.size w wr) (fun p _ => xs.length - (intOf p).toNat)
  case atStart =>
    refine ⟨0, Nat.zero_le _, rfl, rfl, ?_, ?_, ?_, by (repeat' (first | exact Below.refl _ _ | assumption | refine Below.setCell ?_ ?_ _ | refine Below.drew ?_ | refine Below.alloc ?_ ?_ _ | refine Below.trans ?_ (Below.mono (by assumption) ?_) | (simp; done) | (simp; omega) | omega))⟩
    all_goals first | (simp [go_sem, ↓IntWalk.iteOmega, *]; done) | (simp at *; omega)
  case round =>
    obtain ⟨k, hk, rfl, hme, hp0, hp1, hzz, hbr⟩ := hrel
    have hc := cellOf hbr
    have hf := frozOf hbr
    have hz := sizeOf hbr
    have HM := hid hme
    clear hme
    by_cases hlt : k < xs.length
    · obtain ⟨bx, ox, rfl, hbx, hcx⟩ := hx k xs[k] (List.getElem?_eq_getElem hlt)
      have hp0' : far wr w.heap.size 0 = _ := hp0
      have hp1' : far wr w.heap.size 1 = _ := hp1
      have hx0 := hcx 0 _ rfl
      have hx1 := hcx 1 _ rfl
      simp only [Nat.add_zero] at hx0
      have hxb := hok k hlt
      unfold ivP at hxb
      have HS := hid (any_snoc (hitI t d) xs k hlt)
      have HT := hid (fun e => any_hit (p := hitI t d) hlt e)
      clear hcx hx hok
      generalize xs[k] = x at *
      by_cases h1 : t ≤ x.2
      rotate_left
      · have HN := hid (show hitI t d x = false by simp [hitI, h1])
        clear HT
        go_wp2_with (fail)
        refine wp_region_w (n := 22) [] [] (FS56_6 d t x bx ox k xs.length cap w) rfl (by kernel_rfl) (fun _ _ d _ _ h => by cases d <;> exact h) ?_ ?_ ?_ ?_ ?_ ?_
        · intro iq
          match iq with
          | 0 | 1 | 2 | 3 | 4 | 5 | 6 | 7 | 8 | 9 | 10 | 11 | 12 | 13 | 14 | 15 | 16 | 17 | 18 | 19 | 20 | 21 => exact Stable.const _
          | n + 22 => exact Stable.const _
        · intro iq hi
          exact absurd hi (by simp)
        · intro iq hi
          exact absurd hi (by simp)
        · intro iq o hi hl ho vals w1 hb1 hf
          exact absurd hl (by simp)
        · intro iq o hi hl ho vals w1 hb1 hf
          match iq, hi with
          | 0, _ =>
            injection ho with ho
            subst ho
            clear hl
            simp only [fillA, List.take, List.drop, put_none, Act.put, List.setIfInBounds_toArray, List.set_cons_zero, List.set_cons_succ, Nat.reduceAdd]
            clear hf
            go_wp2_with (fail)
            exact RQ.mk rfl ⟨(by first | rfl | (simp [FS56_6]; done) | (simp [FS56_6, *]; done) | (simp [FS56_6, gotV]; done) | (simp [FS56_6, gotV]; omega)), fun h => absurd h (by decide)⟩ (Below.refl _ _)
          | 1, _ =>
            injection ho with ho
            subst ho
            clear hl
            simp only [fillA, List.take, List.drop, put_none, Act.put, List.setIfInBounds_toArray, List.set_cons_zero, List.set_cons_succ, Nat.reduceAdd]
            clear hf
            go_wp2_with (fail)
            exact RQ.mk rfl ⟨(by first | rfl | (simp [FS56_6]; done) | (simp [FS56_6, *]; done) | (simp [FS56_6, gotV]; done) | (simp [FS56_6, gotV]; omega)), fun h => absurd h (by decide)⟩ (Below.refl _ _)
          | 2, _ =>
            injection ho with ho
            subst ho
            clear hl
            simp only [fillA, List.take, List.drop, put_none, Act.put, List.setIfInBounds_toArray, List.set_cons_zero, List.set_cons_succ, Nat.reduceAdd]
            have f1 := hf 1 (by decide) (by kernel_rfl)
            generalize vals 1 = v1 at *
            subst f1
            clear hf
            have hc1 := cellOf hb1
            have hf1 := frozOf hb1
            have hz1 := sizeOf hb1
            try simp at hz1
            go_wp2_with (fail)
            exact RQ.mk rfl ⟨(by first | rfl | (simp [FS56_6]; done) | (simp [FS56_6, *]; done) | (simp [FS56_6, gotV]; done) | (simp [FS56_6, gotV]; omega)), fun h => absurd h (by decide)⟩ (Below.refl _ _)
          | 3, _ =>
            injection ho with ho
            subst ho
            clear hl
            simp only [fillA, List.take, List.drop, put_none, Act.put, List.setIfInBounds_toArray, List.set_cons_zero, List.set_cons_succ, Nat.reduceAdd]
            clear hf
            go_wp2_with (fail)
            exact RQ.mk rfl ⟨(by first | rfl | (simp [FS56_6]; done) | (simp [FS56_6, *]; done) | (simp [FS56_6, gotV]; done) | (simp [FS56_6, gotV]; omega)), fun h => absurd h (by decide)⟩ (Below.refl _ _)
          | 4, _ =>
            injection ho with ho
            subst ho
            clear hl
            simp only [fillA, List.take, List.drop, put_none, Act.put, List.setIfInBounds_toArray, List.set_cons_zero, List.set_cons_succ, Nat.reduceAdd]
            have f2 := hf 2 (by decide) (by kernel_rfl)
            generalize vals 2 = v2 at *
            subst f2
            have f3 := hf 3 (by decide) (by kernel_rfl)
            generalize vals 3 = v3 at *
            subst f3
            clear hf
            go_wp2_with (fail)
            exact RQ.mk rfl ⟨(by first | rfl | (simp [FS56_6]; done) | (simp [FS56_6, *]; done) | (simp [FS56_6, gotV]; done) | (simp [FS56_6, gotV]; omega)), fun h => absurd h (by decide)⟩ (Below.refl _ _)
          | 5, _ =>
            injection ho with ho
            subst ho
            clear hl
            simp only [fillA, List.take, List.drop, put_none, Act.put, List.setIfInBounds_toArray, List.set_cons_zero, List.set_cons_succ, Nat.reduceAdd]
            have f4 := hf 4 (by decide) (by kernel_rfl)
            generalize vals 4 = v4 at *
            subst f4
            clear hf
            go_wp2_with (fail)
            exact RQ.mk rfl ⟨(by first | rfl | (simp [FS56_6]; done) | (simp [FS56_6, *]; done) | (simp [FS56_6, gotV]; done) | (simp [FS56_6, gotV]; omega)), fun h => absurd h (by decide)⟩ (Below.refl _ _)
          | 6, _ =>
            injection ho with ho
            subst ho
            clear hl
            simp only [fillA, List.take, List.drop, put_none, Act.put, List.setIfInBounds_toArray, List.set_cons_zero, List.set_cons_succ, Nat.reduceAdd]
            have f5 := hf 5 (by decide) (by kernel_rfl)
            generalize vals 5 = v5 at *
            subst f5
            clear hf
            have hc1 := cellOf hb1
            have hf1 := frozOf hb1
            have hz1 := sizeOf hb1
            try simp at hz1
            go_wp2_with (fail)
            exact RQ.mk rfl ⟨(by first | rfl | (simp [FS56_6]; done) | (simp [FS56_6, *]; done) | (simp [FS56_6, gotV]; done) | (simp [FS56_6, gotV]; omega)), fun h => absurd h (by decide)⟩ (Below.refl _ _)
          | 7, _ =>
            injection ho with ho
            subst ho
            clear hl
            simp only [fillA, List.take, List.drop, put_none, Act.put, List.setIfInBounds_toArray, List.set_cons_zero, List.set_cons_succ, Nat.reduceAdd]
            have f0 := hf 0 (by decide) (by kernel_rfl)
            generalize vals 0 = v0 at *
            subst f0
            have f6 := hf 6 (by decide) (by kernel_rfl)
            generalize vals 6 = v6 at *
            subst f6
            clear hf
            go_wp2_with (fail)
            exact RQ.mk rfl ⟨(by first | rfl | (simp [FS56_6]; done) | (simp [FS56_6, *]; done) | (simp [FS56_6, gotV]; done) | (simp [FS56_6, gotV]; omega)), fun h => absurd h (by decide)⟩ (Below.refl _ _)
          | 8, _ =>
            injection ho with ho
            subst ho
            clear hl
            simp only [fillA, List.take, List.drop, put_none, Act.put, List.setIfInBounds_toArray, List.set_cons_zero, List.set_cons_succ, Nat.reduceAdd]
            have f7 := hf 7 (by decide) (by kernel_rfl)
            generalize vals 7 = v7 at *
            subst f7
            clear hf
            go_wp2_with (fail)
            exact RQ.mk rfl ⟨(by first | rfl | (simp [FS56_6]; done) | (simp [FS56_6, *]; done) | (simp [FS56_6, gotV]; done) | (simp [FS56_6, gotV]; omega)), fun h => absurd h (by decide)⟩ (Below.refl _ _)
          | 9, _ =>
            injection ho with ho
            subst ho
            clear hl
            simp only [fillA, List.take, List.drop, put_none, Act.put, List.setIfInBounds_toArray, List.set_cons_zero, List.set_cons_succ, Nat.reduceAdd]
            have f8 := hf 8 (by decide) (by kernel_rfl)
            generalize vals 8 = v8 at *
            subst f8
            clear hf
            go_wp2_with (fail)
            exact RQ.mk rfl ⟨(by first | rfl | (simp [FS56_6]; done) | (simp [FS56_6, *]; done) | (simp [FS56_6, gotV]; done) | (simp [FS56_6, gotV]; omega)), fun h => absurd h (by decide)⟩ (Below.refl _ _)
          | 10, _ =>
            injection ho with ho
            subst ho
            clear hl
            simp only [fillA, List.take, List.drop, put_none, Act.put, List.setIfInBounds_toArray, List.set_cons_zero, List.set_cons_succ, Nat.reduceAdd]
            have f9 := hf 9 (by decide) (by kernel_rfl)
            generalize vals 9 = v9 at *
            subst f9
            have f8 := hf 8 (by decide) (by kernel_rfl)
            generalize vals 8 = v8 at *
            subst f8
            clear hf
            go_wp2_with (fail)
            exact RQ.mk rfl ⟨(by first | rfl | (simp [FS56_6]; done) | (simp [FS56_6, *]; done) | (simp [FS56_6, gotV]; done) | (simp [FS56_6, gotV]; omega)), fun h => absurd h (by decide)⟩ (Below.refl _ _)
          | 11, _ =>
            injection ho with ho
            subst ho
            clear hl
            simp only [fillA, List.take, List.drop, put_none, Act.put, List.setIfInBounds_toArray, List.set_cons_zero, List.set_cons_succ, Nat.reduceAdd]
            have f8 := hf 8 (by decide) (by kernel_rfl)
            generalize vals 8 = v8 at *
            subst f8
            clear hf
            go_wp2_with (fail)
            exact RQ.mk rfl ⟨(by first | rfl | (simp [FS56_6]; done) | (simp [FS56_6, *]; done) | (simp [FS56_6, gotV]; done) | (simp [FS56_6, gotV]; omega)), fun h => absurd h (by decide)⟩ (Below.refl _ _)
          | 12, _ =>
            injection ho with ho
            subst ho
            clear hl
            simp only [fillA, List.take, List.drop, put_none, Act.put, List.setIfInBounds_toArray, List.set_cons_zero, List.set_cons_succ, Nat.reduceAdd]
            have f10 := hf 10 (by decide) (by kernel_rfl)
            generalize vals 10 = v10 at *
            subst f10
            have f11 := hf 11 (by decide) (by kernel_rfl)
            generalize vals 11 = v11 at *
            subst f11
            have f8 := hf 8 (by decide) (by kernel_rfl)
            generalize vals 8 = v8 at *
            subst f8
            clear hf
            go_wp2_with (fail)
            exact RQ.mk rfl ⟨(by first | rfl | (simp [FS56_6]; done) | (simp [FS56_6, *]; done) | (simp [FS56_6, gotV]; done) | (simp [FS56_6, gotV]; omega)), fun h => absurd h (by decide)⟩ (Below.refl _ _)
          | 13, _ =>
            injection ho with ho
            subst ho
            clear hl
            simp only [fillA, List.take, List.drop, put_none, Act.put, List.setIfInBounds_toArray, List.set_cons_zero, List.set_cons_succ, Nat.reduceAdd]
            have f12 := hf 12 (by decide) (by kernel_rfl)
            generalize vals 12 = v12 at *
            subst f12
            have f8 := hf 8 (by decide) (by kernel_rfl)
            generalize vals 8 = v8 at *
            subst f8
            clear hf
            go_wp2_with (fail)
            exact RQ.mk rfl ⟨(by first | rfl | (simp [FS56_6]; done) | (simp [FS56_6, *]; done) | (simp [FS56_6, gotV]; done) | (simp [FS56_6, gotV]; omega)), fun h => absurd h (by decide)⟩ (Below.refl _ _)
          | 14, _ =>
            injection ho with ho
            subst ho
            clear hl
            simp only [fillA, List.take, List.drop, put_none, Act.put, List.setIfInBounds_toArray, List.set_cons_zero, List.set_cons_succ, Nat.reduceAdd]
            have f13 := hf 13 (by decide) (by kernel_rfl)
            generalize vals 13 = v13 at *
            subst f13
            have f8 := hf 8 (by decide) (by kernel_rfl)
            generalize vals 8 = v8 at *
            subst f8
            clear hf
            go_wp2_with (fail)
            exact RQ.mk rfl ⟨(by first | rfl | (simp [FS56_6]; done) | (simp [FS56_6, *]; done) | (simp [FS56_6, gotV]; done) | (simp [FS56_6, gotV]; omega)), fun h => absurd h (by decide)⟩ (Below.refl _ _)
          | 15, _ =>
            injection ho with ho
            subst ho
            clear hl
            simp only [fillA, List.take, List.drop, put_none, Act.put, List.setIfInBounds_toArray, List.set_cons_zero, List.set_cons_succ, Nat.reduceAdd]
            have f8 := hf 8 (by decide) (by kernel_rfl)
            generalize vals 8 = v8 at *
            subst f8
            clear hf
            go_wp2_with (fail)
            exact RQ.mk rfl ⟨(by first | rfl | (simp [FS56_6]; done) | (simp [FS56_6, *]; done) | (simp [FS56_6, gotV]; done) | (simp [FS56_6, gotV]; omega)), fun h => absurd h (by decide)⟩ (Below.refl _ _)
          | 16, _ =>
            injection ho with ho
            subst ho
            clear hl
            simp only [fillA, List.take, List.drop, put_none, Act.put, List.setIfInBounds_toArray, List.set_cons_zero, List.set_cons_succ, Nat.reduceAdd]
            have f8 := hf 8 (by decide) (by kernel_rfl)
            generalize vals 8 = v8 at *
            subst f8
            clear hf
            go_wp2_with (fail)
            exact RQ.mk rfl ⟨(by first | rfl | (simp [FS56_6]; done) | (simp [FS56_6, *]; done) | (simp [FS56_6, gotV]; done) | (simp [FS56_6, gotV]; omega)), fun h => absurd h (by decide)⟩ (Below.refl _ _)
          | 17, _ =>
            injection ho with ho
            subst ho
            clear hl
            simp only [fillA, List.take, List.drop, put_none, Act.put, List.setIfInBounds_toArray, List.set_cons_zero, List.set_cons_succ, Nat.reduceAdd]
            have f16 := hf 16 (by decide) (by kernel_rfl)
            generalize vals 16 = v16 at *
            subst f16
            have f8 := hf 8 (by decide) (by kernel_rfl)
            generalize vals 8 = v8 at *
            subst f8
            clear hf
            go_wp2_with (fail)
            exact RQ.mk rfl ⟨(by first | rfl | (simp [FS56_6]; done) | (simp [FS56_6, *]; done) | (simp [FS56_6, gotV]; done) | (simp [FS56_6, gotV]; omega)), fun h => absurd h (by decide)⟩ (Below.refl _ _)
          | 18, _ =>
            injection ho with ho
            subst ho
            clear hl
            simp only [fillA, List.take, List.drop, put_none, Act.put, List.setIfInBounds_toArray, List.set_cons_zero, List.set_cons_succ, Nat.reduceAdd]
            have f15 := hf 15 (by decide) (by kernel_rfl)
            generalize vals 15 = v15 at *
            subst f15
            have f17 := hf 17 (by decide) (by kernel_rfl)
            generalize vals 17 = v17 at *
            subst f17
            have f8 := hf 8 (by decide) (by kernel_rfl)
            generalize vals 8 = v8 at *
            subst f8
            clear hf
            go_wp2_with (fail)
            exact RQ.mk rfl ⟨(by first | rfl | (simp [FS56_6]; done) | (simp [FS56_6, *]; done) | (simp [FS56_6, gotV]; done) | (simp [FS56_6, gotV]; omega)), fun h => absurd h (by decide)⟩ (Below.refl _ _)
          | 19, _ =>
            injection ho with ho
            subst ho
            clear hl
            simp only [fillA, List.take, List.drop, put_none, Act.put, List.setIfInBounds_toArray, List.set_cons_zero, List.set_cons_succ, Nat.reduceAdd]
            have f18 := hf 18 (by decide) (by kernel_rfl)
            generalize vals 18 = v18 at *
            subst f18
            have f8 := hf 8 (by decide) (by kernel_rfl)
            generalize vals 8 = v8 at *
            subst f8
            clear hf
            go_wp2_with (fail)
            exact RQ.mk rfl ⟨(by first | rfl | (simp [FS56_6]; done) | (simp [FS56_6, *]; done) | (simp [FS56_6, gotV]; done) | (simp [FS56_6, gotV]; omega)), fun h => absurd h (by decide)⟩ (Below.refl _ _)
          | 20, _ =>
            injection ho with ho
            subst ho
            clear hl
            simp only [fillA, List.take, List.drop, put_none, Act.put, List.setIfInBounds_toArray, List.set_cons_zero, List.set_cons_succ, Nat.reduceAdd]
            have f14 := hf 14 (by decide) (by kernel_rfl)
            generalize vals 14 = v14 at *
            subst f14
            have f19 := hf 19 (by decide) (by kernel_rfl)
            generalize vals 19 = v19 at *
            subst f19
            have f8 := hf 8 (by decide) (by kernel_rfl)
            generalize vals 8 = v8 at *
            subst f8
            clear hf
            go_wp2_with (fail)
            exact RQ.mk rfl ⟨(by first | rfl | (simp [FS56_6]; done) | (simp [FS56_6, *]; done) | (simp [FS56_6, gotV]; done) | (simp [FS56_6, gotV]; omega)), fun h => absurd h (by decide)⟩ (Below.refl _ _)
          | 21, _ =>
            injection ho with ho
            subst ho
            clear hl
            simp only [fillA, List.take, List.drop, put_none, Act.put, List.setIfInBounds_toArray, List.set_cons_zero, List.set_cons_succ, Nat.reduceAdd]
            have f8 := hf 8 (by decide) (by kernel_rfl)
            generalize vals 8 = v8 at *
            subst f8
            have f20 := hf 20 (by decide) (by kernel_rfl)
            generalize vals 20 = v20 at *
            subst f20
            clear hf
            go_wp2_with (fail)
            exact RQ.mk rfl ⟨(by first | rfl | (simp [FS56_6]; done) | (simp [FS56_6, *]; done) | (simp [FS56_6, gotV]; done) | (simp [FS56_6, gotV]; omega)), fun h => absurd h (by decide)⟩ (Below.refl _ _)
          | m + 22, h => exact absurd h (by omega)
        · intro vals w1 hb1 hf hd
          simp only [fillA, List.take, List.drop, put_none, Act.put, List.setIfInBounds_toArray, List.set_cons_zero, List.set_cons_succ, Nat.reduceAdd]
          clear hd
          have f0 := hf 0 (by decide)
          generalize vals 0 = v0 at *
          subst f0
          have f1 := hf 1 (by decide)
          generalize vals 1 = v1 at *
          subst f1
          have f2 := hf 2 (by decide)
          generalize vals 2 = v2 at *
          subst f2
          have f3 := hf 3 (by decide)
          generalize vals 3 = v3 at *
          subst f3
          have f4 := hf 4 (by decide)
          generalize vals 4 = v4 at *
          subst f4
          have f5 := hf 5 (by decide)
          generalize vals 5 = v5 at *
          subst f5
          have f6 := hf 6 (by decide)
          generalize vals 6 = v6 at *
          subst f6
          have f7 := hf 7 (by decide)
          generalize vals 7 = v7 at *
          subst f7
          have f8 := hf 8 (by decide)
          generalize vals 8 = v8 at *
          subst f8
          have f9 := hf 9 (by decide)
          generalize vals 9 = v9 at *
          subst f9
          have f10 := hf 10 (by decide)
          generalize vals 10 = v10 at *
          subst f10
          have f11 := hf 11 (by decide)
          generalize vals 11 = v11 at *
          subst f11
          have f12 := hf 12 (by decide)
          generalize vals 12 = v12 at *
          subst f12
          have f13 := hf 13 (by decide)
          generalize vals 13 = v13 at *
          subst f13
          have f14 := hf 14 (by decide)
          generalize vals 14 = v14 at *
          subst f14
          have f15 := hf 15 (by decide)
          generalize vals 15 = v15 at *
          subst f15
          have f16 := hf 16 (by decide)
          generalize vals 16 = v16 at *
          subst f16
          have f17 := hf 17 (by decide)
          generalize vals 17 = v17 at *
          subst f17
          have f18 := hf 18 (by decide)
          generalize vals 18 = v18 at *
          subst f18
          have f19 := hf 19 (by decide)
          generalize vals 19 = v19 at *
          subst f19
          have f20 := hf 20 (by decide)
          generalize vals 20 = v20 at *
          subst f20
          have f21 := hf 21 (by decide)
          generalize vals 21 = v21 at *
          subst f21
          clear hf
          have hc1 := cellOf hb1
          have hf1 := frozOf hb1
          have hz1 := sizeOf hb1
          try simp at hz1
          go_wp2_with (fail)
          go_roundw
          case rel =>
            refine ⟨k + 1, by omega, by go_num, by rw [HS.out, HM.out, HN.out]; rfl, ?_, ?_, ?_, by (repeat' (first | exact Below.refl _ _ | assumption | refine Below.setCell ?_ ?_ _ | refine Below.drew ?_ | refine Below.alloc ?_ ?_ _ | refine Below.trans ?_ (Below.mono (by assumption) ?_) | (simp; done) | (simp; omega) | omega))⟩
            all_goals first | (simp [go_sem, ↓IntWalk.iteOmega, *]; done) | omega | (simp [go_sem, ↓IntWalk.iteOmega, *]; omega)
          case measure => simp [intOf]; omega
      by_cases h2 : x.1 ≤ t + d - 1
      rotate_left
      · have HN := hid (show hitI t d x = false by simp [hitI, h2])
        clear HT
        go_wp2_with (fail)
        refine wp_region_w (n := 22) [] [] (FS56_6_12 d t x bx ox k xs.length cap w) rfl (by kernel_rfl) (fun _ _ d _ _ h => by cases d <;> exact h) ?_ ?_ ?_ ?_ ?_ ?_
        · intro iq
          match iq with
          | 0 | 1 | 2 | 3 | 4 | 5 | 6 | 7 | 8 | 9 | 10 | 11 | 12 | 13 | 14 | 15 | 16 | 17 | 18 | 19 | 20 | 21 => exact Stable.const _
          | n + 22 => exact Stable.const _
        · intro iq hi
          exact absurd hi (by simp)
        · intro iq hi
          exact absurd hi (by simp)
        · intro iq o hi hl ho vals w1 hb1 hf
          exact absurd hl (by simp)
        · intro iq o hi hl ho vals w1 hb1 hf
          match iq, hi with
          | 0, _ =>
            injection ho with ho
            subst ho
            clear hl
            simp only [fillA, List.take, List.drop, put_none, Act.put, List.setIfInBounds_toArray, List.set_cons_zero, List.set_cons_succ, Nat.reduceAdd]
            clear hf
            go_wp2_with (fail)
            exact RQ.mk rfl ⟨(by first | rfl | (simp [FS56_6_12]; done) | (simp [FS56_6_12, *]; done) | (simp [FS56_6_12, gotV]; done) | (simp [FS56_6_12, gotV]; omega)), fun h => absurd h (by decide)⟩ (Below.refl _ _)
          | 1, _ =>
            injection ho with ho
            subst ho
            clear hl
            simp only [fillA, List.take, List.drop, put_none, Act.put, List.setIfInBounds_toArray, List.set_cons_zero, List.set_cons_succ, Nat.reduceAdd]
            clear hf
            go_wp2_with (fail)
            exact RQ.mk rfl ⟨(by first | rfl | (simp [FS56_6_12]; done) | (simp [FS56_6_12, *]; done) | (simp [FS56_6_12, gotV]; done) | (simp [FS56_6_12, gotV]; omega)), fun h => absurd h (by decide)⟩ (Below.refl _ _)
          | 2, _ =>
            injection ho with ho
            subst ho
            clear hl
            simp only [fillA, List.take, List.drop, put_none, Act.put, List.setIfInBounds_toArray, List.set_cons_zero, List.set_cons_succ, Nat.reduceAdd]
            have f1 := hf 1 (by decide) (by kernel_rfl)
            generalize vals 1 = v1 at *
            subst f1
            clear hf
            have hc1 := cellOf hb1
            have hf1 := frozOf hb1
            have hz1 := sizeOf hb1
            try simp at hz1
            go_wp2_with (fail)
            exact RQ.mk rfl ⟨(by first | rfl | (simp [FS56_6_12]; done) | (simp [FS56_6_12, *]; done) | (simp [FS56_6_12, gotV]; done) | (simp [FS56_6_12, gotV]; omega)), fun h => absurd h (by decide)⟩ (Below.refl _ _)
          | 3, _ =>
            injection ho with ho
            subst ho
            clear hl
            simp only [fillA, List.take, List.drop, put_none, Act.put, List.setIfInBounds_toArray, List.set_cons_zero, List.set_cons_succ, Nat.reduceAdd]
            clear hf
            go_wp2_with (fail)
            exact RQ.mk rfl ⟨(by first | rfl | (simp [FS56_6_12]; done) | (simp [FS56_6_12, *]; done) | (simp [FS56_6_12, gotV]; done) | (simp [FS56_6_12, gotV]; omega)), fun h => absurd h (by decide)⟩ (Below.refl _ _)
          | 4, _ =>
            injection ho with ho
            subst ho
            clear hl
            simp only [fillA, List.take, List.drop, put_none, Act.put, List.setIfInBounds_toArray, List.set_cons_zero, List.set_cons_succ, Nat.reduceAdd]
            have f2 := hf 2 (by decide) (by kernel_rfl)
            generalize vals 2 = v2 at *
            subst f2
            have f3 := hf 3 (by decide) (by kernel_rfl)
            generalize vals 3 = v3 at *
            subst f3
            clear hf
            go_wp2_with (fail)
            exact RQ.mk rfl ⟨(by first | rfl | (simp [FS56_6_12]; done) | (simp [FS56_6_12, *]; done) | (simp [FS56_6_12, gotV]; done) | (simp [FS56_6_12, gotV]; omega)), fun h => absurd h (by decide)⟩ (Below.refl _ _)
          | 5, _ =>
            injection ho with ho
            subst ho
            clear hl
            simp only [fillA, List.take, List.drop, put_none, Act.put, List.setIfInBounds_toArray, List.set_cons_zero, List.set_cons_succ, Nat.reduceAdd]
            have f4 := hf 4 (by decide) (by kernel_rfl)
            generalize vals 4 = v4 at *
            subst f4
            clear hf
            go_wp2_with (fail)
            exact RQ.mk rfl ⟨(by first | rfl | (simp [FS56_6_12]; done) | (simp [FS56_6_12, *]; done) | (simp [FS56_6_12, gotV]; done) | (simp [FS56_6_12, gotV]; omega)), fun h => absurd h (by decide)⟩ (Below.refl _ _)
          | 6, _ =>
            injection ho with ho
            subst ho
            clear hl
            simp only [fillA, List.take, List.drop, put_none, Act.put, List.setIfInBounds_toArray, List.set_cons_zero, List.set_cons_succ, Nat.reduceAdd]
            have f5 := hf 5 (by decide) (by kernel_rfl)
            generalize vals 5 = v5 at *
            subst f5
            clear hf
            have hc1 := cellOf hb1
            have hf1 := frozOf hb1
            have hz1 := sizeOf hb1
            try simp at hz1
            go_wp2_with (fail)
            exact RQ.mk rfl ⟨(by first | rfl | (simp [FS56_6_12]; done) | (simp [FS56_6_12, *]; done) | (simp [FS56_6_12, gotV]; done) | (simp [FS56_6_12, gotV]; omega)), fun h => absurd h (by decide)⟩ (Below.refl _ _)
          | 7, _ =>
            injection ho with ho
            subst ho
            clear hl
            simp only [fillA, List.take, List.drop, put_none, Act.put, List.setIfInBounds_toArray, List.set_cons_zero, List.set_cons_succ, Nat.reduceAdd]
            have f0 := hf 0 (by decide) (by kernel_rfl)
            generalize vals 0 = v0 at *
            subst f0
            have f6 := hf 6 (by decide) (by kernel_rfl)
            generalize vals 6 = v6 at *
            subst f6
            clear hf
            go_wp2_with (fail)
            exact RQ.mk rfl ⟨(by first | rfl | (simp [FS56_6_12]; done) | (simp [FS56_6_12, *]; done) | (simp [FS56_6_12, gotV]; done) | (simp [FS56_6_12, gotV]; omega)), fun h => absurd h (by decide)⟩ (Below.refl _ _)
          | 8, _ =>
            injection ho with ho
            subst ho
            clear hl
            simp only [fillA, List.take, List.drop, put_none, Act.put, List.setIfInBounds_toArray, List.set_cons_zero, List.set_cons_succ, Nat.reduceAdd]
            have f7 := hf 7 (by decide) (by kernel_rfl)
            generalize vals 7 = v7 at *
            subst f7
            clear hf
            go_wp2_with (fail)
            exact RQ.mk rfl ⟨(by first | rfl | (simp [FS56_6_12]; done) | (simp [FS56_6_12, *]; done) | (simp [FS56_6_12, gotV]; done) | (simp [FS56_6_12, gotV]; omega)), fun h => absurd h (by decide)⟩ (Below.refl _ _)
          | 9, _ =>
            injection ho with ho
            subst ho
            clear hl
            simp only [fillA, List.take, List.drop, put_none, Act.put, List.setIfInBounds_toArray, List.set_cons_zero, List.set_cons_succ, Nat.reduceAdd]
            have f8 := hf 8 (by decide) (by kernel_rfl)
            generalize vals 8 = v8 at *
            subst f8
            clear hf
            go_wp2_with (fail)
            exact RQ.mk rfl ⟨(by first | rfl | (simp [FS56_6_12]; done) | (simp [FS56_6_12, *]; done) | (simp [FS56_6_12, gotV]; done) | (simp [FS56_6_12, gotV]; omega)), fun h => absurd h (by decide)⟩ (Below.refl _ _)
          | 10, _ =>
            injection ho with ho
            subst ho
            clear hl
            simp only [fillA, List.take, List.drop, put_none, Act.put, List.setIfInBounds_toArray, List.set_cons_zero, List.set_cons_succ, Nat.reduceAdd]
            have f9 := hf 9 (by decide) (by kernel_rfl)
            generalize vals 9 = v9 at *
            subst f9
            have f8 := hf 8 (by decide) (by kernel_rfl)
            generalize vals 8 = v8 at *
            subst f8
            clear hf
            have hc1 := cellOf hb1
            have hf1 := frozOf hb1
            have hz1 := sizeOf hb1
            try simp at hz1
            go_wp2_with (fail)
            exact RQ.mk rfl ⟨(by first | rfl | (simp [FS56_6_12]; done) | (simp [FS56_6_12, *]; done) | (simp [FS56_6_12, gotV]; done) | (simp [FS56_6_12, gotV]; omega)), fun h => absurd h (by decide)⟩ (Below.refl _ _)
          | 11, _ =>
            injection ho with ho
            subst ho
            clear hl
            simp only [fillA, List.take, List.drop, put_none, Act.put, List.setIfInBounds_toArray, List.set_cons_zero, List.set_cons_succ, Nat.reduceAdd]
            have f8 := hf 8 (by decide) (by kernel_rfl)
            generalize vals 8 = v8 at *
            subst f8
            clear hf
            go_wp2_with (fail)
            exact RQ.mk rfl ⟨(by first | rfl | (simp [FS56_6_12]; done) | (simp [FS56_6_12, *]; done) | (simp [FS56_6_12, gotV]; done) | (simp [FS56_6_12, gotV]; omega)), fun h => absurd h (by decide)⟩ (Below.refl _ _)
          | 12, _ =>
            injection ho with ho
            subst ho
            clear hl
            simp only [fillA, List.take, List.drop, put_none, Act.put, List.setIfInBounds_toArray, List.set_cons_zero, List.set_cons_succ, Nat.reduceAdd]
            have f10 := hf 10 (by decide) (by kernel_rfl)
            generalize vals 10 = v10 at *
            subst f10
            have f11 := hf 11 (by decide) (by kernel_rfl)
            generalize vals 11 = v11 at *
            subst f11
            have f8 := hf 8 (by decide) (by kernel_rfl)
            generalize vals 8 = v8 at *
            subst f8
            clear hf
            go_wp2_with (fail)
            exact RQ.mk rfl ⟨(by first | rfl | (simp [FS56_6_12]; done) | (simp [FS56_6_12, *]; done) | (simp [FS56_6_12, gotV]; done) | (simp [FS56_6_12, gotV]; omega)), fun h => absurd h (by decide)⟩ (Below.refl _ _)
          | 13, _ =>
            injection ho with ho
            subst ho
            clear hl
            simp only [fillA, List.take, List.drop, put_none, Act.put, List.setIfInBounds_toArray, List.set_cons_zero, List.set_cons_succ, Nat.reduceAdd]
            have f12 := hf 12 (by decide) (by kernel_rfl)
            generalize vals 12 = v12 at *
            subst f12
            have f8 := hf 8 (by decide) (by kernel_rfl)
            generalize vals 8 = v8 at *
            subst f8
            clear hf
            go_wp2_with (fail)
            exact RQ.mk rfl ⟨(by first | rfl | (simp [FS56_6_12]; done) | (simp [FS56_6_12, *]; done) | (simp [FS56_6_12, gotV]; done) | (simp [FS56_6_12, gotV]; omega)), fun h => absurd h (by decide)⟩ (Below.refl _ _)
          | 14, _ =>
            injection ho with ho
            subst ho
            clear hl
            simp only [fillA, List.take, List.drop, put_none, Act.put, List.setIfInBounds_toArray, List.set_cons_zero, List.set_cons_succ, Nat.reduceAdd]
            have f13 := hf 13 (by decide) (by kernel_rfl)
            generalize vals 13 = v13 at *
            subst f13
            have f8 := hf 8 (by decide) (by kernel_rfl)
            generalize vals 8 = v8 at *
            subst f8
            clear hf
            have hc1 := cellOf hb1
            have hf1 := frozOf hb1
            have hz1 := sizeOf hb1
            try simp at hz1
            go_wp2_with (fail)
            exact RQ.mk rfl ⟨(by first | rfl | (simp [FS56_6_12]; done) | (simp [FS56_6_12, *]; done) | (simp [FS56_6_12, gotV]; done) | (simp [FS56_6_12, gotV]; omega)), fun h => absurd h (by decide)⟩ (Below.refl _ _)
          | 15, _ =>
            injection ho with ho
            subst ho
            clear hl
            simp only [fillA, List.take, List.drop, put_none, Act.put, List.setIfInBounds_toArray, List.set_cons_zero, List.set_cons_succ, Nat.reduceAdd]
            have f8 := hf 8 (by decide) (by kernel_rfl)
            generalize vals 8 = v8 at *
            subst f8
            clear hf
            go_wp2_with (fail)
            exact RQ.mk rfl ⟨(by first | rfl | (simp [FS56_6_12]; done) | (simp [FS56_6_12, *]; done) | (simp [FS56_6_12, gotV]; done) | (simp [FS56_6_12, gotV]; omega)), fun h => absurd h (by decide)⟩ (Below.refl _ _)
          | 16, _ =>
            injection ho with ho
            subst ho
            clear hl
            simp only [fillA, List.take, List.drop, put_none, Act.put, List.setIfInBounds_toArray, List.set_cons_zero, List.set_cons_succ, Nat.reduceAdd]
            have f8 := hf 8 (by decide) (by kernel_rfl)
            generalize vals 8 = v8 at *
            subst f8
            clear hf
            go_wp2_with (fail)
            exact RQ.mk rfl ⟨(by first | rfl | (simp [FS56_6_12]; done) | (simp [FS56_6_12, *]; done) | (simp [FS56_6_12, gotV]; done) | (simp [FS56_6_12, gotV]; omega)), fun h => absurd h (by decide)⟩ (Below.refl _ _)
          | 17, _ =>
            injection ho with ho
            subst ho
            clear hl
            simp only [fillA, List.take, List.drop, put_none, Act.put, List.setIfInBounds_toArray, List.set_cons_zero, List.set_cons_succ, Nat.reduceAdd]
            have f16 := hf 16 (by decide) (by kernel_rfl)
            generalize vals 16 = v16 at *
            subst f16
            have f8 := hf 8 (by decide) (by kernel_rfl)
            generalize vals 8 = v8 at *
            subst f8
            clear hf
            have hc1 := cellOf hb1
            have hf1 := frozOf hb1
            have hz1 := sizeOf hb1
            try simp at hz1
            go_wp2_with (fail)
            exact RQ.mk rfl ⟨(by first | rfl | (simp [FS56_6_12]; done) | (simp [FS56_6_12, *]; done) | (simp [FS56_6_12, gotV]; done) | (simp [FS56_6_12, gotV]; omega)), fun h => absurd h (by decide)⟩ (Below.refl _ _)
          | 18, _ =>
            injection ho with ho
            subst ho
            clear hl
            simp only [fillA, List.take, List.drop, put_none, Act.put, List.setIfInBounds_toArray, List.set_cons_zero, List.set_cons_succ, Nat.reduceAdd]
            have f15 := hf 15 (by decide) (by kernel_rfl)
            generalize vals 15 = v15 at *
            subst f15
            have f17 := hf 17 (by decide) (by kernel_rfl)
            generalize vals 17 = v17 at *
            subst f17
            have f8 := hf 8 (by decide) (by kernel_rfl)
            generalize vals 8 = v8 at *
            subst f8
            clear hf
            go_wp2_with (fail)
            exact RQ.mk rfl ⟨(by first | rfl | (simp [FS56_6_12]; done) | (simp [FS56_6_12, *]; done) | (simp [FS56_6_12, gotV]; done) | (simp [FS56_6_12, gotV]; omega)), fun h => absurd h (by decide)⟩ (Below.refl _ _)
          | 19, _ =>
            injection ho with ho
            subst ho
            clear hl
            simp only [fillA, List.take, List.drop, put_none, Act.put, List.setIfInBounds_toArray, List.set_cons_zero, List.set_cons_succ, Nat.reduceAdd]
            have f18 := hf 18 (by decide) (by kernel_rfl)
            generalize vals 18 = v18 at *
            subst f18
            have f8 := hf 8 (by decide) (by kernel_rfl)
            generalize vals 8 = v8 at *
            subst f8
            clear hf
            go_wp2_with (fail)
            exact RQ.mk rfl ⟨(by first | rfl | (simp [FS56_6_12]; done) | (simp [FS56_6_12, *]; done) | (simp [FS56_6_12, gotV]; done) | (simp [FS56_6_12, gotV]; omega)), fun h => absurd h (by decide)⟩ (Below.refl _ _)
          | 20, _ =>
            injection ho with ho
            subst ho
            clear hl
            simp only [fillA, List.take, List.drop, put_none, Act.put, List.setIfInBounds_toArray, List.set_cons_zero, List.set_cons_succ, Nat.reduceAdd]
            have f14 := hf 14 (by decide) (by kernel_rfl)
            generalize vals 14 = v14 at *
            subst f14
            have f19 := hf 19 (by decide) (by kernel_rfl)
            generalize vals 19 = v19 at *
            subst f19
            have f8 := hf 8 (by decide) (by kernel_rfl)
            generalize vals 8 = v8 at *
            subst f8
            clear hf
            go_wp2_with (fail)
            exact RQ.mk rfl ⟨(by first | rfl | (simp [FS56_6_12]; done) | (simp [FS56_6_12, *]; done) | (simp [FS56_6_12, gotV]; done) | (simp [FS56_6_12, gotV]; omega)), fun h => absurd h (by decide)⟩ (Below.refl _ _)
          | 21, _ =>
            injection ho with ho
            subst ho
            clear hl
            simp only [fillA, List.take, List.drop, put_none, Act.put, List.setIfInBounds_toArray, List.set_cons_zero, List.set_cons_succ, Nat.reduceAdd]
            have f8 := hf 8 (by decide) (by kernel_rfl)
            generalize vals 8 = v8 at *
            subst f8
            have f20 := hf 20 (by decide) (by kernel_rfl)
            generalize vals 20 = v20 at *
            subst f20
            clear hf
            go_wp2_with (fail)
            exact RQ.mk rfl ⟨(by first | rfl | (simp [FS56_6_12]; done) | (simp [FS56_6_12, *]; done) | (simp [FS56_6_12, gotV]; done) | (simp [FS56_6_12, gotV]; omega)), fun h => absurd h (by decide)⟩ (Below.refl _ _)
          | m + 22, h => exact absurd h (by omega)
        · intro vals w1 hb1 hf hd
          simp only [fillA, List.take, List.drop, put_none, Act.put, List.setIfInBounds_toArray, List.set_cons_zero, List.set_cons_succ, Nat.reduceAdd]
          clear hd
          have f0 := hf 0 (by decide)
          generalize vals 0 = v0 at *
          subst f0
          have f1 := hf 1 (by decide)
          generalize vals 1 = v1 at *
          subst f1
          have f2 := hf 2 (by decide)
          generalize vals 2 = v2 at *
          subst f2
          have f3 := hf 3 (by decide)
          generalize vals 3 = v3 at *
          subst f3
          have f4 := hf 4 (by decide)
          generalize vals 4 = v4 at *
          subst f4
          have f5 := hf 5 (by decide)
          generalize vals 5 = v5 at *
          subst f5
          have f6 := hf 6 (by decide)
          generalize vals 6 = v6 at *
          subst f6
          have f7 := hf 7 (by decide)
          generalize vals 7 = v7 at *
          subst f7
          have f8 := hf 8 (by decide)
          generalize vals 8 = v8 at *
          subst f8
          have f9 := hf 9 (by decide)
          generalize vals 9 = v9 at *
          subst f9
          have f10 := hf 10 (by decide)
          generalize vals 10 = v10 at *
          subst f10
          have f11 := hf 11 (by decide)
          generalize vals 11 = v11 at *
          subst f11
          have f12 := hf 12 (by decide)
          generalize vals 12 = v12 at *
          subst f12
          have f13 := hf 13 (by decide)
          generalize vals 13 = v13 at *
          subst f13
          have f14 := hf 14 (by decide)
          generalize vals 14 = v14 at *
          subst f14
          have f15 := hf 15 (by decide)
          generalize vals 15 = v15 at *
          subst f15
          have f16 := hf 16 (by decide)
          generalize vals 16 = v16 at *
          subst f16
          have f17 := hf 17 (by decide)
          generalize vals 17 = v17 at *
          subst f17
          have f18 := hf 18 (by decide)
          generalize vals 18 = v18 at *
          subst f18
          have f19 := hf 19 (by decide)
          generalize vals 19 = v19 at *
          subst f19
          have f20 := hf 20 (by decide)
          generalize vals 20 = v20 at *
          subst f20
          have f21 := hf 21 (by decide)
          generalize vals 21 = v21 at *
          subst f21
          clear hf
          have hc1 := cellOf hb1
          have hf1 := frozOf hb1
          have hz1 := sizeOf hb1
          try simp at hz1
          go_wp2_with (fail)
          go_roundw
          case rel =>
            refine ⟨k + 1, by omega, by go_num, by rw [HS.out, HM.out, HN.out]; rfl, ?_, ?_, ?_, by (repeat' (first | exact Below.refl _ _ | assumption | refine Below.setCell ?_ ?_ _ | refine Below.drew ?_ | refine Below.alloc ?_ ?_ _ | refine Below.trans ?_ (Below.mono (by assumption) ?_) | (simp; done) | (simp; omega) | omega))⟩
            all_goals first | (simp [go_sem, ↓IntWalk.iteOmega, *]; done) | omega | (simp [go_sem, ↓IntWalk.iteOmega, *]; omega)
          case measure => simp [intOf]; omega
      have HV := hid (show mayB d xs t = false by unfold mayB; rw [HT.out (by simp [hitI, h1, h2])]; simp)
      clear HT
      go_wp2_with (fail)
      refine wp_region_w (n := 22) [] [] (FS56_6_13 d t x bx ox k xs.length cap w) rfl (by kernel_rfl) (fun _ _ d _ _ h => by cases d <;> exact h) ?_ ?_ ?_ ?_ ?_ ?_
      · intro iq
        match iq with
        | 0 | 1 | 2 | 3 | 4 | 5 | 6 | 7 | 8 | 9 | 10 | 11 | 12 | 13 | 14 | 15 | 16 | 17 | 18 | 19 | 20 | 21 => exact Stable.const _
        | n + 22 => exact Stable.const _
      · intro iq hi
        exact absurd hi (by simp)
      · intro iq hi
        exact absurd hi (by simp)
      · intro iq o hi hl ho vals w1 hb1 hf
        exact absurd hl (by simp)
      · intro iq o hi hl ho vals w1 hb1 hf
        match iq, hi with
        | 0, _ =>
          injection ho with ho
          subst ho
          clear hl
          simp only [fillA, List.take, List.drop, put_none, Act.put, List.setIfInBounds_toArray, List.set_cons_zero, List.set_cons_succ, Nat.reduceAdd]
          clear hf
          go_wp2_with (fail)
          exact RQ.mk rfl ⟨(by first | rfl | (simp [FS56_6_13]; done) | (simp [FS56_6_13, *]; done) | (simp [FS56_6_13, gotV]; done) | (simp [FS56_6_13, gotV]; omega)), fun h => absurd h (by decide)⟩ (Below.refl _ _)
        | 1, _ =>
          injection ho with ho
          subst ho
          clear hl
          simp only [fillA, List.take, List.drop, put_none, Act.put, List.setIfInBounds_toArray, List.set_cons_zero, List.set_cons_succ, Nat.reduceAdd]
          clear hf
          go_wp2_with (fail)
          exact RQ.mk rfl ⟨(by first | rfl | (simp [FS56_6_13]; done) | (simp [FS56_6_13, *]; done) | (simp [FS56_6_13, gotV]; done) | (simp [FS56_6_13, gotV]; omega)), fun h => absurd h (by decide)⟩ (Below.refl _ _)
        | 2, _ =>
          injection ho with ho
          subst ho
          clear hl
          simp only [fillA, List.take, List.drop, put_none, Act.put, List.setIfInBounds_toArray, List.set_cons_zero, List.set_cons_succ, Nat.reduceAdd]
          have f1 := hf 1 (by decide) (by kernel_rfl)
          generalize vals 1 = v1 at *
          subst f1
          clear hf
          have hc1 := cellOf hb1
          have hf1 := frozOf hb1
          have hz1 := sizeOf hb1
          try simp at hz1
          go_wp2_with (fail)
          exact RQ.mk rfl ⟨(by first | rfl | (simp [FS56_6_13]; done) | (simp [FS56_6_13, *]; done) | (simp [FS56_6_13, gotV]; done) | (simp [FS56_6_13, gotV]; omega)), fun h => absurd h (by decide)⟩ (Below.refl _ _)
        | 3, _ =>
          injection ho with ho
          subst ho
          clear hl
          simp only [fillA, List.take, List.drop, put_none, Act.put, List.setIfInBounds_toArray, List.set_cons_zero, List.set_cons_succ, Nat.reduceAdd]
          clear hf
          go_wp2_with (fail)
          exact RQ.mk rfl ⟨(by first | rfl | (simp [FS56_6_13]; done) | (simp [FS56_6_13, *]; done) | (simp [FS56_6_13, gotV]; done) | (simp [FS56_6_13, gotV]; omega)), fun h => absurd h (by decide)⟩ (Below.refl _ _)
        | 4, _ =>
          injection ho with ho
          subst ho
          clear hl
          simp only [fillA, List.take, List.drop, put_none, Act.put, List.setIfInBounds_toArray, List.set_cons_zero, List.set_cons_succ, Nat.reduceAdd]
          have f2 := hf 2 (by decide) (by kernel_rfl)
          generalize vals 2 = v2 at *
          subst f2
          have f3 := hf 3 (by decide) (by kernel_rfl)
          generalize vals 3 = v3 at *
          subst f3
          clear hf
          go_wp2_with (fail)
          exact RQ.mk rfl ⟨(by first | rfl | (simp [FS56_6_13]; done) | (simp [FS56_6_13, *]; done) | (simp [FS56_6_13, gotV]; done) | (simp [FS56_6_13, gotV]; omega)), fun h => absurd h (by decide)⟩ (Below.refl _ _)
        | 5, _ =>
          injection ho with ho
          subst ho
          clear hl
          simp only [fillA, List.take, List.drop, put_none, Act.put, List.setIfInBounds_toArray, List.set_cons_zero, List.set_cons_succ, Nat.reduceAdd]
          have f4 := hf 4 (by decide) (by kernel_rfl)
          generalize vals 4 = v4 at *
          subst f4
          clear hf
          go_wp2_with (fail)
          exact RQ.mk rfl ⟨(by first | rfl | (simp [FS56_6_13]; done) | (simp [FS56_6_13, *]; done) | (simp [FS56_6_13, gotV]; done) | (simp [FS56_6_13, gotV]; omega)), fun h => absurd h (by decide)⟩ (Below.refl _ _)
        | 6, _ =>
          injection ho with ho
          subst ho
          clear hl
          simp only [fillA, List.take, List.drop, put_none, Act.put, List.setIfInBounds_toArray, List.set_cons_zero, List.set_cons_succ, Nat.reduceAdd]
          have f5 := hf 5 (by decide) (by kernel_rfl)
          generalize vals 5 = v5 at *
          subst f5
          clear hf
          have hc1 := cellOf hb1
          have hf1 := frozOf hb1
          have hz1 := sizeOf hb1
          try simp at hz1
          go_wp2_with (fail)
          exact RQ.mk rfl ⟨(by first | rfl | (simp [FS56_6_13]; done) | (simp [FS56_6_13, *]; done) | (simp [FS56_6_13, gotV]; done) | (simp [FS56_6_13, gotV]; omega)), fun h => absurd h (by decide)⟩ (Below.refl _ _)
        | 7, _ =>
          injection ho with ho
          subst ho
          clear hl
          simp only [fillA, List.take, List.drop, put_none, Act.put, List.setIfInBounds_toArray, List.set_cons_zero, List.set_cons_succ, Nat.reduceAdd]
          have f0 := hf 0 (by decide) (by kernel_rfl)
          generalize vals 0 = v0 at *
          subst f0
          have f6 := hf 6 (by decide) (by kernel_rfl)
          generalize vals 6 = v6 at *
          subst f6
          clear hf
          go_wp2_with (fail)
          exact RQ.mk rfl ⟨(by first | rfl | (simp [FS56_6_13]; done) | (simp [FS56_6_13, *]; done) | (simp [FS56_6_13, gotV]; done) | (simp [FS56_6_13, gotV]; omega)), fun h => absurd h (by decide)⟩ (Below.refl _ _)
        | 8, _ =>
          injection ho with ho
          subst ho
          clear hl
          simp only [fillA, List.take, List.drop, put_none, Act.put, List.setIfInBounds_toArray, List.set_cons_zero, List.set_cons_succ, Nat.reduceAdd]
          have f7 := hf 7 (by decide) (by kernel_rfl)
          generalize vals 7 = v7 at *
          subst f7
          clear hf
          go_wp2_with (fail)
          exact RQ.mk rfl ⟨(by first | rfl | (simp [FS56_6_13]; done) | (simp [FS56_6_13, *]; done) | (simp [FS56_6_13, gotV]; done) | (simp [FS56_6_13, gotV]; omega)), fun h => absurd h (by decide)⟩ (Below.refl _ _)
        | 9, _ =>
          injection ho with ho
          subst ho
          clear hl
          simp only [fillA, List.take, List.drop, put_none, Act.put, List.setIfInBounds_toArray, List.set_cons_zero, List.set_cons_succ, Nat.reduceAdd]
          have f8 := hf 8 (by decide) (by kernel_rfl)
          generalize vals 8 = v8 at *
          subst f8
          clear hf
          go_wp2_with (fail)
          exact RQ.mk rfl ⟨(by first | rfl | (simp [FS56_6_13]; done) | (simp [FS56_6_13, *]; done) | (simp [FS56_6_13, gotV]; done) | (simp [FS56_6_13, gotV]; omega)), fun h => absurd h (by decide)⟩ (Below.refl _ _)
        | 10, _ =>
          injection ho with ho
          subst ho
          clear hl
          simp only [fillA, List.take, List.drop, put_none, Act.put, List.setIfInBounds_toArray, List.set_cons_zero, List.set_cons_succ, Nat.reduceAdd]
          have f9 := hf 9 (by decide) (by kernel_rfl)
          generalize vals 9 = v9 at *
          subst f9
          have f8 := hf 8 (by decide) (by kernel_rfl)
          generalize vals 8 = v8 at *
          subst f8
          clear hf
          have hc1 := cellOf hb1
          have hf1 := frozOf hb1
          have hz1 := sizeOf hb1
          try simp at hz1
          go_wp2_with (fail)
          exact RQ.mk rfl ⟨(by first | rfl | (simp [FS56_6_13]; done) | (simp [FS56_6_13, *]; done) | (simp [FS56_6_13, gotV]; done) | (simp [FS56_6_13, gotV]; omega)), fun h => absurd h (by decide)⟩ (Below.refl _ _)
        | 11, _ =>
          injection ho with ho
          subst ho
          clear hl
          simp only [fillA, List.take, List.drop, put_none, Act.put, List.setIfInBounds_toArray, List.set_cons_zero, List.set_cons_succ, Nat.reduceAdd]
          have f8 := hf 8 (by decide) (by kernel_rfl)
          generalize vals 8 = v8 at *
          subst f8
          clear hf
          go_wp2_with (fail)
          exact RQ.mk rfl ⟨(by first | rfl | (simp [FS56_6_13]; done) | (simp [FS56_6_13, *]; done) | (simp [FS56_6_13, gotV]; done) | (simp [FS56_6_13, gotV]; omega)), fun h => absurd h (by decide)⟩ (Below.refl _ _)
        | 12, _ =>
          injection ho with ho
          subst ho
          clear hl
          simp only [fillA, List.take, List.drop, put_none, Act.put, List.setIfInBounds_toArray, List.set_cons_zero, List.set_cons_succ, Nat.reduceAdd]
          have f10 := hf 10 (by decide) (by kernel_rfl)
          generalize vals 10 = v10 at *
          subst f10
          have f11 := hf 11 (by decide) (by kernel_rfl)
          generalize vals 11 = v11 at *
          subst f11
          have f8 := hf 8 (by decide) (by kernel_rfl)
          generalize vals 8 = v8 at *
          subst f8
          clear hf
          go_wp2_with (fail)
          exact RQ.mk rfl ⟨(by first | rfl | (simp [FS56_6_13]; done) | (simp [FS56_6_13, *]; done) | (simp [FS56_6_13, gotV]; done) | (simp [FS56_6_13, gotV]; omega)), fun h => absurd h (by decide)⟩ (Below.refl _ _)
        | 13, _ =>
          injection ho with ho
          subst ho
          clear hl
          simp only [fillA, List.take, List.drop, put_none, Act.put, List.setIfInBounds_toArray, List.set_cons_zero, List.set_cons_succ, Nat.reduceAdd]
          have f12 := hf 12 (by decide) (by kernel_rfl)
          generalize vals 12 = v12 at *
          subst f12
          have f8 := hf 8 (by decide) (by kernel_rfl)
          generalize vals 8 = v8 at *
          subst f8
          clear hf
          go_wp2_with (fail)
          exact RQ.mk rfl ⟨(by first | rfl | (simp [FS56_6_13]; done) | (simp [FS56_6_13, *]; done) | (simp [FS56_6_13, gotV]; done) | (simp [FS56_6_13, gotV]; omega)), fun h => absurd h (by decide)⟩ (Below.refl _ _)
        | 14, _ =>
          injection ho with ho
          subst ho
          clear hl
          simp only [fillA, List.take, List.drop, put_none, Act.put, List.setIfInBounds_toArray, List.set_cons_zero, List.set_cons_succ, Nat.reduceAdd]
          have f13 := hf 13 (by decide) (by kernel_rfl)
          generalize vals 13 = v13 at *
          subst f13
          have f8 := hf 8 (by decide) (by kernel_rfl)
          generalize vals 8 = v8 at *
          subst f8
          clear hf
          have hc1 := cellOf hb1
          have hf1 := frozOf hb1
          have hz1 := sizeOf hb1
          try simp at hz1
          go_wp2_with (fail)
          exact RQ.mk rfl ⟨(by first | rfl | (simp [FS56_6_13]; done) | (simp [FS56_6_13, *]; done) | (simp [FS56_6_13, gotV]; done) | (simp [FS56_6_13, gotV]; omega)), fun h => absurd h (by decide)⟩ (Below.refl _ _)
        | 15, _ =>
          injection ho with ho
          subst ho
          clear hl
          simp only [fillA, List.take, List.drop, put_none, Act.put, List.setIfInBounds_toArray, List.set_cons_zero, List.set_cons_succ, Nat.reduceAdd]
          have f8 := hf 8 (by decide) (by kernel_rfl)
          generalize vals 8 = v8 at *
          subst f8
          clear hf
          go_wp2_with (fail)
          exact RQ.mk rfl ⟨(by first | rfl | (simp [FS56_6_13]; done) | (simp [FS56_6_13, *]; done) | (simp [FS56_6_13, gotV]; done) | (simp [FS56_6_13, gotV]; omega)), fun h => absurd h (by decide)⟩ (Below.refl _ _)
        | 16, _ =>
          injection ho with ho
          subst ho
          clear hl
          simp only [fillA, List.take, List.drop, put_none, Act.put, List.setIfInBounds_toArray, List.set_cons_zero, List.set_cons_succ, Nat.reduceAdd]
          have f8 := hf 8 (by decide) (by kernel_rfl)
          generalize vals 8 = v8 at *
          subst f8
          clear hf
          go_wp2_with (fail)
          exact RQ.mk rfl ⟨(by first | rfl | (simp [FS56_6_13]; done) | (simp [FS56_6_13, *]; done) | (simp [FS56_6_13, gotV]; done) | (simp [FS56_6_13, gotV]; omega)), fun h => absurd h (by decide)⟩ (Below.refl _ _)
        | 17, _ =>
          injection ho with ho
          subst ho
          clear hl
          simp only [fillA, List.take, List.drop, put_none, Act.put, List.setIfInBounds_toArray, List.set_cons_zero, List.set_cons_succ, Nat.reduceAdd]
          have f16 := hf 16 (by decide) (by kernel_rfl)
          generalize vals 16 = v16 at *
          subst f16
          have f8 := hf 8 (by decide) (by kernel_rfl)
          generalize vals 8 = v8 at *
          subst f8
          clear hf
          have hc1 := cellOf hb1
          have hf1 := frozOf hb1
          have hz1 := sizeOf hb1
          try simp at hz1
          go_wp2_with (fail)
          exact RQ.mk rfl ⟨(by first | rfl | (simp [FS56_6_13]; done) | (simp [FS56_6_13, *]; done) | (simp [FS56_6_13, gotV]; done) | (simp [FS56_6_13, gotV]; omega)), fun h => absurd h (by decide)⟩ (Below.refl _ _)
        | 18, _ =>
          injection ho with ho
          subst ho
          clear hl
          simp only [fillA, List.take, List.drop, put_none, Act.put, List.setIfInBounds_toArray, List.set_cons_zero, List.set_cons_succ, Nat.reduceAdd]
          have f15 := hf 15 (by decide) (by kernel_rfl)
          generalize vals 15 = v15 at *
          subst f15
          have f17 := hf 17 (by decide) (by kernel_rfl)
          generalize vals 17 = v17 at *
          subst f17
          have f8 := hf 8 (by decide) (by kernel_rfl)
          generalize vals 8 = v8 at *
          subst f8
          clear hf
          go_wp2_with (fail)
          exact RQ.mk rfl ⟨(by first | rfl | (simp [FS56_6_13]; done) | (simp [FS56_6_13, *]; done) | (simp [FS56_6_13, gotV]; done) | (simp [FS56_6_13, gotV]; omega)), fun h => absurd h (by decide)⟩ (Below.refl _ _)
        | 19, _ =>
          injection ho with ho
          subst ho
          clear hl
          simp only [fillA, List.take, List.drop, put_none, Act.put, List.setIfInBounds_toArray, List.set_cons_zero, List.set_cons_succ, Nat.reduceAdd]
          have f18 := hf 18 (by decide) (by kernel_rfl)
          generalize vals 18 = v18 at *
          subst f18
          have f8 := hf 8 (by decide) (by kernel_rfl)
          generalize vals 8 = v8 at *
          subst f8
          clear hf
          go_wp2_with (fail)
          exact RQ.mk rfl ⟨(by first | rfl | (simp [FS56_6_13]; done) | (simp [FS56_6_13, *]; done) | (simp [FS56_6_13, gotV]; done) | (simp [FS56_6_13, gotV]; omega)), fun h => absurd h (by decide)⟩ (Below.refl _ _)
        | 20, _ =>
          injection ho with ho
          subst ho
          clear hl
          simp only [fillA, List.take, List.drop, put_none, Act.put, List.setIfInBounds_toArray, List.set_cons_zero, List.set_cons_succ, Nat.reduceAdd]
          have f14 := hf 14 (by decide) (by kernel_rfl)
          generalize vals 14 = v14 at *
          subst f14
          have f19 := hf 19 (by decide) (by kernel_rfl)
          generalize vals 19 = v19 at *
          subst f19
          have f8 := hf 8 (by decide) (by kernel_rfl)
          generalize vals 8 = v8 at *
          subst f8
          clear hf
          go_wp2_with (fail)
          exact RQ.mk rfl ⟨(by first | rfl | (simp [FS56_6_13]; done) | (simp [FS56_6_13, *]; done) | (simp [FS56_6_13, gotV]; done) | (simp [FS56_6_13, gotV]; omega)), fun h => absurd h (by decide)⟩ (Below.refl _ _)
        | 21, _ =>
          injection ho with ho
          subst ho
          clear hl
          simp only [fillA, List.take, List.drop, put_none, Act.put, List.setIfInBounds_toArray, List.set_cons_zero, List.set_cons_succ, Nat.reduceAdd]
          have f8 := hf 8 (by decide) (by kernel_rfl)
          generalize vals 8 = v8 at *
          subst f8
          have f20 := hf 20 (by decide) (by kernel_rfl)
          generalize vals 20 = v20 at *
          subst f20
          clear hf
          go_wp2_with (fail)
          exact RQ.mk rfl ⟨(by first | rfl | (simp [FS56_6_13]; done) | (simp [FS56_6_13, *]; done) | (simp [FS56_6_13, gotV]; done) | (simp [FS56_6_13, gotV]; omega)), fun h => absurd h (by decide)⟩ (Below.refl _ _)
        | m + 22, h => exact absurd h (by omega)
      · intro vals w1 hb1 hf hd
        simp only [fillA, List.take, List.drop, put_none, Act.put, List.setIfInBounds_toArray, List.set_cons_zero, List.set_cons_succ, Nat.reduceAdd]
        clear hd
        have f0 := hf 0 (by decide)
        generalize vals 0 = v0 at *
        subst f0
        have f1 := hf 1 (by decide)
        generalize vals 1 = v1 at *
        subst f1
        have f2 := hf 2 (by decide)
        generalize vals 2 = v2 at *
        subst f2
        have f3 := hf 3 (by decide)
        generalize vals 3 = v3 at *
        subst f3
        have f4 := hf 4 (by decide)
        generalize vals 4 = v4 at *
        subst f4
        have f5 := hf 5 (by decide)
        generalize vals 5 = v5 at *
        subst f5
        have f6 := hf 6 (by decide)
        generalize vals 6 = v6 at *
        subst f6
        have f7 := hf 7 (by decide)
        generalize vals 7 = v7 at *
        subst f7
        have f8 := hf 8 (by decide)
        generalize vals 8 = v8 at *
        subst f8
        have f9 := hf 9 (by decide)
        generalize vals 9 = v9 at *
        subst f9
        have f10 := hf 10 (by decide)
        generalize vals 10 = v10 at *
        subst f10
        have f11 := hf 11 (by decide)
        generalize vals 11 = v11 at *
        subst f11
        have f12 := hf 12 (by decide)
        generalize vals 12 = v12 at *
        subst f12
        have f13 := hf 13 (by decide)
        generalize vals 13 = v13 at *
        subst f13
        have f14 := hf 14 (by decide)
        generalize vals 14 = v14 at *
        subst f14
        have f15 := hf 15 (by decide)
        generalize vals 15 = v15 at *
        subst f15
        have f16 := hf 16 (by decide)
        generalize vals 16 = v16 at *
        subst f16
        have f17 := hf 17 (by decide)
        generalize vals 17 = v17 at *
        subst f17
        have f18 := hf 18 (by decide)
        generalize vals 18 = v18 at *
        subst f18
        have f19 := hf 19 (by decide)
        generalize vals 19 = v19 at *
        subst f19
        have f20 := hf 20 (by decide)
        generalize vals 20 = v20 at *
        subst f20
        have f21 := hf 21 (by decide)
        generalize vals 21 = v21 at *
        subst f21
        clear hf
        have hc1 := cellOf hb1
        have hf1 := frozOf hb1
        have hz1 := sizeOf hb1
        try simp at hz1
        go_wp2_with (fail)
        go_ret
        exact ⟨ret_bool (by rw [HV.out]), by (repeat' (first | exact Below.refl _ _ | assumption | refine Below.setCell ?_ ?_ _ | refine Below.drew ?_ | refine Below.alloc ?_ ?_ _ | refine Below.trans ?_ (Below.mono (by assumption) ?_) | (simp; done) | (simp; omega) | omega))⟩
    · obtain rfl : k = xs.length := by omega
      have hp0' : far wr w.heap.size 0 = _ := hp0
      have hp1' : far wr w.heap.size 1 = _ := hp1
      have HV := hid (show mayB d xs t = true by have := HM.out; rw [List.take_length] at this; unfold mayB; rw [this]; simp; omega)
      go_wp2_with (fail)
      go_ret
      exact ⟨ret_bool (by rw [HV.out]), by (repeat' (first | exact Below.refl _ _ | assumption | refine Below.setCell ?_ ?_ _ | refine Below.drew ?_ | refine Below.alloc ?_ ?_ _ | refine Below.trans ?_ (Below.mono (by assumption) ?_) | (simp; done) | (simp; omega) | omega))⟩

end Go.Proofs.Yteciijnpfapmhaa
namespace Go.Proofs.Yteciijnpfapmhaa
set_option linter.unusedSimpArgs false
set_option linter.unusedVariables false
open Go.RowKit

set_option maxHeartbeats 400000 in
theorem c_spec_MayOpen (d : Int) (A : Option Addr) (xs : List (Int × Int)) (cap : Nat) (t : Int) (w : World) (hx : Rds cIv 2 w A xs) (hn : xs.length ≤ 9223372036854775807) :
    Calls Try.prog 19 #[.agg #[.int .i64 d, .slice A xs.length cap], .int .i64 t] w fun e w' => e = .returned (.tuple #[.bool ((mayV d xs t).1), .bool ((mayV d xs t).2)]) ∧ Below w.heap.size w w' := by
  by_cases hs0 : brB d xs = true
  rotate_left
  · have hn : brB d xs = false := Bool.eq_false_iff.2 hs0
    clear hs0
    go_enter Try.func19, Try.ntmps19
    go_wp2_with (first | (go_at_call 50; refine (c_spec_l15Good _ _ _ _ _ (by first | assumption | exact Rds.below hx (by (repeat' (first | exact Below.refl _ _ | assumption | refine Below.setCell ?_ ?_ _ | refine Below.drew ?_ | refine Below.alloc ?_ ?_ _ | refine Below.trans ?_ (Below.mono (by assumption) ?_) | (simp; done) | (simp; omega) | omega)))) (by omega)).mono ?_; rintro e w' ⟨rfl, hb⟩; have hc := cellOf hb; have hf := frozOf hb; have hz := sizeOf hb; try simp at hz) | (go_at_call 55; refine (c_spec_l8Minute _ _ ).mono ?_; rintro e w' ⟨rfl, hb⟩; have hc := cellOf hb; have hf := frozOf hb; have hz := sizeOf hb; try simp at hz) | (go_at_call 56; refine (c_spec_l15May _ _ _ _ _ _ _ (by first | assumption | exact Rds.below hx (by (repeat' (first | exact Below.refl _ _ | assumption | refine Below.setCell ?_ ?_ _ | refine Below.drew ?_ | refine Below.alloc ?_ ?_ _ | refine Below.trans ?_ (Below.mono (by assumption) ?_) | (simp; done) | (simp; omega) | omega)))) rfl (by omega) hok (by omega)).mono ?_; rintro e w' ⟨rfl, hb⟩; have hc := cellOf hb; have hf := frozOf hb; have hz := sizeOf hb; try simp at hz))
    all_goals go_ret2
    all_goals
      refine ⟨?_, ?_⟩
      · first | rfl | omega | (simp [mayV, hn]; done) | (simp [mayV, hn]; omega) | (simp [mayV, hn]; (repeat' split) <;> (first | omega | (simp; done) | (simp; omega))) | (simp_all [mayV]; done) | (simp_all [mayV]; omega)
      · (repeat' (first | exact Below.refl _ _ | assumption | refine Below.setCell ?_ ?_ _ | refine Below.drew ?_ | refine Below.alloc ?_ ?_ _ | refine Below.trans ?_ (Below.mono (by assumption) ?_) | (simp; done) | (simp; omega) | omega))
  by_cases hs1 : minB t = true
  rotate_left
  · have hn : minB t = false := Bool.eq_false_iff.2 hs1
    clear hs1
    go_enter Try.func19, Try.ntmps19
    go_wp2_with (first | (go_at_call 50; refine (c_spec_l15Good _ _ _ _ _ (by first | assumption | exact Rds.below hx (by (repeat' (first | exact Below.refl _ _ | assumption | refine Below.setCell ?_ ?_ _ | refine Below.drew ?_ | refine Below.alloc ?_ ?_ _ | refine Below.trans ?_ (Below.mono (by assumption) ?_) | (simp; done) | (simp; omega) | omega)))) (by omega)).mono ?_; rintro e w' ⟨rfl, hb⟩; have hc := cellOf hb; have hf := frozOf hb; have hz := sizeOf hb; try simp at hz) | (go_at_call 55; refine (c_spec_l8Minute _ _ ).mono ?_; rintro e w' ⟨rfl, hb⟩; have hc := cellOf hb; have hf := frozOf hb; have hz := sizeOf hb; try simp at hz) | (go_at_call 56; refine (c_spec_l15May _ _ _ _ _ _ _ (by first | assumption | exact Rds.below hx (by (repeat' (first | exact Below.refl _ _ | assumption | refine Below.setCell ?_ ?_ _ | refine Below.drew ?_ | refine Below.alloc ?_ ?_ _ | refine Below.trans ?_ (Below.mono (by assumption) ?_) | (simp; done) | (simp; omega) | omega)))) rfl (by omega) hok (by omega)).mono ?_; rintro e w' ⟨rfl, hb⟩; have hc := cellOf hb; have hf := frozOf hb; have hz := sizeOf hb; try simp at hz))
    all_goals go_ret2
    all_goals
      refine ⟨?_, ?_⟩
      · first | rfl | omega | (simp [mayV, hs0, hn]; done) | (simp [mayV, hs0, hn]; omega) | (simp [mayV, hs0, hn]; (repeat' split) <;> (first | omega | (simp; done) | (simp; omega))) | (simp_all [mayV]; done) | (simp_all [mayV]; omega)
      · (repeat' (first | exact Below.refl _ _ | assumption | refine Below.setCell ?_ ?_ _ | refine Below.drew ?_ | refine Below.alloc ?_ ?_ _ | refine Below.trans ?_ (Below.mono (by assumption) ?_) | (simp; done) | (simp; omega) | omega))
  have hbd1 := minB_bd hs1
  have hok := brB_P hs0
  have hdb := brB_dur hs0
  go_enter Try.func19, Try.ntmps19
  go_wp2_with (first | (go_at_call 50; refine (c_spec_l15Good _ _ _ _ _ (by first | assumption | exact Rds.below hx (by (repeat' (first | exact Below.refl _ _ | assumption | refine Below.setCell ?_ ?_ _ | refine Below.drew ?_ | refine Below.alloc ?_ ?_ _ | refine Below.trans ?_ (Below.mono (by assumption) ?_) | (simp; done) | (simp; omega) | omega)))) (by omega)).mono ?_; rintro e w' ⟨rfl, hb⟩; have hc := cellOf hb; have hf := frozOf hb; have hz := sizeOf hb; try simp at hz) | (go_at_call 55; refine (c_spec_l8Minute _ _ ).mono ?_; rintro e w' ⟨rfl, hb⟩; have hc := cellOf hb; have hf := frozOf hb; have hz := sizeOf hb; try simp at hz) | (go_at_call 56; refine (c_spec_l15May _ _ _ _ _ _ _ (by first | assumption | exact Rds.below hx (by (repeat' (first | exact Below.refl _ _ | assumption | refine Below.setCell ?_ ?_ _ | refine Below.drew ?_ | refine Below.alloc ?_ ?_ _ | refine Below.trans ?_ (Below.mono (by assumption) ?_) | (simp; done) | (simp; omega) | omega)))) rfl (by omega) hok (by omega)).mono ?_; rintro e w' ⟨rfl, hb⟩; have hc := cellOf hb; have hf := frozOf hb; have hz := sizeOf hb; try simp at hz))
  all_goals go_ret2
  all_goals
    refine ⟨?_, ?_⟩
    · first | rfl | omega | (simp [mayV, hs0, hs1, hok, hdb]; done) | (simp [mayV, hs0, hs1, hok, hdb]; omega) | (simp [mayV, hs0, hs1, hok, hdb]; (repeat' split) <;> (first | omega | (simp; done) | (simp; omega))) | (simp_all [mayV]; done) | (simp_all [mayV]; omega)
    · (repeat' (first | exact Below.refl _ _ | assumption | refine Below.setCell ?_ ?_ _ | refine Below.drew ?_ | refine Below.alloc ?_ ?_ _ | refine Below.trans ?_ (Below.mono (by assumption) ?_) | (simp; done) | (simp; omega) | omega))

end Go.Proofs.Yteciijnpfapmhaa
namespace Go.Proofs.Yteciijnpfapmhaa
set_option linter.unusedSimpArgs false
set_option linter.unusedVariables false
open Go.RowKit

set_option maxRecDepth 100000 in
set_option maxHeartbeats 4000000 in
theorem c_spec_NextOpening (d : Int) (A : Option Addr) (xs : List (Int × Int)) (cap : Nat) (t : Int) (w : World) (hx : Rds cIv 2 w A xs) (hn : xs.length ≤ 9223372036854775807) :
    Calls Try.prog 21 #[.agg #[.int .i64 d, .slice A xs.length cap], .int .i64 t] w fun e w' => e = .returned (.tuple #[.int .i64 (nextV d xs t).1, .bool (nextV d xs t).2]) ∧ Below w.heap.size w w' := by
  by_cases hs0 : brB d xs = true
  rotate_left
  · have hn0 : brB d xs = false := Bool.eq_false_iff.2 hs0
    have HV := hid (show nextV d xs t = (0, false) by simp [nextV, hn0])
    clear hs0
    go_enter Try.func21, Try.ntmps21
    go_wp2_with (first | (go_at_call 50; refine (c_spec_l15Good _ _ _ _ _ (by first | assumption | exact Rds.below hx (by (repeat' (first | exact Below.refl _ _ | assumption | refine Below.setCell ?_ ?_ _ | refine Below.drew ?_ | refine Below.alloc ?_ ?_ _ | refine Below.trans ?_ (Below.mono (by assumption) ?_) | (simp; done) | (simp; omega) | omega)))) (by omega)).mono ?_; rintro e w' ⟨rfl, hb⟩; have hc := cellOf hb; have hf := frozOf hb; have hz := sizeOf hb; try simp at hz) | (go_at_call 55; refine (c_spec_l8Minute _ _ ).mono ?_; rintro e w' ⟨rfl, hb⟩; have hc := cellOf hb; have hf := frozOf hb; have hz := sizeOf hb; try simp at hz))
    all_goals go_ret2
    all_goals exact ⟨by first | (rw [HV.out]; done) | (rw [HV.out]; rfl), by (repeat' (first | exact Below.refl _ _ | assumption | refine Below.setCell ?_ ?_ _ | refine Below.drew ?_ | refine Below.alloc ?_ ?_ _ | refine Below.trans ?_ (Below.mono (by assumption) ?_) | (simp; done) | (simp; omega) | omega))⟩
  by_cases hs1 : minB t = true
  rotate_left
  · have hn1 : minB t = false := Bool.eq_false_iff.2 hs1
    have HV := hid (show nextV d xs t = (0, false) by simp [nextV, hn1])
    clear hs1
    go_enter Try.func21, Try.ntmps21
    go_wp2_with (first | (go_at_call 50; refine (c_spec_l15Good _ _ _ _ _ (by first | assumption | exact Rds.below hx (by (repeat' (first | exact Below.refl _ _ | assumption | refine Below.setCell ?_ ?_ _ | refine Below.drew ?_ | refine Below.alloc ?_ ?_ _ | refine Below.trans ?_ (Below.mono (by assumption) ?_) | (simp; done) | (simp; omega) | omega)))) (by omega)).mono ?_; rintro e w' ⟨rfl, hb⟩; have hc := cellOf hb; have hf := frozOf hb; have hz := sizeOf hb; try simp at hz) | (go_at_call 55; refine (c_spec_l8Minute _ _ ).mono ?_; rintro e w' ⟨rfl, hb⟩; have hc := cellOf hb; have hf := frozOf hb; have hz := sizeOf hb; try simp at hz))
    all_goals go_ret2
    all_goals exact ⟨by first | (rw [HV.out]; done) | (rw [HV.out]; rfl), by (repeat' (first | exact Below.refl _ _ | assumption | refine Below.setCell ?_ ?_ _ | refine Below.drew ?_ | refine Below.alloc ?_ ?_ _ | refine Below.trans ?_ (Below.mono (by assumption) ?_) | (simp; done) | (simp; omega) | omega))⟩
  have htb := minB_bd hs1
  have hdb := brB_dur hs0
  have hok := brB_P hs0
  have HV := hid (show nextV d xs t = nextR t (nextF d xs t) by simp [nextV, hs0, hs1])
  go_enter Try.func21, Try.ntmps21
  go_wp2_with (first | (go_at_call 50; refine (c_spec_l15Good _ _ _ _ _ (by first | assumption | exact Rds.below hx (by (repeat' (first | exact Below.refl _ _ | assumption | refine Below.setCell ?_ ?_ _ | refine Below.drew ?_ | refine Below.alloc ?_ ?_ _ | refine Below.trans ?_ (Below.mono (by assumption) ?_) | (simp; done) | (simp; omega) | omega)))) (by omega)).mono ?_; rintro e w' ⟨rfl, hb⟩; have hc := cellOf hb; have hf := frozOf hb; have hz := sizeOf hb; try simp at hz) | (go_at_call 55; refine (c_spec_l8Minute _ _ ).mono ?_; rintro e w' ⟨rfl, hb⟩; have hc := cellOf hb; have hf := frozOf hb; have hz := sizeOf hb; try simp at hz))
  go_loopw [1] (fun p wr => ∃ j : Nat, p = .int .i64 (t + (j : Int)) ∧ t + (j : Int) ≤ 10000 ∧ (∀ y : Nat, y < j → mayB d xs (t + (y : Int)) = false) ∧ wr.cell? ⟨w.heap.size, 0, none⟩ = some (.int .i64 d) ∧ wr.cell? ⟨w.heap.size, 1, none⟩ = some (.slice A xs.length cap) ∧ w.heap.size + 1 ≤ wr.heap.size ∧ Below w.heap.size w wr) (fun p _ => (10000 - intOf p).toNat)
  case atStart =>
    refine ⟨0, by simp, by omega, fun y hy => absurd hy (Nat.not_lt_zero y), ?_, ?_, ?_, by (repeat' (first | exact Below.refl _ _ | assumption | refine Below.setCell ?_ ?_ _ | refine Below.drew ?_ | refine Below.alloc ?_ ?_ _ | refine Below.trans ?_ (Below.mono (by assumption) ?_) | (simp; done) | (simp; omega) | omega))⟩
    all_goals first | (simp [go_sem, ↓IntWalk.iteOmega, *]; done) | (simp at *; omega) | (simp [go_sem, ↓IntWalk.iteOmega, *]; omega) | omega
  case round =>
    obtain ⟨j, rfl, hj, hl, hp0, hp1, hzz, hbr⟩ := hrel
    have hc := cellOf hbr
    have hf := frozOf hbr
    have hz := sizeOf hbr
    have hp0' : far wr w.heap.size 0 = _ := hp0
    have hp1' : far wr w.heap.size 1 = _ := hp1
    have HL := hid hl
    clear hl
    by_cases hlt : t + (j : Int) ≤ 9999
    rotate_left
    · have HE := hid (HV.out.trans (by rw [nextF_none (fun y hy => HL.out y (by omega))]))
      go_wp2_with (fail)
      go_ret2
      exact ⟨by first | (rw [HE.out]; done) | (rw [HE.out]; rfl), by (repeat' (first | exact Below.refl _ _ | assumption | refine Below.setCell ?_ ?_ _ | refine Below.drew ?_ | refine Below.alloc ?_ ?_ _ | refine Below.trans ?_ (Below.mono (by assumption) ?_) | (simp; done) | (simp; omega) | omega))⟩
    by_cases hm : mayB d xs (t + (j : Int)) = true
    · have HE := hid (HV.out.trans (by rw [nextF_hit hlt HL.out hm]))
      go_wp2_with (first | (go_at_call 56; refine (c_spec_l15May _ _ _ _ _ _ _ (by first | assumption | exact Rds.below hx (by (repeat' (first | exact Below.refl _ _ | assumption | refine Below.setCell ?_ ?_ _ | refine Below.drew ?_ | refine Below.alloc ?_ ?_ _ | refine Below.trans ?_ (Below.mono (by assumption) ?_) | (simp; done) | (simp; omega) | omega)))) rfl (by omega) hok (by omega)).mono ?_; rintro e w' ⟨rfl, hb⟩; have hc := cellOf hb; have hf := frozOf hb; have hz := sizeOf hb; try simp at hz))
      go_ret2
      exact ⟨by first | (rw [HE.out]; done) | (rw [HE.out]; rfl), by (repeat' (first | exact Below.refl _ _ | assumption | refine Below.setCell ?_ ?_ _ | refine Below.drew ?_ | refine Below.alloc ?_ ?_ _ | refine Below.trans ?_ (Below.mono (by assumption) ?_) | (simp; done) | (simp; omega) | omega))⟩
    · have hmf : mayB d xs (t + (j : Int)) = false := by simpa using hm
      have HM := hid hmf
      clear hm
      go_wp2_with (first | (go_at_call 56; refine (c_spec_l15May _ _ _ _ _ _ _ (by first | assumption | exact Rds.below hx (by (repeat' (first | exact Below.refl _ _ | assumption | refine Below.setCell ?_ ?_ _ | refine Below.drew ?_ | refine Below.alloc ?_ ?_ _ | refine Below.trans ?_ (Below.mono (by assumption) ?_) | (simp; done) | (simp; omega) | omega)))) rfl (by omega) hok (by omega)).mono ?_; rintro e w' ⟨rfl, hb⟩; have hc := cellOf hb; have hf := frozOf hb; have hz := sizeOf hb; try simp at hz))
      go_roundw
      case rel =>
        refine ⟨j + 1, by go_num, by omega, fun y hy => ?_, ?_, ?_, ?_, by (repeat' (first | exact Below.refl _ _ | assumption | refine Below.setCell ?_ ?_ _ | refine Below.drew ?_ | refine Below.alloc ?_ ?_ _ | refine Below.trans ?_ (Below.mono (by assumption) ?_) | (simp; done) | (simp; omega) | omega))⟩
        · by_cases hyj : y < j
          · exact HL.out y hyj
          · obtain rfl : y = j := by omega
            exact HM.out
        all_goals first | (simp [go_sem, ↓IntWalk.iteOmega, *]; done) | omega | (simp [go_sem, ↓IntWalk.iteOmega, *]; omega)
      case measure => simp [intOf]; omega

end Go.Proofs.Yteciijnpfapmhaa
namespace Go.Proofs.Yteciijnpfapmhaa
set_option linter.unusedSimpArgs false
set_option linter.unusedVariables false
open Go.RowKit

set_option maxRecDepth 100000 in
set_option maxHeartbeats 4000000 in
theorem c_spec_l15Last (d : Int) (A : Option Addr) (xs : List (Int × Int)) (n cap : Nat) (f t : Int) (w : World) (hx : Rds cIv 2 w A xs) (hxl : xs.length = n) (hn : xs.length ≤ 9223372036854775807) (hok : ∀ k (hk : k < xs.length), ivP xs[k]) (hd : 1 ≤ d ∧ d ≤ 30) (hft : 0 ≤ f ∧ f ≤ 99999 ∧ -1 ≤ t ∧ t ≤ 99999) :
    Calls Try.prog 59 #[.agg #[.int .i64 d, .slice A n cap], .int .i64 f, .int .i64 t] w fun e w' => e = .returned (.int .i64 (lastI (lastF d xs f t))) ∧ Below w.heap.size w w' := by
  subst hxl
  go_enter Try.func59, Try.ntmps59
  go_wp2_with (fail)
  go_loopw [7] (fun p wr => ∃ j : Nat, p = .int .i64 (t - (j : Int)) ∧ -1 ≤ t - (j : Int) ∧ (∀ v : Int, t - (j : Int) < v → v ≤ t → mayB d xs v = false) ∧ wr.cell? ⟨w.heap.size, 0, none⟩ = some (.int .i64 d) ∧ wr.cell? ⟨w.heap.size, 1, none⟩ = some (.slice A xs.length cap) ∧ w.heap.size + 1 ≤ wr.heap.size ∧ Below w.heap.size w wr) (fun p _ => (intOf p - f + 1).toNat)
  case atStart =>
    refine ⟨0, by simp, by omega, fun v h1 h2 => absurd h1 (by omega), ?_, ?_, ?_, by (repeat' (first | exact Below.refl _ _ | assumption | refine Below.setCell ?_ ?_ _ | refine Below.drew ?_ | refine Below.alloc ?_ ?_ _ | refine Below.trans ?_ (Below.mono (by assumption) ?_) | (simp; done) | (simp; omega) | omega))⟩
    all_goals first | (simp [go_sem, ↓IntWalk.iteOmega, *]; done) | (simp at *; omega)
  case round =>
    obtain ⟨j, rfl, hj, hl, hp0, hp1, hzz, hbr⟩ := hrel
    have hc := cellOf hbr
    have hf := frozOf hbr
    have hz := sizeOf hbr
    have hp0' : far wr w.heap.size 0 = _ := hp0
    have hp1' : far wr w.heap.size 1 = _ := hp1
    have HL := hid hl
    clear hl
    by_cases hlt : f ≤ t - (j : Int)
    rotate_left
    · have HE := hid (lastF_none (d := d) (xs := xs) (f := f) (t := t) (fun v h1 h2 => HL.out v (by omega) h2))
      go_wp2_with (fail)
      go_ret
      exact ⟨by first | (rw [HE.out]; done) | (rw [HE.out]; rfl), by (repeat' (first | exact Below.refl _ _ | assumption | refine Below.setCell ?_ ?_ _ | refine Below.drew ?_ | refine Below.alloc ?_ ?_ _ | refine Below.trans ?_ (Below.mono (by assumption) ?_) | (simp; done) | (simp; omega) | omega))⟩
    by_cases hm : mayB d xs (t - (j : Int)) = true
    · have HE := hid (lastF_hit (f := f) hlt (by omega) HL.out hm)
      go_wp2_with (first | (go_at_call 56; refine (c_spec_l15May _ _ _ _ _ _ _ (by first | assumption | exact Rds.below hx (by (repeat' (first | exact Below.refl _ _ | assumption | refine Below.setCell ?_ ?_ _ | refine Below.drew ?_ | refine Below.alloc ?_ ?_ _ | refine Below.trans ?_ (Below.mono (by assumption) ?_) | (simp; done) | (simp; omega) | omega)))) rfl (by omega) hok (by omega)).mono ?_; rintro e w' ⟨rfl, hb⟩; have hc := cellOf hb; have hf := frozOf hb; have hz := sizeOf hb; try simp at hz))
      go_ret
      exact ⟨by first | (rw [HE.out]; done) | (rw [HE.out]; rfl), by (repeat' (first | exact Below.refl _ _ | assumption | refine Below.setCell ?_ ?_ _ | refine Below.drew ?_ | refine Below.alloc ?_ ?_ _ | refine Below.trans ?_ (Below.mono (by assumption) ?_) | (simp; done) | (simp; omega) | omega))⟩
    · have hmf : mayB d xs (t - (j : Int)) = false := by simpa using hm
      have HM := hid hmf
      clear hm
      go_wp2_with (first | (go_at_call 56; refine (c_spec_l15May _ _ _ _ _ _ _ (by first | assumption | exact Rds.below hx (by (repeat' (first | exact Below.refl _ _ | assumption | refine Below.setCell ?_ ?_ _ | refine Below.drew ?_ | refine Below.alloc ?_ ?_ _ | refine Below.trans ?_ (Below.mono (by assumption) ?_) | (simp; done) | (simp; omega) | omega)))) rfl (by omega) hok (by omega)).mono ?_; rintro e w' ⟨rfl, hb⟩; have hc := cellOf hb; have hf := frozOf hb; have hz := sizeOf hb; try simp at hz))
      go_roundw
      case rel =>
        refine ⟨j + 1, by go_num, by omega, fun v h1 h2 => ?_, ?_, ?_, ?_, by (repeat' (first | exact Below.refl _ _ | assumption | refine Below.setCell ?_ ?_ _ | refine Below.drew ?_ | refine Below.alloc ?_ ?_ _ | refine Below.trans ?_ (Below.mono (by assumption) ?_) | (simp; done) | (simp; omega) | omega))⟩
        · by_cases hyj : t - (j : Int) < v
          · exact HL.out v hyj h2
          · obtain rfl : v = t - (j : Int) := by omega
            exact HM.out
        all_goals first | (simp [go_sem, ↓IntWalk.iteOmega, *]; done) | omega | (simp [go_sem, ↓IntWalk.iteOmega, *]; omega)
      case measure => simp [intOf]; omega

set_option maxRecDepth 100000 in
set_option maxHeartbeats 4000000 in
theorem c_spec_LastOpening (d : Int) (A : Option Addr) (xs : List (Int × Int)) (cap : Nat) (f t : Int) (w : World) (hx : Rds cIv 2 w A xs) (hn : xs.length ≤ 9223372036854775807) :
    Calls Try.prog 23 #[.agg #[.int .i64 d, .slice A xs.length cap], .int .i64 f, .int .i64 t] w fun e w' => e = .returned (.tuple #[.int .i64 (lastV d xs f t).1, .bool (lastV d xs f t).2]) ∧ Below w.heap.size w w' := by
  by_cases hs0 : brB d xs = true
  rotate_left
  · have hn0 : brB d xs = false := Bool.eq_false_iff.2 hs0
    have HV := hid (show lastV d xs f t = (0, false) by simp [lastV, hn0])
    clear hs0
    go_enter Try.func23, Try.ntmps23
    go_wp2_with (first | (go_at_call 50; refine (c_spec_l15Good _ _ _ _ _ (by first | assumption | exact Rds.below hx (by (repeat' (first | exact Below.refl _ _ | assumption | refine Below.setCell ?_ ?_ _ | refine Below.drew ?_ | refine Below.alloc ?_ ?_ _ | refine Below.trans ?_ (Below.mono (by assumption) ?_) | (simp; done) | (simp; omega) | omega)))) (by omega)).mono ?_; rintro e w' ⟨rfl, hb⟩; have hc := cellOf hb; have hf := frozOf hb; have hz := sizeOf hb; try simp at hz) | (go_at_call 55; refine (c_spec_l8Minute _ _ ).mono ?_; rintro e w' ⟨rfl, hb⟩; have hc := cellOf hb; have hf := frozOf hb; have hz := sizeOf hb; try simp at hz))
    all_goals go_ret2
    all_goals exact ⟨by first | (rw [HV.out]; done) | (rw [HV.out]; rfl), by (repeat' (first | exact Below.refl _ _ | assumption | refine Below.setCell ?_ ?_ _ | refine Below.drew ?_ | refine Below.alloc ?_ ?_ _ | refine Below.trans ?_ (Below.mono (by assumption) ?_) | (simp; done) | (simp; omega) | omega))⟩
  by_cases hs1 : minB f = true
  rotate_left
  · have hn1 : minB f = false := Bool.eq_false_iff.2 hs1
    have HV := hid (show lastV d xs f t = (0, false) by simp [lastV, hn1])
    clear hs1
    go_enter Try.func23, Try.ntmps23
    go_wp2_with (first | (go_at_call 50; refine (c_spec_l15Good _ _ _ _ _ (by first | assumption | exact Rds.below hx (by (repeat' (first | exact Below.refl _ _ | assumption | refine Below.setCell ?_ ?_ _ | refine Below.drew ?_ | refine Below.alloc ?_ ?_ _ | refine Below.trans ?_ (Below.mono (by assumption) ?_) | (simp; done) | (simp; omega) | omega)))) (by omega)).mono ?_; rintro e w' ⟨rfl, hb⟩; have hc := cellOf hb; have hf := frozOf hb; have hz := sizeOf hb; try simp at hz) | (go_at_call 55; refine (c_spec_l8Minute _ _ ).mono ?_; rintro e w' ⟨rfl, hb⟩; have hc := cellOf hb; have hf := frozOf hb; have hz := sizeOf hb; try simp at hz))
    all_goals go_ret2
    all_goals exact ⟨by first | (rw [HV.out]; done) | (rw [HV.out]; rfl), by (repeat' (first | exact Below.refl _ _ | assumption | refine Below.setCell ?_ ?_ _ | refine Below.drew ?_ | refine Below.alloc ?_ ?_ _ | refine Below.trans ?_ (Below.mono (by assumption) ?_) | (simp; done) | (simp; omega) | omega))⟩
  by_cases hs2 : minB t = true
  rotate_left
  · have hn2 : minB t = false := Bool.eq_false_iff.2 hs2
    have HV := hid (show lastV d xs f t = (0, false) by simp [lastV, hn2])
    clear hs2
    go_enter Try.func23, Try.ntmps23
    go_wp2_with (first | (go_at_call 50; refine (c_spec_l15Good _ _ _ _ _ (by first | assumption | exact Rds.below hx (by (repeat' (first | exact Below.refl _ _ | assumption | refine Below.setCell ?_ ?_ _ | refine Below.drew ?_ | refine Below.alloc ?_ ?_ _ | refine Below.trans ?_ (Below.mono (by assumption) ?_) | (simp; done) | (simp; omega) | omega)))) (by omega)).mono ?_; rintro e w' ⟨rfl, hb⟩; have hc := cellOf hb; have hf := frozOf hb; have hz := sizeOf hb; try simp at hz) | (go_at_call 55; refine (c_spec_l8Minute _ _ ).mono ?_; rintro e w' ⟨rfl, hb⟩; have hc := cellOf hb; have hf := frozOf hb; have hz := sizeOf hb; try simp at hz))
    all_goals go_ret2
    all_goals exact ⟨by first | (rw [HV.out]; done) | (rw [HV.out]; rfl), by (repeat' (first | exact Below.refl _ _ | assumption | refine Below.setCell ?_ ?_ _ | refine Below.drew ?_ | refine Below.alloc ?_ ?_ _ | refine Below.trans ?_ (Below.mono (by assumption) ?_) | (simp; done) | (simp; omega) | omega))⟩
  have hfb := minB_bd hs1
  have htb := minB_bd hs2
  have hdb := brB_dur hs0
  have hok := brB_P hs0
  have HV := hid (show lastV d xs f t = lastR (lastF d xs f t) by simp [lastV, hs0, hs1, hs2])
  cases hlf : lastF d xs f t with
  | none =>
    rw [hlf] at HV
    go_enter Try.func23, Try.ntmps23
    go_wp2_with (first | (first | (go_at_call 50; refine (c_spec_l15Good _ _ _ _ _ (by first | assumption | exact Rds.below hx (by (repeat' (first | exact Below.refl _ _ | assumption | refine Below.setCell ?_ ?_ _ | refine Below.drew ?_ | refine Below.alloc ?_ ?_ _ | refine Below.trans ?_ (Below.mono (by assumption) ?_) | (simp; done) | (simp; omega) | omega)))) (by omega)).mono ?_; rintro e w' ⟨rfl, hb⟩; have hc := cellOf hb; have hf := frozOf hb; have hz := sizeOf hb; try simp at hz) | (go_at_call 55; refine (c_spec_l8Minute _ _ ).mono ?_; rintro e w' ⟨rfl, hb⟩; have hc := cellOf hb; have hf := frozOf hb; have hz := sizeOf hb; try simp at hz)) | (go_at_call 59; refine (c_spec_l15Last _ _ _ _ _ _ _ _ (by first | assumption | exact Rds.below hx (by (repeat' (first | exact Below.refl _ _ | assumption | refine Below.setCell ?_ ?_ _ | refine Below.drew ?_ | refine Below.alloc ?_ ?_ _ | refine Below.trans ?_ (Below.mono (by assumption) ?_) | (simp; done) | (simp; omega) | omega)))) rfl (by omega) hok (by omega) (by omega)).mono ?_; simp only [hlf, lastR, lastI]; rintro e w' ⟨rfl, hb⟩; have hc := cellOf hb; have hf := frozOf hb; have hz := sizeOf hb; try simp at hz))
    go_ret2
    exact ⟨by first | (rw [HV.out]; done) | (rw [HV.out]; rfl), by (repeat' (first | exact Below.refl _ _ | assumption | refine Below.setCell ?_ ?_ _ | refine Below.drew ?_ | refine Below.alloc ?_ ?_ _ | refine Below.trans ?_ (Below.mono (by assumption) ?_) | (simp; done) | (simp; omega) | omega))⟩
  | some u =>
    have hub := lastF_some hlf
    have hu0 : 0 ≤ u := by omega
    clear hub
    rw [hlf] at HV
    go_enter Try.func23, Try.ntmps23
    go_wp2_with (first | (first | (go_at_call 50; refine (c_spec_l15Good _ _ _ _ _ (by first | assumption | exact Rds.below hx (by (repeat' (first | exact Below.refl _ _ | assumption | refine Below.setCell ?_ ?_ _ | refine Below.drew ?_ | refine Below.alloc ?_ ?_ _ | refine Below.trans ?_ (Below.mono (by assumption) ?_) | (simp; done) | (simp; omega) | omega)))) (by omega)).mono ?_; rintro e w' ⟨rfl, hb⟩; have hc := cellOf hb; have hf := frozOf hb; have hz := sizeOf hb; try simp at hz) | (go_at_call 55; refine (c_spec_l8Minute _ _ ).mono ?_; rintro e w' ⟨rfl, hb⟩; have hc := cellOf hb; have hf := frozOf hb; have hz := sizeOf hb; try simp at hz)) | (go_at_call 59; refine (c_spec_l15Last _ _ _ _ _ _ _ _ (by first | assumption | exact Rds.below hx (by (repeat' (first | exact Below.refl _ _ | assumption | refine Below.setCell ?_ ?_ _ | refine Below.drew ?_ | refine Below.alloc ?_ ?_ _ | refine Below.trans ?_ (Below.mono (by assumption) ?_) | (simp; done) | (simp; omega) | omega)))) rfl (by omega) hok (by omega) (by omega)).mono ?_; simp only [hlf, lastR, lastI]; rintro e w' ⟨rfl, hb⟩; have hc := cellOf hb; have hf := frozOf hb; have hz := sizeOf hb; try simp at hz))
    go_ret2
    exact ⟨by first | (rw [HV.out]; done) | (rw [HV.out]; rfl), by (repeat' (first | exact Below.refl _ _ | assumption | refine Below.setCell ?_ ?_ _ | refine Below.drew ?_ | refine Below.alloc ?_ ?_ _ | refine Below.trans ?_ (Below.mono (by assumption) ?_) | (simp; done) | (simp; omega) | omega))⟩

end Go.Proofs.Yteciijnpfapmhaa
