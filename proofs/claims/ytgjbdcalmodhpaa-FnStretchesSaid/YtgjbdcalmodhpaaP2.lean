import Derived.Test.YtgjbdcalmodhpaaP1
namespace Go.Proofs.Ytgjbdcalmodhpaa
set_option linter.unusedSimpArgs false
set_option linter.unusedVariables false
open Go.RowKit

def FS19_4 (wr : World) (x y : (Int × Bool × Int × Int)) (bx ox k n0 cap : Nat) (w W0 : World) (iq : Nat) (v : Value) (w1 : World) : Prop := match iq with
  | 0 => v = .agg #[.int .i64 (x.1), .bool (x.2.1), .int .i64 (x.2.2.1), .int .i64 (x.2.2.2)]
  | 1 => v = .bool (true)
  | 2 => v = .bool (false)
  | 3 => v = .bool (false)
  | 4 => v = .int .i64 (0)
  | 5 => v = .bool (false)
  | 6 => v = .bool (false)
  | 7 => v = undef
  | 8 => v = undef
  | 9 => v = undef
  | 10 => v = undef
  | 11 => v = undef
  | 12 => v = undef
  | 13 => v = undef
  | 14 => v = undef
  | 15 => v = undef
  | 16 => v = .bool (false)
  | 17 => v = .bool (false)
  | _ => True

def FS19_4_4 (wr : World) (x y : (Int × Bool × Int × Int)) (bx ox k n0 cap : Nat) (w W0 : World) (iq : Nat) (v : Value) (w1 : World) : Prop := match iq with
  | 0 => v = .agg #[.int .i64 (x.1), .bool (x.2.1), .int .i64 (x.2.2.1), .int .i64 (x.2.2.2)]
  | 1 => v = .bool (false)
  | 2 => v = .bool (true)
  | 3 => v = .bool (true)
  | 4 => v = undef
  | 5 => v = undef
  | 6 => v = undef
  | 7 => v = undef
  | 8 => v = undef
  | 9 => v = undef
  | 10 => v = undef
  | 11 => v = undef
  | 12 => v = undef
  | 13 => v = undef
  | 14 => v = undef
  | 15 => v = undef
  | 16 => v = undef
  | 17 => v = .bool (true)
  | _ => True

def FS19_4_5 (wr : World) (x y : (Int × Bool × Int × Int)) (bx ox k n0 cap : Nat) (w W0 : World) (iq : Nat) (v : Value) (w1 : World) : Prop := match iq with
  | 0 => v = .agg #[.int .i64 (x.1), .bool (x.2.1), .int .i64 (x.2.2.1), .int .i64 (x.2.2.2)]
  | 1 => v = .bool (true)
  | 2 => v = .bool (false)
  | 3 => v = .bool (false)
  | 4 => v = .int .i64 (k + 1)
  | 5 => v = .bool (true)
  | 6 => v = .bool (true)
  | 7 => v = .slice (some ⟨bx, ox, none⟩) n0 cap
  | 8 => v = .int .i64 (k + 1)
  | 9 => v = .int .i64 (k)
  | 10 => v = .pointer (some ⟨bx, ox + k * 4, none⟩)
  | 11 => v = .pointer (some ⟨bx, ox + k * 4, none⟩)
  | 12 => v = .int .i64 (y.1)
  | 13 => v = .pointer (some ⟨wr.heap.size, 0, none⟩)
  | 14 => v = .int .i64 (x.1)
  | 15 => v = .bool (false)
  | 16 => v = .bool (false)
  | 17 => v = .bool (false)
  | _ => True

def FS19_4_6 (wr : World) (x y : (Int × Bool × Int × Int)) (bx ox k n0 cap : Nat) (w W0 : World) (iq : Nat) (v : Value) (w1 : World) : Prop := match iq with
  | 0 => v = .agg #[.int .i64 (x.1), .bool (x.2.1), .int .i64 (x.2.2.1), .int .i64 (x.2.2.2)]
  | 1 => v = .bool (true)
  | 2 => v = .bool (false)
  | 3 => v = .bool (false)
  | 4 => v = .int .i64 (k + 1)
  | 5 => v = .bool (true)
  | 6 => v = .bool (true)
  | 7 => v = .slice (some ⟨bx, ox, none⟩) n0 cap
  | 8 => v = .int .i64 (k + 1)
  | 9 => v = .int .i64 (k)
  | 10 => v = .pointer (some ⟨bx, ox + k * 4, none⟩)
  | 11 => v = .pointer (some ⟨bx, ox + k * 4, none⟩)
  | 12 => v = .int .i64 (y.1)
  | 13 => v = .pointer (some ⟨wr.heap.size, 0, none⟩)
  | 14 => v = .int .i64 (x.1)
  | 15 => v = .bool (true)
  | 16 => v = .bool (true)
  | 17 => v = .bool (true)
  | _ => True

def FS19_4_7 (wr : World) (x y : (Int × Bool × Int × Int)) (bx ox k n0 cap : Nat) (w W0 : World) (iq : Nat) (v : Value) (w1 : World) : Prop := match iq with
  | 0 => v = .agg #[.int .i64 (x.1), .bool (x.2.1), .int .i64 (x.2.2.1), .int .i64 (x.2.2.2)]
  | 1 => v = .bool (false)
  | 2 => v = .bool (true)
  | 3 => v = .bool (true)
  | 4 => v = undef
  | 5 => v = undef
  | 6 => v = undef
  | 7 => v = undef
  | 8 => v = undef
  | 9 => v = undef
  | 10 => v = undef
  | 11 => v = undef
  | 12 => v = undef
  | 13 => v = undef
  | 14 => v = undef
  | 15 => v = undef
  | 16 => v = undef
  | 17 => v = .bool (true)
  | _ => True

set_option maxRecDepth 100000 in
set_option maxHeartbeats 4000000 in
theorem c_impl_ArePassages (A : Option Addr) (xs : List (Int × Bool × Int × Int)) (cap : Nat) (w : World) (h0 : Rds cPas 4 w A xs) (hn : xs.length ≤ 9223372036854775807) :
    Calls Try.prog 19 #[.slice A xs.length cap] w fun e w' => e = .returned (.bool (vB pOk pLt 6 xs)) ∧ Below w.heap.size w w' := by
  go_enter Try.func19, Try.ntmps19
  go_wp2_with (fail)
  go_loopw [7] (fun i wr => ∃ k : Nat, k ≤ xs.length ∧ i = .int .i64 k ∧ (∀ j, j < k → vAt pOk pLt xs j = true) ∧ Below w.heap.size w wr) (fun i _ => xs.length - (intOf i).toNat)
  case atStart => exact ⟨0, Nat.zero_le _, rfl, fun j hj => absurd hj (Nat.not_lt_zero j), Below.refl _ _⟩
  case round =>
    obtain ⟨k, hk, rfl, hl, hbr⟩ := hrel
    by_cases hlt : k < xs.length
    · skip
      obtain ⟨bx, ox, rfl, hbx, hcx⟩ := Rds.all h0 (by omega)
      have HB := hid (vB_bad (good := pOk) (lt := pLt) (n := 6) hlt)
      have HL := hid hl
      clear hl h0
      have hc := cellOf hbr
      have hf := frozOf hbr
      have hz := sizeOf hbr
      cases k with
      | zero =>
        have HV := hid (vAt_zero (good := pOk) (lt := pLt) hlt)
        have hx0 := hcx 0 hlt 0 _ rfl
        have hx1 := hcx 0 hlt 1 _ rfl
        have hx2 := hcx 0 hlt 2 _ rfl
        have hx3 := hcx 0 hlt 3 _ rfl
        simp only [Nat.zero_mul, Nat.add_zero] at hx0 hx1 hx2 hx3
        clear hcx
        generalize xs[0] = x at *
        by_cases hg : pOk x = true
        · have HG := hid hg
          simp only [pOk] at hg
          go_wp2_with (fail)
          refine wp_region_w (n := 18) [] [] (FS19_4 wr x x bx ox 0 xs.length cap w) rfl (by kernel_rfl) (fun _ _ d _ _ h => by cases d <;> exact h) ?_ ?_ ?_ ?_ ?_ ?_
          · intro iq
            match iq with
            | 0 | 1 | 2 | 3 | 4 | 5 | 6 | 7 | 8 | 9 | 10 | 11 | 12 | 13 | 14 | 15 | 16 | 17 => exact Stable.const _
            | n + 18 => exact Stable.const _
          · intro iq hi
            exact absurd hi (by simp)
          · intro iq hi
            exact absurd hi (by simp)
          · intro iq o hi hl ho vals w1 hb1 hf
            exact absurd hl (by simp)
          · intro iq o hi hl ho vals w1 hb1 hf
            match iq, hi with
            | 0, _ =>
              injection ho with ho
              subst ho
              clear hl
              simp only [fillA, List.take, List.drop, put_none, Act.put, List.setIfInBounds_toArray, List.set_cons_zero, List.set_cons_succ, Nat.reduceAdd]
              clear hf
              have hc1 := cellOf hb1
              have hf1 := frozOf hb1
              have hz1 := sizeOf hb1
              try simp at hz1
              go_wp2_with (fail)
              exact RQ.mk rfl ⟨(by first | rfl | (simp [FS19_4]; done) | (simp [FS19_4, *]; done) | (simp [FS19_4, gotV]; done) | (simp [FS19_4, gotV]; omega)), fun h => absurd h (by decide)⟩ (Below.refl _ _)
            | 1, _ =>
              injection ho with ho
              subst ho
              clear hl
              simp only [fillA, List.take, List.drop, put_none, Act.put, List.setIfInBounds_toArray, List.set_cons_zero, List.set_cons_succ, Nat.reduceAdd]
              have f0 := hf 0 (by decide) (by kernel_rfl)
              generalize vals 0 = v0 at *
              subst f0
              clear hf
              have hc1 := cellOf hb1
              have hf1 := frozOf hb1
              have hz1 := sizeOf hb1
              try simp at hz1
              go_wp2_with (first | (go_at_call 55; refine (c_impl_isPassage _ _ _ _ _ ).mono ?_; rintro e w' ⟨rfl, hb⟩; have hc := cellOf hb; have hf := frozOf hb; have hz := sizeOf hb; try simp at hz))
              exact RQ.mk rfl ⟨(by first | rfl | (simp [FS19_4]; done) | (simp [FS19_4, *]; done) | (simp [FS19_4, gotV]; done) | (simp [FS19_4, gotV]; omega)), fun h => absurd h (by decide)⟩ (by (repeat' (first | exact Below.refl _ _ | assumption | refine Below.setCell ?_ ?_ _ | refine Below.drew ?_ | refine Below.alloc ?_ ?_ _ | refine Below.trans ?_ (Below.mono (by assumption) ?_) | (simp; done) | (simp; omega) | omega)))
            | 2, _ =>
              injection ho with ho
              subst ho
              clear hl
              simp only [fillA, List.take, List.drop, put_none, Act.put, List.setIfInBounds_toArray, List.set_cons_zero, List.set_cons_succ, Nat.reduceAdd]
              have f1 := hf 1 (by decide) (by kernel_rfl)
              generalize vals 1 = v1 at *
              subst f1
              clear hf
              go_wp2_with (fail)
              exact RQ.mk rfl ⟨(by first | rfl | (simp [FS19_4]; done) | (simp [FS19_4, *]; done) | (simp [FS19_4, gotV]; done) | (simp [FS19_4, gotV]; omega)), fun h => absurd h (by decide)⟩ (Below.refl _ _)
            | 3, _ =>
              injection ho with ho
              subst ho
              clear hl
              simp only [fillA, List.take, List.drop, put_none, Act.put, List.setIfInBounds_toArray, List.set_cons_zero, List.set_cons_succ, Nat.reduceAdd]
              have f2 := hf 2 (by decide) (by kernel_rfl)
              generalize vals 2 = v2 at *
              subst f2
              have f1 := hf 1 (by decide) (by kernel_rfl)
              generalize vals 1 = v1 at *
              subst f1
              clear hf
              go_wp2_with (fail)
              exact RQ.mk rfl ⟨(by first | rfl | (simp [FS19_4]; done) | (simp [FS19_4, *]; done) | (simp [FS19_4, gotV]; done) | (simp [FS19_4, gotV]; omega)), fun h => absurd h (by decide)⟩ (Below.refl _ _)
            | 4, _ =>
              injection ho with ho
              subst ho
              clear hl
              simp only [fillA, List.take, List.drop, put_none, Act.put, List.setIfInBounds_toArray, List.set_cons_zero, List.set_cons_succ, Nat.reduceAdd]
              have f3 := hf 3 (by decide) (by kernel_rfl)
              generalize vals 3 = v3 at *
              subst f3
              clear hf
              go_wp2_with (fail)
              exact RQ.mk rfl ⟨(by first | rfl | (simp [FS19_4]; done) | (simp [FS19_4, *]; done) | (simp [FS19_4, gotV]; done) | (simp [FS19_4, gotV]; omega)), fun h => absurd h (by decide)⟩ (Below.refl _ _)
            | 5, _ =>
              injection ho with ho
              subst ho
              clear hl
              simp only [fillA, List.take, List.drop, put_none, Act.put, List.setIfInBounds_toArray, List.set_cons_zero, List.set_cons_succ, Nat.reduceAdd]
              have f4 := hf 4 (by decide) (by kernel_rfl)
              generalize vals 4 = v4 at *
              subst f4
              have f3 := hf 3 (by decide) (by kernel_rfl)
              generalize vals 3 = v3 at *
              subst f3
              clear hf
              go_wp2_with (fail)
              exact RQ.mk rfl ⟨(by first | rfl | (simp [FS19_4]; done) | (simp [FS19_4, *]; done) | (simp [FS19_4, gotV]; done) | (simp [FS19_4, gotV]; omega)), fun h => absurd h (by decide)⟩ (Below.refl _ _)
            | 6, _ =>
              injection ho with ho
              subst ho
              clear hl
              simp only [fillA, List.take, List.drop, put_none, Act.put, List.setIfInBounds_toArray, List.set_cons_zero, List.set_cons_succ, Nat.reduceAdd]
              have f5 := hf 5 (by decide) (by kernel_rfl)
              generalize vals 5 = v5 at *
              subst f5
              have f3 := hf 3 (by decide) (by kernel_rfl)
              generalize vals 3 = v3 at *
              subst f3
              clear hf
              go_wp2_with (fail)
              exact RQ.mk rfl ⟨(by first | rfl | (simp [FS19_4]; done) | (simp [FS19_4, *]; done) | (simp [FS19_4, gotV]; done) | (simp [FS19_4, gotV]; omega)), fun h => absurd h (by decide)⟩ (Below.refl _ _)
            | 7, _ =>
              injection ho with ho
              subst ho
              clear hl
              simp only [fillA, List.take, List.drop, put_none, Act.put, List.setIfInBounds_toArray, List.set_cons_zero, List.set_cons_succ, Nat.reduceAdd]
              have f6 := hf 6 (by decide) (by kernel_rfl)
              generalize vals 6 = v6 at *
              subst f6
              clear hf
              go_wp2_with (fail)
              exact RQ.mk rfl ⟨(by first | rfl | (simp [FS19_4]; done) | (simp [FS19_4, *]; done) | (simp [FS19_4, gotV]; done) | (simp [FS19_4, gotV]; omega)), fun h => absurd h (by decide)⟩ (Below.refl _ _)
            | 8, _ =>
              injection ho with ho
              subst ho
              clear hl
              simp only [fillA, List.take, List.drop, put_none, Act.put, List.setIfInBounds_toArray, List.set_cons_zero, List.set_cons_succ, Nat.reduceAdd]
              have f6 := hf 6 (by decide) (by kernel_rfl)
              generalize vals 6 = v6 at *
              subst f6
              clear hf
              go_wp2_with (fail)
              exact RQ.mk rfl ⟨(by first | rfl | (simp [FS19_4]; done) | (simp [FS19_4, *]; done) | (simp [FS19_4, gotV]; done) | (simp [FS19_4, gotV]; omega)), fun h => absurd h (by decide)⟩ (Below.refl _ _)
            | 9, _ =>
              injection ho with ho
              subst ho
              clear hl
              simp only [fillA, List.take, List.drop, put_none, Act.put, List.setIfInBounds_toArray, List.set_cons_zero, List.set_cons_succ, Nat.reduceAdd]
              have f8 := hf 8 (by decide) (by kernel_rfl)
              generalize vals 8 = v8 at *
              subst f8
              have f6 := hf 6 (by decide) (by kernel_rfl)
              generalize vals 6 = v6 at *
              subst f6
              clear hf
              go_wp2_with (fail)
              exact RQ.mk rfl ⟨(by first | rfl | (simp [FS19_4]; done) | (simp [FS19_4, *]; done) | (simp [FS19_4, gotV]; done) | (simp [FS19_4, gotV]; omega)), fun h => absurd h (by decide)⟩ (Below.refl _ _)
            | 10, _ =>
              injection ho with ho
              subst ho
              clear hl
              simp only [fillA, List.take, List.drop, put_none, Act.put, List.setIfInBounds_toArray, List.set_cons_zero, List.set_cons_succ, Nat.reduceAdd]
              have f7 := hf 7 (by decide) (by kernel_rfl)
              generalize vals 7 = v7 at *
              subst f7
              have f9 := hf 9 (by decide) (by kernel_rfl)
              generalize vals 9 = v9 at *
              subst f9
              have f6 := hf 6 (by decide) (by kernel_rfl)
              generalize vals 6 = v6 at *
              subst f6
              clear hf
              go_wp2_with (fail)
              exact RQ.mk rfl ⟨(by first | rfl | (simp [FS19_4]; done) | (simp [FS19_4, *]; done) | (simp [FS19_4, gotV]; done) | (simp [FS19_4, gotV]; omega)), fun h => absurd h (by decide)⟩ (Below.refl _ _)
            | 11, _ =>
              injection ho with ho
              subst ho
              clear hl
              simp only [fillA, List.take, List.drop, put_none, Act.put, List.setIfInBounds_toArray, List.set_cons_zero, List.set_cons_succ, Nat.reduceAdd]
              have f10 := hf 10 (by decide) (by kernel_rfl)
              generalize vals 10 = v10 at *
              subst f10
              have f6 := hf 6 (by decide) (by kernel_rfl)
              generalize vals 6 = v6 at *
              subst f6
              clear hf
              go_wp2_with (fail)
              exact RQ.mk rfl ⟨(by first | rfl | (simp [FS19_4]; done) | (simp [FS19_4, *]; done) | (simp [FS19_4, gotV]; done) | (simp [FS19_4, gotV]; omega)), fun h => absurd h (by decide)⟩ (Below.refl _ _)
            | 12, _ =>
              injection ho with ho
              subst ho
              clear hl
              simp only [fillA, List.take, List.drop, put_none, Act.put, List.setIfInBounds_toArray, List.set_cons_zero, List.set_cons_succ, Nat.reduceAdd]
              have f11 := hf 11 (by decide) (by kernel_rfl)
              generalize vals 11 = v11 at *
              subst f11
              have f6 := hf 6 (by decide) (by kernel_rfl)
              generalize vals 6 = v6 at *
              subst f6
              clear hf
              go_wp2_with (fail)
              exact RQ.mk rfl ⟨(by first | rfl | (simp [FS19_4]; done) | (simp [FS19_4, *]; done) | (simp [FS19_4, gotV]; done) | (simp [FS19_4, gotV]; omega)), fun h => absurd h (by decide)⟩ (Below.refl _ _)
            | 13, _ =>
              injection ho with ho
              subst ho
              clear hl
              simp only [fillA, List.take, List.drop, put_none, Act.put, List.setIfInBounds_toArray, List.set_cons_zero, List.set_cons_succ, Nat.reduceAdd]
              have f6 := hf 6 (by decide) (by kernel_rfl)
              generalize vals 6 = v6 at *
              subst f6
              clear hf
              go_wp2_with (fail)
              exact RQ.mk rfl ⟨(by first | rfl | (simp [FS19_4]; done) | (simp [FS19_4, *]; done) | (simp [FS19_4, gotV]; done) | (simp [FS19_4, gotV]; omega)), fun h => absurd h (by decide)⟩ (Below.refl _ _)
            | 14, _ =>
              injection ho with ho
              subst ho
              clear hl
              simp only [fillA, List.take, List.drop, put_none, Act.put, List.setIfInBounds_toArray, List.set_cons_zero, List.set_cons_succ, Nat.reduceAdd]
              have f13 := hf 13 (by decide) (by kernel_rfl)
              generalize vals 13 = v13 at *
              subst f13
              have f6 := hf 6 (by decide) (by kernel_rfl)
              generalize vals 6 = v6 at *
              subst f6
              clear hf
              go_wp2_with (fail)
              exact RQ.mk rfl ⟨(by first | rfl | (simp [FS19_4]; done) | (simp [FS19_4, *]; done) | (simp [FS19_4, gotV]; done) | (simp [FS19_4, gotV]; omega)), fun h => absurd h (by decide)⟩ (Below.refl _ _)
            | 15, _ =>
              injection ho with ho
              subst ho
              clear hl
              simp only [fillA, List.take, List.drop, put_none, Act.put, List.setIfInBounds_toArray, List.set_cons_zero, List.set_cons_succ, Nat.reduceAdd]
              have f12 := hf 12 (by decide) (by kernel_rfl)
              generalize vals 12 = v12 at *
              subst f12
              have f14 := hf 14 (by decide) (by kernel_rfl)
              generalize vals 14 = v14 at *
              subst f14
              have f6 := hf 6 (by decide) (by kernel_rfl)
              generalize vals 6 = v6 at *
              subst f6
              clear hf
              go_wp2_with (fail)
              exact RQ.mk rfl ⟨(by first | rfl | (simp [FS19_4]; done) | (simp [FS19_4, *]; done) | (simp [FS19_4, gotV]; done) | (simp [FS19_4, gotV]; omega)), fun h => absurd h (by decide)⟩ (Below.refl _ _)
            | 16, _ =>
              injection ho with ho
              subst ho
              clear hl
              simp only [fillA, List.take, List.drop, put_none, Act.put, List.setIfInBounds_toArray, List.set_cons_zero, List.set_cons_succ, Nat.reduceAdd]
              have f6 := hf 6 (by decide) (by kernel_rfl)
              generalize vals 6 = v6 at *
              subst f6
              have f15 := hf 15 (by decide) (by kernel_rfl)
              generalize vals 15 = v15 at *
              subst f15
              have f3 := hf 3 (by decide) (by kernel_rfl)
              generalize vals 3 = v3 at *
              subst f3
              clear hf
              go_wp2_with (fail)
              exact RQ.mk rfl ⟨(by first | rfl | (simp [FS19_4]; done) | (simp [FS19_4, *]; done) | (simp [FS19_4, gotV]; done) | (simp [FS19_4, gotV]; omega)), fun h => absurd h (by decide)⟩ (Below.refl _ _)
            | 17, _ =>
              injection ho with ho
              subst ho
              clear hl
              simp only [fillA, List.take, List.drop, put_none, Act.put, List.setIfInBounds_toArray, List.set_cons_zero, List.set_cons_succ, Nat.reduceAdd]
              have f3 := hf 3 (by decide) (by kernel_rfl)
              generalize vals 3 = v3 at *
              subst f3
              have f16 := hf 16 (by decide) (by kernel_rfl)
              generalize vals 16 = v16 at *
              subst f16
              clear hf
              go_wp2_with (fail)
              exact RQ.mk rfl ⟨(by first | rfl | (simp [FS19_4]; done) | (simp [FS19_4, *]; done) | (simp [FS19_4, gotV]; done) | (simp [FS19_4, gotV]; omega)), fun h => absurd h (by decide)⟩ (Below.refl _ _)
            | m + 18, h => exact absurd h (by omega)
          · intro vals w1 hb1 hf hd
            simp only [fillA, List.take, List.drop, put_none, Act.put, List.setIfInBounds_toArray, List.set_cons_zero, List.set_cons_succ, Nat.reduceAdd]
            clear hd
            have f0 := hf 0 (by decide)
            generalize vals 0 = v0 at *
            subst f0
            have f1 := hf 1 (by decide)
            generalize vals 1 = v1 at *
            subst f1
            have f2 := hf 2 (by decide)
            generalize vals 2 = v2 at *
            subst f2
            have f3 := hf 3 (by decide)
            generalize vals 3 = v3 at *
            subst f3
            have f4 := hf 4 (by decide)
            generalize vals 4 = v4 at *
            subst f4
            have f5 := hf 5 (by decide)
            generalize vals 5 = v5 at *
            subst f5
            have f6 := hf 6 (by decide)
            generalize vals 6 = v6 at *
            subst f6
            have f7 := hf 7 (by decide)
            generalize vals 7 = v7 at *
            subst f7
            have f8 := hf 8 (by decide)
            generalize vals 8 = v8 at *
            subst f8
            have f9 := hf 9 (by decide)
            generalize vals 9 = v9 at *
            subst f9
            have f10 := hf 10 (by decide)
            generalize vals 10 = v10 at *
            subst f10
            have f11 := hf 11 (by decide)
            generalize vals 11 = v11 at *
            subst f11
            have f12 := hf 12 (by decide)
            generalize vals 12 = v12 at *
            subst f12
            have f13 := hf 13 (by decide)
            generalize vals 13 = v13 at *
            subst f13
            have f14 := hf 14 (by decide)
            generalize vals 14 = v14 at *
            subst f14
            have f15 := hf 15 (by decide)
            generalize vals 15 = v15 at *
            subst f15
            have f16 := hf 16 (by decide)
            generalize vals 16 = v16 at *
            subst f16
            have f17 := hf 17 (by decide)
            generalize vals 17 = v17 at *
            subst f17
            clear hf
            have hc1 := cellOf hb1
            have hf1 := frozOf hb1
            have hz1 := sizeOf hb1
            try simp at hz1
            go_wp2_with (fail)
            go_roundw
            case rel =>
              refine ⟨1, by omega, by go_num, fun j hj => ?_, (by (repeat' (first | exact Below.refl _ _ | assumption | refine Below.setCell ?_ ?_ _ | refine Below.drew ?_ | refine Below.alloc ?_ ?_ _ | refine Below.trans ?_ (Below.mono (by assumption) ?_) | (simp; done) | (simp; omega) | omega)))⟩
              obtain rfl : j = 0 := by omega
              rw [HV.out, HG.out]
            case measure => simp [intOf]; omega
        · have HG : Hid (pOk x = false) := by show _ = _; simpa using hg
          clear hg
          have hg := HG.out
          simp only [pOk] at hg
          go_wp2_with (fail)
          refine wp_region_w (n := 18) [] [] (FS19_4_4 wr x x bx ox 0 xs.length cap w) rfl (by kernel_rfl) (fun _ _ d _ _ h => by cases d <;> exact h) ?_ ?_ ?_ ?_ ?_ ?_
          · intro iq
            match iq with
            | 0 | 1 | 2 | 3 | 4 | 5 | 6 | 7 | 8 | 9 | 10 | 11 | 12 | 13 | 14 | 15 | 16 | 17 => exact Stable.const _
            | n + 18 => exact Stable.const _
          · intro iq hi
            exact absurd hi (by simp)
          · intro iq hi
            exact absurd hi (by simp)
          · intro iq o hi hl ho vals w1 hb1 hf
            exact absurd hl (by simp)
          · intro iq o hi hl ho vals w1 hb1 hf
            match iq, hi with
            | 0, _ =>
              injection ho with ho
              subst ho
              clear hl
              simp only [fillA, List.take, List.drop, put_none, Act.put, List.setIfInBounds_toArray, List.set_cons_zero, List.set_cons_succ, Nat.reduceAdd]
              clear hf
              have hc1 := cellOf hb1
              have hf1 := frozOf hb1
              have hz1 := sizeOf hb1
              try simp at hz1
              go_wp2_with (fail)
              exact RQ.mk rfl ⟨(by first | rfl | (simp [FS19_4_4]; done) | (simp [FS19_4_4, *]; done) | (simp [FS19_4_4, gotV]; done) | (simp [FS19_4_4, gotV]; omega)), fun h => absurd h (by decide)⟩ (Below.refl _ _)
            | 1, _ =>
              injection ho with ho
              subst ho
              clear hl
              simp only [fillA, List.take, List.drop, put_none, Act.put, List.setIfInBounds_toArray, List.set_cons_zero, List.set_cons_succ, Nat.reduceAdd]
              have f0 := hf 0 (by decide) (by kernel_rfl)
              generalize vals 0 = v0 at *
              subst f0
              clear hf
              have hc1 := cellOf hb1
              have hf1 := frozOf hb1
              have hz1 := sizeOf hb1
              try simp at hz1
              go_wp2_with (first | (go_at_call 55; refine (c_impl_isPassage _ _ _ _ _ ).mono ?_; rintro e w' ⟨rfl, hb⟩; have hc := cellOf hb; have hf := frozOf hb; have hz := sizeOf hb; try simp at hz))
              exact RQ.mk rfl ⟨(by first | rfl | (simp [FS19_4_4]; done) | (simp [FS19_4_4, *]; done) | (simp [FS19_4_4, gotV]; done) | (simp [FS19_4_4, gotV]; omega)), fun h => absurd h (by decide)⟩ (by (repeat' (first | exact Below.refl _ _ | assumption | refine Below.setCell ?_ ?_ _ | refine Below.drew ?_ | refine Below.alloc ?_ ?_ _ | refine Below.trans ?_ (Below.mono (by assumption) ?_) | (simp; done) | (simp; omega) | omega)))
            | 2, _ =>
              injection ho with ho
              subst ho
              clear hl
              simp only [fillA, List.take, List.drop, put_none, Act.put, List.setIfInBounds_toArray, List.set_cons_zero, List.set_cons_succ, Nat.reduceAdd]
              have f1 := hf 1 (by decide) (by kernel_rfl)
              generalize vals 1 = v1 at *
              subst f1
              clear hf
              go_wp2_with (fail)
              exact RQ.mk rfl ⟨(by first | rfl | (simp [FS19_4_4]; done) | (simp [FS19_4_4, *]; done) | (simp [FS19_4_4, gotV]; done) | (simp [FS19_4_4, gotV]; omega)), fun h => absurd h (by decide)⟩ (Below.refl _ _)
            | 3, _ =>
              injection ho with ho
              subst ho
              clear hl
              simp only [fillA, List.take, List.drop, put_none, Act.put, List.setIfInBounds_toArray, List.set_cons_zero, List.set_cons_succ, Nat.reduceAdd]
              have f2 := hf 2 (by decide) (by kernel_rfl)
              generalize vals 2 = v2 at *
              subst f2
              have f1 := hf 1 (by decide) (by kernel_rfl)
              generalize vals 1 = v1 at *
              subst f1
              clear hf
              go_wp2_with (fail)
              exact RQ.mk rfl ⟨(by first | rfl | (simp [FS19_4_4]; done) | (simp [FS19_4_4, *]; done) | (simp [FS19_4_4, gotV]; done) | (simp [FS19_4_4, gotV]; omega)), fun h => absurd h (by decide)⟩ (Below.refl _ _)
            | 4, _ =>
              injection ho with ho
              subst ho
              clear hl
              simp only [fillA, List.take, List.drop, put_none, Act.put, List.setIfInBounds_toArray, List.set_cons_zero, List.set_cons_succ, Nat.reduceAdd]
              have f3 := hf 3 (by decide) (by kernel_rfl)
              generalize vals 3 = v3 at *
              subst f3
              clear hf
              go_wp2_with (fail)
              exact RQ.mk rfl ⟨(by first | rfl | (simp [FS19_4_4]; done) | (simp [FS19_4_4, *]; done) | (simp [FS19_4_4, gotV]; done) | (simp [FS19_4_4, gotV]; omega)), fun h => absurd h (by decide)⟩ (Below.refl _ _)
            | 5, _ =>
              injection ho with ho
              subst ho
              clear hl
              simp only [fillA, List.take, List.drop, put_none, Act.put, List.setIfInBounds_toArray, List.set_cons_zero, List.set_cons_succ, Nat.reduceAdd]
              have f4 := hf 4 (by decide) (by kernel_rfl)
              generalize vals 4 = v4 at *
              subst f4
              have f3 := hf 3 (by decide) (by kernel_rfl)
              generalize vals 3 = v3 at *
              subst f3
              clear hf
              go_wp2_with (fail)
              exact RQ.mk rfl ⟨(by first | rfl | (simp [FS19_4_4]; done) | (simp [FS19_4_4, *]; done) | (simp [FS19_4_4, gotV]; done) | (simp [FS19_4_4, gotV]; omega)), fun h => absurd h (by decide)⟩ (Below.refl _ _)
            | 6, _ =>
              injection ho with ho
              subst ho
              clear hl
              simp only [fillA, List.take, List.drop, put_none, Act.put, List.setIfInBounds_toArray, List.set_cons_zero, List.set_cons_succ, Nat.reduceAdd]
              have f5 := hf 5 (by decide) (by kernel_rfl)
              generalize vals 5 = v5 at *
              subst f5
              have f3 := hf 3 (by decide) (by kernel_rfl)
              generalize vals 3 = v3 at *
              subst f3
              clear hf
              go_wp2_with (fail)
              exact RQ.mk rfl ⟨(by first | rfl | (simp [FS19_4_4]; done) | (simp [FS19_4_4, *]; done) | (simp [FS19_4_4, gotV]; done) | (simp [FS19_4_4, gotV]; omega)), fun h => absurd h (by decide)⟩ (Below.refl _ _)
            | 7, _ =>
              injection ho with ho
              subst ho
              clear hl
              simp only [fillA, List.take, List.drop, put_none, Act.put, List.setIfInBounds_toArray, List.set_cons_zero, List.set_cons_succ, Nat.reduceAdd]
              have f6 := hf 6 (by decide) (by kernel_rfl)
              generalize vals 6 = v6 at *
              subst f6
              clear hf
              go_wp2_with (fail)
              exact RQ.mk rfl ⟨(by first | rfl | (simp [FS19_4_4]; done) | (simp [FS19_4_4, *]; done) | (simp [FS19_4_4, gotV]; done) | (simp [FS19_4_4, gotV]; omega)), fun h => absurd h (by decide)⟩ (Below.refl _ _)
            | 8, _ =>
              injection ho with ho
              subst ho
              clear hl
              simp only [fillA, List.take, List.drop, put_none, Act.put, List.setIfInBounds_toArray, List.set_cons_zero, List.set_cons_succ, Nat.reduceAdd]
              have f6 := hf 6 (by decide) (by kernel_rfl)
              generalize vals 6 = v6 at *
              subst f6
              clear hf
              go_wp2_with (fail)
              exact RQ.mk rfl ⟨(by first | rfl | (simp [FS19_4_4]; done) | (simp [FS19_4_4, *]; done) | (simp [FS19_4_4, gotV]; done) | (simp [FS19_4_4, gotV]; omega)), fun h => absurd h (by decide)⟩ (Below.refl _ _)
            | 9, _ =>
              injection ho with ho
              subst ho
              clear hl
              simp only [fillA, List.take, List.drop, put_none, Act.put, List.setIfInBounds_toArray, List.set_cons_zero, List.set_cons_succ, Nat.reduceAdd]
              have f8 := hf 8 (by decide) (by kernel_rfl)
              generalize vals 8 = v8 at *
              subst f8
              have f6 := hf 6 (by decide) (by kernel_rfl)
              generalize vals 6 = v6 at *
              subst f6
              clear hf
              go_wp2_with (fail)
              exact RQ.mk rfl ⟨(by first | rfl | (simp [FS19_4_4]; done) | (simp [FS19_4_4, *]; done) | (simp [FS19_4_4, gotV]; done) | (simp [FS19_4_4, gotV]; omega)), fun h => absurd h (by decide)⟩ (Below.refl _ _)
            | 10, _ =>
              injection ho with ho
              subst ho
              clear hl
              simp only [fillA, List.take, List.drop, put_none, Act.put, List.setIfInBounds_toArray, List.set_cons_zero, List.set_cons_succ, Nat.reduceAdd]
              have f7 := hf 7 (by decide) (by kernel_rfl)
              generalize vals 7 = v7 at *
              subst f7
              have f9 := hf 9 (by decide) (by kernel_rfl)
              generalize vals 9 = v9 at *
              subst f9
              have f6 := hf 6 (by decide) (by kernel_rfl)
              generalize vals 6 = v6 at *
              subst f6
              clear hf
              go_wp2_with (fail)
              exact RQ.mk rfl ⟨(by first | rfl | (simp [FS19_4_4]; done) | (simp [FS19_4_4, *]; done) | (simp [FS19_4_4, gotV]; done) | (simp [FS19_4_4, gotV]; omega)), fun h => absurd h (by decide)⟩ (Below.refl _ _)
            | 11, _ =>
              injection ho with ho
              subst ho
              clear hl
              simp only [fillA, List.take, List.drop, put_none, Act.put, List.setIfInBounds_toArray, List.set_cons_zero, List.set_cons_succ, Nat.reduceAdd]
              have f10 := hf 10 (by decide) (by kernel_rfl)
              generalize vals 10 = v10 at *
              subst f10
              have f6 := hf 6 (by decide) (by kernel_rfl)
              generalize vals 6 = v6 at *
              subst f6
              clear hf
              go_wp2_with (fail)
              exact RQ.mk rfl ⟨(by first | rfl | (simp [FS19_4_4]; done) | (simp [FS19_4_4, *]; done) | (simp [FS19_4_4, gotV]; done) | (simp [FS19_4_4, gotV]; omega)), fun h => absurd h (by decide)⟩ (Below.refl _ _)
            | 12, _ =>
              injection ho with ho
              subst ho
              clear hl
              simp only [fillA, List.take, List.drop, put_none, Act.put, List.setIfInBounds_toArray, List.set_cons_zero, List.set_cons_succ, Nat.reduceAdd]
              have f11 := hf 11 (by decide) (by kernel_rfl)
              generalize vals 11 = v11 at *
              subst f11
              have f6 := hf 6 (by decide) (by kernel_rfl)
              generalize vals 6 = v6 at *
              subst f6
              clear hf
              go_wp2_with (fail)
              exact RQ.mk rfl ⟨(by first | rfl | (simp [FS19_4_4]; done) | (simp [FS19_4_4, *]; done) | (simp [FS19_4_4, gotV]; done) | (simp [FS19_4_4, gotV]; omega)), fun h => absurd h (by decide)⟩ (Below.refl _ _)
            | 13, _ =>
              injection ho with ho
              subst ho
              clear hl
              simp only [fillA, List.take, List.drop, put_none, Act.put, List.setIfInBounds_toArray, List.set_cons_zero, List.set_cons_succ, Nat.reduceAdd]
              have f6 := hf 6 (by decide) (by kernel_rfl)
              generalize vals 6 = v6 at *
              subst f6
              clear hf
              go_wp2_with (fail)
              exact RQ.mk rfl ⟨(by first | rfl | (simp [FS19_4_4]; done) | (simp [FS19_4_4, *]; done) | (simp [FS19_4_4, gotV]; done) | (simp [FS19_4_4, gotV]; omega)), fun h => absurd h (by decide)⟩ (Below.refl _ _)
            | 14, _ =>
              injection ho with ho
              subst ho
              clear hl
              simp only [fillA, List.take, List.drop, put_none, Act.put, List.setIfInBounds_toArray, List.set_cons_zero, List.set_cons_succ, Nat.reduceAdd]
              have f13 := hf 13 (by decide) (by kernel_rfl)
              generalize vals 13 = v13 at *
              subst f13
              have f6 := hf 6 (by decide) (by kernel_rfl)
              generalize vals 6 = v6 at *
              subst f6
              clear hf
              go_wp2_with (fail)
              exact RQ.mk rfl ⟨(by first | rfl | (simp [FS19_4_4]; done) | (simp [FS19_4_4, *]; done) | (simp [FS19_4_4, gotV]; done) | (simp [FS19_4_4, gotV]; omega)), fun h => absurd h (by decide)⟩ (Below.refl _ _)
            | 15, _ =>
              injection ho with ho
              subst ho
              clear hl
              simp only [fillA, List.take, List.drop, put_none, Act.put, List.setIfInBounds_toArray, List.set_cons_zero, List.set_cons_succ, Nat.reduceAdd]
              have f12 := hf 12 (by decide) (by kernel_rfl)
              generalize vals 12 = v12 at *
              subst f12
              have f14 := hf 14 (by decide) (by kernel_rfl)
              generalize vals 14 = v14 at *
              subst f14
              have f6 := hf 6 (by decide) (by kernel_rfl)
              generalize vals 6 = v6 at *
              subst f6
              clear hf
              go_wp2_with (fail)
              exact RQ.mk rfl ⟨(by first | rfl | (simp [FS19_4_4]; done) | (simp [FS19_4_4, *]; done) | (simp [FS19_4_4, gotV]; done) | (simp [FS19_4_4, gotV]; omega)), fun h => absurd h (by decide)⟩ (Below.refl _ _)
            | 16, _ =>
              injection ho with ho
              subst ho
              clear hl
              simp only [fillA, List.take, List.drop, put_none, Act.put, List.setIfInBounds_toArray, List.set_cons_zero, List.set_cons_succ, Nat.reduceAdd]
              have f6 := hf 6 (by decide) (by kernel_rfl)
              generalize vals 6 = v6 at *
              subst f6
              have f15 := hf 15 (by decide) (by kernel_rfl)
              generalize vals 15 = v15 at *
              subst f15
              have f3 := hf 3 (by decide) (by kernel_rfl)
              generalize vals 3 = v3 at *
              subst f3
              clear hf
              go_wp2_with (fail)
              exact RQ.mk rfl ⟨(by first | rfl | (simp [FS19_4_4]; done) | (simp [FS19_4_4, *]; done) | (simp [FS19_4_4, gotV]; done) | (simp [FS19_4_4, gotV]; omega)), fun h => absurd h (by decide)⟩ (Below.refl _ _)
            | 17, _ =>
              injection ho with ho
              subst ho
              clear hl
              simp only [fillA, List.take, List.drop, put_none, Act.put, List.setIfInBounds_toArray, List.set_cons_zero, List.set_cons_succ, Nat.reduceAdd]
              have f3 := hf 3 (by decide) (by kernel_rfl)
              generalize vals 3 = v3 at *
              subst f3
              have f16 := hf 16 (by decide) (by kernel_rfl)
              generalize vals 16 = v16 at *
              subst f16
              clear hf
              go_wp2_with (fail)
              exact RQ.mk rfl ⟨(by first | rfl | (simp [FS19_4_4]; done) | (simp [FS19_4_4, *]; done) | (simp [FS19_4_4, gotV]; done) | (simp [FS19_4_4, gotV]; omega)), fun h => absurd h (by decide)⟩ (Below.refl _ _)
            | m + 18, h => exact absurd h (by omega)
          · intro vals w1 hb1 hf hd
            simp only [fillA, List.take, List.drop, put_none, Act.put, List.setIfInBounds_toArray, List.set_cons_zero, List.set_cons_succ, Nat.reduceAdd]
            clear hd
            have f0 := hf 0 (by decide)
            generalize vals 0 = v0 at *
            subst f0
            have f1 := hf 1 (by decide)
            generalize vals 1 = v1 at *
            subst f1
            have f2 := hf 2 (by decide)
            generalize vals 2 = v2 at *
            subst f2
            have f3 := hf 3 (by decide)
            generalize vals 3 = v3 at *
            subst f3
            have f4 := hf 4 (by decide)
            generalize vals 4 = v4 at *
            subst f4
            have f5 := hf 5 (by decide)
            generalize vals 5 = v5 at *
            subst f5
            have f6 := hf 6 (by decide)
            generalize vals 6 = v6 at *
            subst f6
            have f7 := hf 7 (by decide)
            generalize vals 7 = v7 at *
            subst f7
            have f8 := hf 8 (by decide)
            generalize vals 8 = v8 at *
            subst f8
            have f9 := hf 9 (by decide)
            generalize vals 9 = v9 at *
            subst f9
            have f10 := hf 10 (by decide)
            generalize vals 10 = v10 at *
            subst f10
            have f11 := hf 11 (by decide)
            generalize vals 11 = v11 at *
            subst f11
            have f12 := hf 12 (by decide)
            generalize vals 12 = v12 at *
            subst f12
            have f13 := hf 13 (by decide)
            generalize vals 13 = v13 at *
            subst f13
            have f14 := hf 14 (by decide)
            generalize vals 14 = v14 at *
            subst f14
            have f15 := hf 15 (by decide)
            generalize vals 15 = v15 at *
            subst f15
            have f16 := hf 16 (by decide)
            generalize vals 16 = v16 at *
            subst f16
            have f17 := hf 17 (by decide)
            generalize vals 17 = v17 at *
            subst f17
            clear hf
            have hc1 := cellOf hb1
            have hf1 := frozOf hb1
            have hz1 := sizeOf hb1
            try simp at hz1
            go_wp2_with (fail)
            go_ret
            exact ⟨ret_bool (by rw [HB.out (by rw [HV.out, HG.out])]), (by (repeat' (first | exact Below.refl _ _ | assumption | refine Below.setCell ?_ ?_ _ | refine Below.drew ?_ | refine Below.alloc ?_ ?_ _ | refine Below.trans ?_ (Below.mono (by assumption) ?_) | (simp; done) | (simp; omega) | omega)))⟩
      | succ k =>
        have HV := hid (vAt_succ (good := pOk) (lt := pLt) k hlt)
        have hlt' : k < xs.length := by omega
        have hx0 := hcx (k + 1) hlt 0 _ rfl
        have hx1 := hcx (k + 1) hlt 1 _ rfl
        have hx2 := hcx (k + 1) hlt 2 _ rfl
        have hx3 := hcx (k + 1) hlt 3 _ rfl
        have hy0 := hcx k hlt' 0 _ rfl
        have hy1 := hcx k hlt' 1 _ rfl
        have hy2 := hcx k hlt' 2 _ rfl
        have hy3 := hcx k hlt' 3 _ rfl
        simp only [Nat.add_zero] at hx0 hy0
        clear hcx
        generalize xs[k + 1] = x at *
        generalize xs[k] = y at *
        by_cases hg : pOk x = true
        · by_cases hl2 : pLt y x = true
          · have HG := hid hg
            have H2 := hid hl2
            simp only [pOk] at hg
            simp only [pLt, decide_eq_true_eq] at hl2
            go_wp2_with (fail)
            refine wp_region_w (n := 18) [] [] (FS19_4_5 wr x y bx ox k xs.length cap w) rfl (by kernel_rfl) (fun _ _ d _ _ h => by cases d <;> exact h) ?_ ?_ ?_ ?_ ?_ ?_
            · intro iq
              match iq with
              | 0 | 1 | 2 | 3 | 4 | 5 | 6 | 7 | 8 | 9 | 10 | 11 | 12 | 13 | 14 | 15 | 16 | 17 => exact Stable.const _
              | n + 18 => exact Stable.const _
            · intro iq hi
              exact absurd hi (by simp)
            · intro iq hi
              exact absurd hi (by simp)
            · intro iq o hi hl ho vals w1 hb1 hf
              exact absurd hl (by simp)
            · intro iq o hi hl ho vals w1 hb1 hf
              match iq, hi with
              | 0, _ =>
                injection ho with ho
                subst ho
                clear hl
                simp only [fillA, List.take, List.drop, put_none, Act.put, List.setIfInBounds_toArray, List.set_cons_zero, List.set_cons_succ, Nat.reduceAdd]
                clear hf
                have hc1 := cellOf hb1
                have hf1 := frozOf hb1
                have hz1 := sizeOf hb1
                try simp at hz1
                go_wp2_with (fail)
                exact RQ.mk rfl ⟨(by first | rfl | (simp [FS19_4_5]; done) | (simp [FS19_4_5, *]; done) | (simp [FS19_4_5, gotV]; done) | (simp [FS19_4_5, gotV]; omega)), fun h => absurd h (by decide)⟩ (Below.refl _ _)
              | 1, _ =>
                injection ho with ho
                subst ho
                clear hl
                simp only [fillA, List.take, List.drop, put_none, Act.put, List.setIfInBounds_toArray, List.set_cons_zero, List.set_cons_succ, Nat.reduceAdd]
                have f0 := hf 0 (by decide) (by kernel_rfl)
                generalize vals 0 = v0 at *
                subst f0
                clear hf
                have hc1 := cellOf hb1
                have hf1 := frozOf hb1
                have hz1 := sizeOf hb1
                try simp at hz1
                go_wp2_with (first | (go_at_call 55; refine (c_impl_isPassage _ _ _ _ _ ).mono ?_; rintro e w' ⟨rfl, hb⟩; have hc := cellOf hb; have hf := frozOf hb; have hz := sizeOf hb; try simp at hz))
                exact RQ.mk rfl ⟨(by first | rfl | (simp [FS19_4_5]; done) | (simp [FS19_4_5, *]; done) | (simp [FS19_4_5, gotV]; done) | (simp [FS19_4_5, gotV]; omega)), fun h => absurd h (by decide)⟩ (by (repeat' (first | exact Below.refl _ _ | assumption | refine Below.setCell ?_ ?_ _ | refine Below.drew ?_ | refine Below.alloc ?_ ?_ _ | refine Below.trans ?_ (Below.mono (by assumption) ?_) | (simp; done) | (simp; omega) | omega)))
              | 2, _ =>
                injection ho with ho
                subst ho
                clear hl
                simp only [fillA, List.take, List.drop, put_none, Act.put, List.setIfInBounds_toArray, List.set_cons_zero, List.set_cons_succ, Nat.reduceAdd]
                have f1 := hf 1 (by decide) (by kernel_rfl)
                generalize vals 1 = v1 at *
                subst f1
                clear hf
                go_wp2_with (fail)
                exact RQ.mk rfl ⟨(by first | rfl | (simp [FS19_4_5]; done) | (simp [FS19_4_5, *]; done) | (simp [FS19_4_5, gotV]; done) | (simp [FS19_4_5, gotV]; omega)), fun h => absurd h (by decide)⟩ (Below.refl _ _)
              | 3, _ =>
                injection ho with ho
                subst ho
                clear hl
                simp only [fillA, List.take, List.drop, put_none, Act.put, List.setIfInBounds_toArray, List.set_cons_zero, List.set_cons_succ, Nat.reduceAdd]
                have f2 := hf 2 (by decide) (by kernel_rfl)
                generalize vals 2 = v2 at *
                subst f2
                have f1 := hf 1 (by decide) (by kernel_rfl)
                generalize vals 1 = v1 at *
                subst f1
                clear hf
                go_wp2_with (fail)
                exact RQ.mk rfl ⟨(by first | rfl | (simp [FS19_4_5]; done) | (simp [FS19_4_5, *]; done) | (simp [FS19_4_5, gotV]; done) | (simp [FS19_4_5, gotV]; omega)), fun h => absurd h (by decide)⟩ (Below.refl _ _)
              | 4, _ =>
                injection ho with ho
                subst ho
                clear hl
                simp only [fillA, List.take, List.drop, put_none, Act.put, List.setIfInBounds_toArray, List.set_cons_zero, List.set_cons_succ, Nat.reduceAdd]
                have f3 := hf 3 (by decide) (by kernel_rfl)
                generalize vals 3 = v3 at *
                subst f3
                clear hf
                go_wp2_with (fail)
                exact RQ.mk rfl ⟨(by first | rfl | (simp [FS19_4_5]; done) | (simp [FS19_4_5, *]; done) | (simp [FS19_4_5, gotV]; done) | (simp [FS19_4_5, gotV]; omega)), fun h => absurd h (by decide)⟩ (Below.refl _ _)
              | 5, _ =>
                injection ho with ho
                subst ho
                clear hl
                simp only [fillA, List.take, List.drop, put_none, Act.put, List.setIfInBounds_toArray, List.set_cons_zero, List.set_cons_succ, Nat.reduceAdd]
                have f4 := hf 4 (by decide) (by kernel_rfl)
                generalize vals 4 = v4 at *
                subst f4
                have f3 := hf 3 (by decide) (by kernel_rfl)
                generalize vals 3 = v3 at *
                subst f3
                clear hf
                go_wp2_with (fail)
                exact RQ.mk rfl ⟨(by first | rfl | (simp [FS19_4_5]; done) | (simp [FS19_4_5, *]; done) | (simp [FS19_4_5, gotV]; done) | (simp [FS19_4_5, gotV]; omega)), fun h => absurd h (by decide)⟩ (Below.refl _ _)
              | 6, _ =>
                injection ho with ho
                subst ho
                clear hl
                simp only [fillA, List.take, List.drop, put_none, Act.put, List.setIfInBounds_toArray, List.set_cons_zero, List.set_cons_succ, Nat.reduceAdd]
                have f5 := hf 5 (by decide) (by kernel_rfl)
                generalize vals 5 = v5 at *
                subst f5
                have f3 := hf 3 (by decide) (by kernel_rfl)
                generalize vals 3 = v3 at *
                subst f3
                clear hf
                go_wp2_with (fail)
                exact RQ.mk rfl ⟨(by first | rfl | (simp [FS19_4_5]; done) | (simp [FS19_4_5, *]; done) | (simp [FS19_4_5, gotV]; done) | (simp [FS19_4_5, gotV]; omega)), fun h => absurd h (by decide)⟩ (Below.refl _ _)
              | 7, _ =>
                injection ho with ho
                subst ho
                clear hl
                simp only [fillA, List.take, List.drop, put_none, Act.put, List.setIfInBounds_toArray, List.set_cons_zero, List.set_cons_succ, Nat.reduceAdd]
                have f6 := hf 6 (by decide) (by kernel_rfl)
                generalize vals 6 = v6 at *
                subst f6
                clear hf
                go_wp2_with (fail)
                exact RQ.mk rfl ⟨(by first | rfl | (simp [FS19_4_5]; done) | (simp [FS19_4_5, *]; done) | (simp [FS19_4_5, gotV]; done) | (simp [FS19_4_5, gotV]; omega)), fun h => absurd h (by decide)⟩ (Below.refl _ _)
              | 8, _ =>
                injection ho with ho
                subst ho
                clear hl
                simp only [fillA, List.take, List.drop, put_none, Act.put, List.setIfInBounds_toArray, List.set_cons_zero, List.set_cons_succ, Nat.reduceAdd]
                have f6 := hf 6 (by decide) (by kernel_rfl)
                generalize vals 6 = v6 at *
                subst f6
                clear hf
                go_wp2_with (fail)
                exact RQ.mk rfl ⟨(by first | rfl | (simp [FS19_4_5]; done) | (simp [FS19_4_5, *]; done) | (simp [FS19_4_5, gotV]; done) | (simp [FS19_4_5, gotV]; omega)), fun h => absurd h (by decide)⟩ (Below.refl _ _)
              | 9, _ =>
                injection ho with ho
                subst ho
                clear hl
                simp only [fillA, List.take, List.drop, put_none, Act.put, List.setIfInBounds_toArray, List.set_cons_zero, List.set_cons_succ, Nat.reduceAdd]
                have f8 := hf 8 (by decide) (by kernel_rfl)
                generalize vals 8 = v8 at *
                subst f8
                have f6 := hf 6 (by decide) (by kernel_rfl)
                generalize vals 6 = v6 at *
                subst f6
                clear hf
                go_wp2_with (fail)
                exact RQ.mk rfl ⟨(by first | rfl | (simp [FS19_4_5]; done) | (simp [FS19_4_5, *]; done) | (simp [FS19_4_5, gotV]; done) | (simp [FS19_4_5, gotV]; omega)), fun h => absurd h (by decide)⟩ (Below.refl _ _)
              | 10, _ =>
                injection ho with ho
                subst ho
                clear hl
                simp only [fillA, List.take, List.drop, put_none, Act.put, List.setIfInBounds_toArray, List.set_cons_zero, List.set_cons_succ, Nat.reduceAdd]
                have f7 := hf 7 (by decide) (by kernel_rfl)
                generalize vals 7 = v7 at *
                subst f7
                have f9 := hf 9 (by decide) (by kernel_rfl)
                generalize vals 9 = v9 at *
                subst f9
                have f6 := hf 6 (by decide) (by kernel_rfl)
                generalize vals 6 = v6 at *
                subst f6
                clear hf
                go_wp2_with (fail)
                exact RQ.mk rfl ⟨(by first | rfl | (simp [FS19_4_5]; done) | (simp [FS19_4_5, *]; done) | (simp [FS19_4_5, gotV]; done) | (simp [FS19_4_5, gotV]; omega)), fun h => absurd h (by decide)⟩ (Below.refl _ _)
              | 11, _ =>
                injection ho with ho
                subst ho
                clear hl
                simp only [fillA, List.take, List.drop, put_none, Act.put, List.setIfInBounds_toArray, List.set_cons_zero, List.set_cons_succ, Nat.reduceAdd]
                have f10 := hf 10 (by decide) (by kernel_rfl)
                generalize vals 10 = v10 at *
                subst f10
                have f6 := hf 6 (by decide) (by kernel_rfl)
                generalize vals 6 = v6 at *
                subst f6
                clear hf
                go_wp2_with (fail)
                exact RQ.mk rfl ⟨(by first | rfl | (simp [FS19_4_5]; done) | (simp [FS19_4_5, *]; done) | (simp [FS19_4_5, gotV]; done) | (simp [FS19_4_5, gotV]; omega)), fun h => absurd h (by decide)⟩ (Below.refl _ _)
              | 12, _ =>
                injection ho with ho
                subst ho
                clear hl
                simp only [fillA, List.take, List.drop, put_none, Act.put, List.setIfInBounds_toArray, List.set_cons_zero, List.set_cons_succ, Nat.reduceAdd]
                have f11 := hf 11 (by decide) (by kernel_rfl)
                generalize vals 11 = v11 at *
                subst f11
                have f6 := hf 6 (by decide) (by kernel_rfl)
                generalize vals 6 = v6 at *
                subst f6
                clear hf
                have hc1 := cellOf hb1
                have hf1 := frozOf hb1
                have hz1 := sizeOf hb1
                try simp at hz1
                go_wp2_with (fail)
                exact RQ.mk rfl ⟨(by first | rfl | (simp [FS19_4_5]; done) | (simp [FS19_4_5, *]; done) | (simp [FS19_4_5, gotV]; done) | (simp [FS19_4_5, gotV]; omega)), fun h => absurd h (by decide)⟩ (Below.refl _ _)
              | 13, _ =>
                injection ho with ho
                subst ho
                clear hl
                simp only [fillA, List.take, List.drop, put_none, Act.put, List.setIfInBounds_toArray, List.set_cons_zero, List.set_cons_succ, Nat.reduceAdd]
                have f6 := hf 6 (by decide) (by kernel_rfl)
                generalize vals 6 = v6 at *
                subst f6
                clear hf
                go_wp2_with (fail)
                exact RQ.mk rfl ⟨(by first | rfl | (simp [FS19_4_5]; done) | (simp [FS19_4_5, *]; done) | (simp [FS19_4_5, gotV]; done) | (simp [FS19_4_5, gotV]; omega)), fun h => absurd h (by decide)⟩ (Below.refl _ _)
              | 14, _ =>
                injection ho with ho
                subst ho
                clear hl
                simp only [fillA, List.take, List.drop, put_none, Act.put, List.setIfInBounds_toArray, List.set_cons_zero, List.set_cons_succ, Nat.reduceAdd]
                have f13 := hf 13 (by decide) (by kernel_rfl)
                generalize vals 13 = v13 at *
                subst f13
                have f6 := hf 6 (by decide) (by kernel_rfl)
                generalize vals 6 = v6 at *
                subst f6
                clear hf
                have hc1 := cellOf hb1
                have hf1 := frozOf hb1
                have hz1 := sizeOf hb1
                try simp at hz1
                go_wp2_with (fail)
                exact RQ.mk rfl ⟨(by first | rfl | (simp [FS19_4_5]; done) | (simp [FS19_4_5, *]; done) | (simp [FS19_4_5, gotV]; done) | (simp [FS19_4_5, gotV]; omega)), fun h => absurd h (by decide)⟩ (Below.refl _ _)
              | 15, _ =>
                injection ho with ho
                subst ho
                clear hl
                simp only [fillA, List.take, List.drop, put_none, Act.put, List.setIfInBounds_toArray, List.set_cons_zero, List.set_cons_succ, Nat.reduceAdd]
                have f12 := hf 12 (by decide) (by kernel_rfl)
                generalize vals 12 = v12 at *
                subst f12
                have f14 := hf 14 (by decide) (by kernel_rfl)
                generalize vals 14 = v14 at *
                subst f14
                have f6 := hf 6 (by decide) (by kernel_rfl)
                generalize vals 6 = v6 at *
                subst f6
                clear hf
                go_wp2_with (fail)
                exact RQ.mk rfl ⟨(by first | rfl | (simp [FS19_4_5]; done) | (simp [FS19_4_5, *]; done) | (simp [FS19_4_5, gotV]; done) | (simp [FS19_4_5, gotV]; omega)), fun h => absurd h (by decide)⟩ (Below.refl _ _)
              | 16, _ =>
                injection ho with ho
                subst ho
                clear hl
                simp only [fillA, List.take, List.drop, put_none, Act.put, List.setIfInBounds_toArray, List.set_cons_zero, List.set_cons_succ, Nat.reduceAdd]
                have f6 := hf 6 (by decide) (by kernel_rfl)
                generalize vals 6 = v6 at *
                subst f6
                have f15 := hf 15 (by decide) (by kernel_rfl)
                generalize vals 15 = v15 at *
                subst f15
                have f3 := hf 3 (by decide) (by kernel_rfl)
                generalize vals 3 = v3 at *
                subst f3
                clear hf
                go_wp2_with (fail)
                exact RQ.mk rfl ⟨(by first | rfl | (simp [FS19_4_5]; done) | (simp [FS19_4_5, *]; done) | (simp [FS19_4_5, gotV]; done) | (simp [FS19_4_5, gotV]; omega)), fun h => absurd h (by decide)⟩ (Below.refl _ _)
              | 17, _ =>
                injection ho with ho
                subst ho
                clear hl
                simp only [fillA, List.take, List.drop, put_none, Act.put, List.setIfInBounds_toArray, List.set_cons_zero, List.set_cons_succ, Nat.reduceAdd]
                have f3 := hf 3 (by decide) (by kernel_rfl)
                generalize vals 3 = v3 at *
                subst f3
                have f16 := hf 16 (by decide) (by kernel_rfl)
                generalize vals 16 = v16 at *
                subst f16
                clear hf
                go_wp2_with (fail)
                exact RQ.mk rfl ⟨(by first | rfl | (simp [FS19_4_5]; done) | (simp [FS19_4_5, *]; done) | (simp [FS19_4_5, gotV]; done) | (simp [FS19_4_5, gotV]; omega)), fun h => absurd h (by decide)⟩ (Below.refl _ _)
              | m + 18, h => exact absurd h (by omega)
            · intro vals w1 hb1 hf hd
              simp only [fillA, List.take, List.drop, put_none, Act.put, List.setIfInBounds_toArray, List.set_cons_zero, List.set_cons_succ, Nat.reduceAdd]
              clear hd
              have f0 := hf 0 (by decide)
              generalize vals 0 = v0 at *
              subst f0
              have f1 := hf 1 (by decide)
              generalize vals 1 = v1 at *
              subst f1
              have f2 := hf 2 (by decide)
              generalize vals 2 = v2 at *
              subst f2
              have f3 := hf 3 (by decide)
              generalize vals 3 = v3 at *
              subst f3
              have f4 := hf 4 (by decide)
              generalize vals 4 = v4 at *
              subst f4
              have f5 := hf 5 (by decide)
              generalize vals 5 = v5 at *
              subst f5
              have f6 := hf 6 (by decide)
              generalize vals 6 = v6 at *
              subst f6
              have f7 := hf 7 (by decide)
              generalize vals 7 = v7 at *
              subst f7
              have f8 := hf 8 (by decide)
              generalize vals 8 = v8 at *
              subst f8
              have f9 := hf 9 (by decide)
              generalize vals 9 = v9 at *
              subst f9
              have f10 := hf 10 (by decide)
              generalize vals 10 = v10 at *
              subst f10
              have f11 := hf 11 (by decide)
              generalize vals 11 = v11 at *
              subst f11
              have f12 := hf 12 (by decide)
              generalize vals 12 = v12 at *
              subst f12
              have f13 := hf 13 (by decide)
              generalize vals 13 = v13 at *
              subst f13
              have f14 := hf 14 (by decide)
              generalize vals 14 = v14 at *
              subst f14
              have f15 := hf 15 (by decide)
              generalize vals 15 = v15 at *
              subst f15
              have f16 := hf 16 (by decide)
              generalize vals 16 = v16 at *
              subst f16
              have f17 := hf 17 (by decide)
              generalize vals 17 = v17 at *
              subst f17
              clear hf
              have hc1 := cellOf hb1
              have hf1 := frozOf hb1
              have hz1 := sizeOf hb1
              try simp at hz1
              go_wp2_with (fail)
              go_roundw
              case rel =>
                refine ⟨k + 2, by omega, by go_num, fun j hj => ?_, (by (repeat' (first | exact Below.refl _ _ | assumption | refine Below.setCell ?_ ?_ _ | refine Below.drew ?_ | refine Below.alloc ?_ ?_ _ | refine Below.trans ?_ (Below.mono (by assumption) ?_) | (simp; done) | (simp; omega) | omega)))⟩
                rcases Nat.lt_or_ge j (k + 1) with h | h
                · exact HL.out j h
                · obtain rfl : j = k + 1 := by omega
                  rw [HV.out, HG.out, H2.out]; rfl
              case measure => simp [intOf]; omega
          · have H2 : Hid (pLt y x = false) := by show _ = _; simpa using hl2
            have HG := hid hg
            clear hl2
            have hl2 := H2.out
            simp only [pOk] at hg
            simp only [pLt, decide_eq_false_iff_not] at hl2
            go_wp2_with (fail)
            refine wp_region_w (n := 18) [] [] (FS19_4_6 wr x y bx ox k xs.length cap w) rfl (by kernel_rfl) (fun _ _ d _ _ h => by cases d <;> exact h) ?_ ?_ ?_ ?_ ?_ ?_
            · intro iq
              match iq with
              | 0 | 1 | 2 | 3 | 4 | 5 | 6 | 7 | 8 | 9 | 10 | 11 | 12 | 13 | 14 | 15 | 16 | 17 => exact Stable.const _
              | n + 18 => exact Stable.const _
            · intro iq hi
              exact absurd hi (by simp)
            · intro iq hi
              exact absurd hi (by simp)
            · intro iq o hi hl ho vals w1 hb1 hf
              exact absurd hl (by simp)
            · intro iq o hi hl ho vals w1 hb1 hf
              match iq, hi with
              | 0, _ =>
                injection ho with ho
                subst ho
                clear hl
                simp only [fillA, List.take, List.drop, put_none, Act.put, List.setIfInBounds_toArray, List.set_cons_zero, List.set_cons_succ, Nat.reduceAdd]
                clear hf
                have hc1 := cellOf hb1
                have hf1 := frozOf hb1
                have hz1 := sizeOf hb1
                try simp at hz1
                go_wp2_with (fail)
                exact RQ.mk rfl ⟨(by first | rfl | (simp [FS19_4_6]; done) | (simp [FS19_4_6, *]; done) | (simp [FS19_4_6, gotV]; done) | (simp [FS19_4_6, gotV]; omega)), fun h => absurd h (by decide)⟩ (Below.refl _ _)
              | 1, _ =>
                injection ho with ho
                subst ho
                clear hl
                simp only [fillA, List.take, List.drop, put_none, Act.put, List.setIfInBounds_toArray, List.set_cons_zero, List.set_cons_succ, Nat.reduceAdd]
                have f0 := hf 0 (by decide) (by kernel_rfl)
                generalize vals 0 = v0 at *
                subst f0
                clear hf
                have hc1 := cellOf hb1
                have hf1 := frozOf hb1
                have hz1 := sizeOf hb1
                try simp at hz1
                go_wp2_with (first | (go_at_call 55; refine (c_impl_isPassage _ _ _ _ _ ).mono ?_; rintro e w' ⟨rfl, hb⟩; have hc := cellOf hb; have hf := frozOf hb; have hz := sizeOf hb; try simp at hz))
                exact RQ.mk rfl ⟨(by first | rfl | (simp [FS19_4_6]; done) | (simp [FS19_4_6, *]; done) | (simp [FS19_4_6, gotV]; done) | (simp [FS19_4_6, gotV]; omega)), fun h => absurd h (by decide)⟩ (by (repeat' (first | exact Below.refl _ _ | assumption | refine Below.setCell ?_ ?_ _ | refine Below.drew ?_ | refine Below.alloc ?_ ?_ _ | refine Below.trans ?_ (Below.mono (by assumption) ?_) | (simp; done) | (simp; omega) | omega)))
              | 2, _ =>
                injection ho with ho
                subst ho
                clear hl
                simp only [fillA, List.take, List.drop, put_none, Act.put, List.setIfInBounds_toArray, List.set_cons_zero, List.set_cons_succ, Nat.reduceAdd]
                have f1 := hf 1 (by decide) (by kernel_rfl)
                generalize vals 1 = v1 at *
                subst f1
                clear hf
                go_wp2_with (fail)
                exact RQ.mk rfl ⟨(by first | rfl | (simp [FS19_4_6]; done) | (simp [FS19_4_6, *]; done) | (simp [FS19_4_6, gotV]; done) | (simp [FS19_4_6, gotV]; omega)), fun h => absurd h (by decide)⟩ (Below.refl _ _)
              | 3, _ =>
                injection ho with ho
                subst ho
                clear hl
                simp only [fillA, List.take, List.drop, put_none, Act.put, List.setIfInBounds_toArray, List.set_cons_zero, List.set_cons_succ, Nat.reduceAdd]
                have f2 := hf 2 (by decide) (by kernel_rfl)
                generalize vals 2 = v2 at *
                subst f2
                have f1 := hf 1 (by decide) (by kernel_rfl)
                generalize vals 1 = v1 at *
                subst f1
                clear hf
                go_wp2_with (fail)
                exact RQ.mk rfl ⟨(by first | rfl | (simp [FS19_4_6]; done) | (simp [FS19_4_6, *]; done) | (simp [FS19_4_6, gotV]; done) | (simp [FS19_4_6, gotV]; omega)), fun h => absurd h (by decide)⟩ (Below.refl _ _)
              | 4, _ =>
                injection ho with ho
                subst ho
                clear hl
                simp only [fillA, List.take, List.drop, put_none, Act.put, List.setIfInBounds_toArray, List.set_cons_zero, List.set_cons_succ, Nat.reduceAdd]
                have f3 := hf 3 (by decide) (by kernel_rfl)
                generalize vals 3 = v3 at *
                subst f3
                clear hf
                go_wp2_with (fail)
                exact RQ.mk rfl ⟨(by first | rfl | (simp [FS19_4_6]; done) | (simp [FS19_4_6, *]; done) | (simp [FS19_4_6, gotV]; done) | (simp [FS19_4_6, gotV]; omega)), fun h => absurd h (by decide)⟩ (Below.refl _ _)
              | 5, _ =>
                injection ho with ho
                subst ho
                clear hl
                simp only [fillA, List.take, List.drop, put_none, Act.put, List.setIfInBounds_toArray, List.set_cons_zero, List.set_cons_succ, Nat.reduceAdd]
                have f4 := hf 4 (by decide) (by kernel_rfl)
                generalize vals 4 = v4 at *
                subst f4
                have f3 := hf 3 (by decide) (by kernel_rfl)
                generalize vals 3 = v3 at *
                subst f3
                clear hf
                go_wp2_with (fail)
                exact RQ.mk rfl ⟨(by first | rfl | (simp [FS19_4_6]; done) | (simp [FS19_4_6, *]; done) | (simp [FS19_4_6, gotV]; done) | (simp [FS19_4_6, gotV]; omega)), fun h => absurd h (by decide)⟩ (Below.refl _ _)
              | 6, _ =>
                injection ho with ho
                subst ho
                clear hl
                simp only [fillA, List.take, List.drop, put_none, Act.put, List.setIfInBounds_toArray, List.set_cons_zero, List.set_cons_succ, Nat.reduceAdd]
                have f5 := hf 5 (by decide) (by kernel_rfl)
                generalize vals 5 = v5 at *
                subst f5
                have f3 := hf 3 (by decide) (by kernel_rfl)
                generalize vals 3 = v3 at *
                subst f3
                clear hf
                go_wp2_with (fail)
                exact RQ.mk rfl ⟨(by first | rfl | (simp [FS19_4_6]; done) | (simp [FS19_4_6, *]; done) | (simp [FS19_4_6, gotV]; done) | (simp [FS19_4_6, gotV]; omega)), fun h => absurd h (by decide)⟩ (Below.refl _ _)
              | 7, _ =>
                injection ho with ho
                subst ho
                clear hl
                simp only [fillA, List.take, List.drop, put_none, Act.put, List.setIfInBounds_toArray, List.set_cons_zero, List.set_cons_succ, Nat.reduceAdd]
                have f6 := hf 6 (by decide) (by kernel_rfl)
                generalize vals 6 = v6 at *
                subst f6
                clear hf
                go_wp2_with (fail)
                exact RQ.mk rfl ⟨(by first | rfl | (simp [FS19_4_6]; done) | (simp [FS19_4_6, *]; done) | (simp [FS19_4_6, gotV]; done) | (simp [FS19_4_6, gotV]; omega)), fun h => absurd h (by decide)⟩ (Below.refl _ _)
              | 8, _ =>
                injection ho with ho
                subst ho
                clear hl
                simp only [fillA, List.take, List.drop, put_none, Act.put, List.setIfInBounds_toArray, List.set_cons_zero, List.set_cons_succ, Nat.reduceAdd]
                have f6 := hf 6 (by decide) (by kernel_rfl)
                generalize vals 6 = v6 at *
                subst f6
                clear hf
                go_wp2_with (fail)
                exact RQ.mk rfl ⟨(by first | rfl | (simp [FS19_4_6]; done) | (simp [FS19_4_6, *]; done) | (simp [FS19_4_6, gotV]; done) | (simp [FS19_4_6, gotV]; omega)), fun h => absurd h (by decide)⟩ (Below.refl _ _)
              | 9, _ =>
                injection ho with ho
                subst ho
                clear hl
                simp only [fillA, List.take, List.drop, put_none, Act.put, List.setIfInBounds_toArray, List.set_cons_zero, List.set_cons_succ, Nat.reduceAdd]
                have f8 := hf 8 (by decide) (by kernel_rfl)
                generalize vals 8 = v8 at *
                subst f8
                have f6 := hf 6 (by decide) (by kernel_rfl)
                generalize vals 6 = v6 at *
                subst f6
                clear hf
                go_wp2_with (fail)
                exact RQ.mk rfl ⟨(by first | rfl | (simp [FS19_4_6]; done) | (simp [FS19_4_6, *]; done) | (simp [FS19_4_6, gotV]; done) | (simp [FS19_4_6, gotV]; omega)), fun h => absurd h (by decide)⟩ (Below.refl _ _)
              | 10, _ =>
                injection ho with ho
                subst ho
                clear hl
                simp only [fillA, List.take, List.drop, put_none, Act.put, List.setIfInBounds_toArray, List.set_cons_zero, List.set_cons_succ, Nat.reduceAdd]
                have f7 := hf 7 (by decide) (by kernel_rfl)
                generalize vals 7 = v7 at *
                subst f7
                have f9 := hf 9 (by decide) (by kernel_rfl)
                generalize vals 9 = v9 at *
                subst f9
                have f6 := hf 6 (by decide) (by kernel_rfl)
                generalize vals 6 = v6 at *
                subst f6
                clear hf
                go_wp2_with (fail)
                exact RQ.mk rfl ⟨(by first | rfl | (simp [FS19_4_6]; done) | (simp [FS19_4_6, *]; done) | (simp [FS19_4_6, gotV]; done) | (simp [FS19_4_6, gotV]; omega)), fun h => absurd h (by decide)⟩ (Below.refl _ _)
              | 11, _ =>
                injection ho with ho
                subst ho
                clear hl
                simp only [fillA, List.take, List.drop, put_none, Act.put, List.setIfInBounds_toArray, List.set_cons_zero, List.set_cons_succ, Nat.reduceAdd]
                have f10 := hf 10 (by decide) (by kernel_rfl)
                generalize vals 10 = v10 at *
                subst f10
                have f6 := hf 6 (by decide) (by kernel_rfl)
                generalize vals 6 = v6 at *
                subst f6
                clear hf
                go_wp2_with (fail)
                exact RQ.mk rfl ⟨(by first | rfl | (simp [FS19_4_6]; done) | (simp [FS19_4_6, *]; done) | (simp [FS19_4_6, gotV]; done) | (simp [FS19_4_6, gotV]; omega)), fun h => absurd h (by decide)⟩ (Below.refl _ _)
              | 12, _ =>
                injection ho with ho
                subst ho
                clear hl
                simp only [fillA, List.take, List.drop, put_none, Act.put, List.setIfInBounds_toArray, List.set_cons_zero, List.set_cons_succ, Nat.reduceAdd]
                have f11 := hf 11 (by decide) (by kernel_rfl)
                generalize vals 11 = v11 at *
                subst f11
                have f6 := hf 6 (by decide) (by kernel_rfl)
                generalize vals 6 = v6 at *
                subst f6
                clear hf
                have hc1 := cellOf hb1
                have hf1 := frozOf hb1
                have hz1 := sizeOf hb1
                try simp at hz1
                go_wp2_with (fail)
                exact RQ.mk rfl ⟨(by first | rfl | (simp [FS19_4_6]; done) | (simp [FS19_4_6, *]; done) | (simp [FS19_4_6, gotV]; done) | (simp [FS19_4_6, gotV]; omega)), fun h => absurd h (by decide)⟩ (Below.refl _ _)
              | 13, _ =>
                injection ho with ho
                subst ho
                clear hl
                simp only [fillA, List.take, List.drop, put_none, Act.put, List.setIfInBounds_toArray, List.set_cons_zero, List.set_cons_succ, Nat.reduceAdd]
                have f6 := hf 6 (by decide) (by kernel_rfl)
                generalize vals 6 = v6 at *
                subst f6
                clear hf
                go_wp2_with (fail)
                exact RQ.mk rfl ⟨(by first | rfl | (simp [FS19_4_6]; done) | (simp [FS19_4_6, *]; done) | (simp [FS19_4_6, gotV]; done) | (simp [FS19_4_6, gotV]; omega)), fun h => absurd h (by decide)⟩ (Below.refl _ _)
              | 14, _ =>
                injection ho with ho
                subst ho
                clear hl
                simp only [fillA, List.take, List.drop, put_none, Act.put, List.setIfInBounds_toArray, List.set_cons_zero, List.set_cons_succ, Nat.reduceAdd]
                have f13 := hf 13 (by decide) (by kernel_rfl)
                generalize vals 13 = v13 at *
                subst f13
                have f6 := hf 6 (by decide) (by kernel_rfl)
                generalize vals 6 = v6 at *
                subst f6
                clear hf
                have hc1 := cellOf hb1
                have hf1 := frozOf hb1
                have hz1 := sizeOf hb1
                try simp at hz1
                go_wp2_with (fail)
                exact RQ.mk rfl ⟨(by first | rfl | (simp [FS19_4_6]; done) | (simp [FS19_4_6, *]; done) | (simp [FS19_4_6, gotV]; done) | (simp [FS19_4_6, gotV]; omega)), fun h => absurd h (by decide)⟩ (Below.refl _ _)
              | 15, _ =>
                injection ho with ho
                subst ho
                clear hl
                simp only [fillA, List.take, List.drop, put_none, Act.put, List.setIfInBounds_toArray, List.set_cons_zero, List.set_cons_succ, Nat.reduceAdd]
                have f12 := hf 12 (by decide) (by kernel_rfl)
                generalize vals 12 = v12 at *
                subst f12
                have f14 := hf 14 (by decide) (by kernel_rfl)
                generalize vals 14 = v14 at *
                subst f14
                have f6 := hf 6 (by decide) (by kernel_rfl)
                generalize vals 6 = v6 at *
                subst f6
                clear hf
                go_wp2_with (fail)
                exact RQ.mk rfl ⟨(by first | rfl | (simp [FS19_4_6]; done) | (simp [FS19_4_6, *]; done) | (simp [FS19_4_6, gotV]; done) | (simp [FS19_4_6, gotV]; omega)), fun h => absurd h (by decide)⟩ (Below.refl _ _)
              | 16, _ =>
                injection ho with ho
                subst ho
                clear hl
                simp only [fillA, List.take, List.drop, put_none, Act.put, List.setIfInBounds_toArray, List.set_cons_zero, List.set_cons_succ, Nat.reduceAdd]
                have f6 := hf 6 (by decide) (by kernel_rfl)
                generalize vals 6 = v6 at *
                subst f6
                have f15 := hf 15 (by decide) (by kernel_rfl)
                generalize vals 15 = v15 at *
                subst f15
                have f3 := hf 3 (by decide) (by kernel_rfl)
                generalize vals 3 = v3 at *
                subst f3
                clear hf
                go_wp2_with (fail)
                exact RQ.mk rfl ⟨(by first | rfl | (simp [FS19_4_6]; done) | (simp [FS19_4_6, *]; done) | (simp [FS19_4_6, gotV]; done) | (simp [FS19_4_6, gotV]; omega)), fun h => absurd h (by decide)⟩ (Below.refl _ _)
              | 17, _ =>
                injection ho with ho
                subst ho
                clear hl
                simp only [fillA, List.take, List.drop, put_none, Act.put, List.setIfInBounds_toArray, List.set_cons_zero, List.set_cons_succ, Nat.reduceAdd]
                have f3 := hf 3 (by decide) (by kernel_rfl)
                generalize vals 3 = v3 at *
                subst f3
                have f16 := hf 16 (by decide) (by kernel_rfl)
                generalize vals 16 = v16 at *
                subst f16
                clear hf
                go_wp2_with (fail)
                exact RQ.mk rfl ⟨(by first | rfl | (simp [FS19_4_6]; done) | (simp [FS19_4_6, *]; done) | (simp [FS19_4_6, gotV]; done) | (simp [FS19_4_6, gotV]; omega)), fun h => absurd h (by decide)⟩ (Below.refl _ _)
              | m + 18, h => exact absurd h (by omega)
            · intro vals w1 hb1 hf hd
              simp only [fillA, List.take, List.drop, put_none, Act.put, List.setIfInBounds_toArray, List.set_cons_zero, List.set_cons_succ, Nat.reduceAdd]
              clear hd
              have f0 := hf 0 (by decide)
              generalize vals 0 = v0 at *
              subst f0
              have f1 := hf 1 (by decide)
              generalize vals 1 = v1 at *
              subst f1
              have f2 := hf 2 (by decide)
              generalize vals 2 = v2 at *
              subst f2
              have f3 := hf 3 (by decide)
              generalize vals 3 = v3 at *
              subst f3
              have f4 := hf 4 (by decide)
              generalize vals 4 = v4 at *
              subst f4
              have f5 := hf 5 (by decide)
              generalize vals 5 = v5 at *
              subst f5
              have f6 := hf 6 (by decide)
              generalize vals 6 = v6 at *
              subst f6
              have f7 := hf 7 (by decide)
              generalize vals 7 = v7 at *
              subst f7
              have f8 := hf 8 (by decide)
              generalize vals 8 = v8 at *
              subst f8
              have f9 := hf 9 (by decide)
              generalize vals 9 = v9 at *
              subst f9
              have f10 := hf 10 (by decide)
              generalize vals 10 = v10 at *
              subst f10
              have f11 := hf 11 (by decide)
              generalize vals 11 = v11 at *
              subst f11
              have f12 := hf 12 (by decide)
              generalize vals 12 = v12 at *
              subst f12
              have f13 := hf 13 (by decide)
              generalize vals 13 = v13 at *
              subst f13
              have f14 := hf 14 (by decide)
              generalize vals 14 = v14 at *
              subst f14
              have f15 := hf 15 (by decide)
              generalize vals 15 = v15 at *
              subst f15
              have f16 := hf 16 (by decide)
              generalize vals 16 = v16 at *
              subst f16
              have f17 := hf 17 (by decide)
              generalize vals 17 = v17 at *
              subst f17
              clear hf
              have hc1 := cellOf hb1
              have hf1 := frozOf hb1
              have hz1 := sizeOf hb1
              try simp at hz1
              go_wp2_with (fail)
              go_ret
              exact ⟨ret_bool (by rw [HB.out (by rw [HV.out, HG.out, H2.out]; rfl)]), (by (repeat' (first | exact Below.refl _ _ | assumption | refine Below.setCell ?_ ?_ _ | refine Below.drew ?_ | refine Below.alloc ?_ ?_ _ | refine Below.trans ?_ (Below.mono (by assumption) ?_) | (simp; done) | (simp; omega) | omega)))⟩
        · have HG : Hid (pOk x = false) := by show _ = _; simpa using hg
          clear hg
          have hg := HG.out
          simp only [pOk] at hg
          go_wp2_with (fail)
          refine wp_region_w (n := 18) [] [] (FS19_4_7 wr x y bx ox k xs.length cap w) rfl (by kernel_rfl) (fun _ _ d _ _ h => by cases d <;> exact h) ?_ ?_ ?_ ?_ ?_ ?_
          · intro iq
            match iq with
            | 0 | 1 | 2 | 3 | 4 | 5 | 6 | 7 | 8 | 9 | 10 | 11 | 12 | 13 | 14 | 15 | 16 | 17 => exact Stable.const _
            | n + 18 => exact Stable.const _
          · intro iq hi
            exact absurd hi (by simp)
          · intro iq hi
            exact absurd hi (by simp)
          · intro iq o hi hl ho vals w1 hb1 hf
            exact absurd hl (by simp)
          · intro iq o hi hl ho vals w1 hb1 hf
            match iq, hi with
            | 0, _ =>
              injection ho with ho
              subst ho
              clear hl
              simp only [fillA, List.take, List.drop, put_none, Act.put, List.setIfInBounds_toArray, List.set_cons_zero, List.set_cons_succ, Nat.reduceAdd]
              clear hf
              have hc1 := cellOf hb1
              have hf1 := frozOf hb1
              have hz1 := sizeOf hb1
              try simp at hz1
              go_wp2_with (fail)
              exact RQ.mk rfl ⟨(by first | rfl | (simp [FS19_4_7]; done) | (simp [FS19_4_7, *]; done) | (simp [FS19_4_7, gotV]; done) | (simp [FS19_4_7, gotV]; omega)), fun h => absurd h (by decide)⟩ (Below.refl _ _)
            | 1, _ =>
              injection ho with ho
              subst ho
              clear hl
              simp only [fillA, List.take, List.drop, put_none, Act.put, List.setIfInBounds_toArray, List.set_cons_zero, List.set_cons_succ, Nat.reduceAdd]
              have f0 := hf 0 (by decide) (by kernel_rfl)
              generalize vals 0 = v0 at *
              subst f0
              clear hf
              have hc1 := cellOf hb1
              have hf1 := frozOf hb1
              have hz1 := sizeOf hb1
              try simp at hz1
              go_wp2_with (first | (go_at_call 55; refine (c_impl_isPassage _ _ _ _ _ ).mono ?_; rintro e w' ⟨rfl, hb⟩; have hc := cellOf hb; have hf := frozOf hb; have hz := sizeOf hb; try simp at hz))
              exact RQ.mk rfl ⟨(by first | rfl | (simp [FS19_4_7]; done) | (simp [FS19_4_7, *]; done) | (simp [FS19_4_7, gotV]; done) | (simp [FS19_4_7, gotV]; omega)), fun h => absurd h (by decide)⟩ (by (repeat' (first | exact Below.refl _ _ | assumption | refine Below.setCell ?_ ?_ _ | refine Below.drew ?_ | refine Below.alloc ?_ ?_ _ | refine Below.trans ?_ (Below.mono (by assumption) ?_) | (simp; done) | (simp; omega) | omega)))
            | 2, _ =>
              injection ho with ho
              subst ho
              clear hl
              simp only [fillA, List.take, List.drop, put_none, Act.put, List.setIfInBounds_toArray, List.set_cons_zero, List.set_cons_succ, Nat.reduceAdd]
              have f1 := hf 1 (by decide) (by kernel_rfl)
              generalize vals 1 = v1 at *
              subst f1
              clear hf
              go_wp2_with (fail)
              exact RQ.mk rfl ⟨(by first | rfl | (simp [FS19_4_7]; done) | (simp [FS19_4_7, *]; done) | (simp [FS19_4_7, gotV]; done) | (simp [FS19_4_7, gotV]; omega)), fun h => absurd h (by decide)⟩ (Below.refl _ _)
            | 3, _ =>
              injection ho with ho
              subst ho
              clear hl
              simp only [fillA, List.take, List.drop, put_none, Act.put, List.setIfInBounds_toArray, List.set_cons_zero, List.set_cons_succ, Nat.reduceAdd]
              have f2 := hf 2 (by decide) (by kernel_rfl)
              generalize vals 2 = v2 at *
              subst f2
              have f1 := hf 1 (by decide) (by kernel_rfl)
              generalize vals 1 = v1 at *
              subst f1
              clear hf
              go_wp2_with (fail)
              exact RQ.mk rfl ⟨(by first | rfl | (simp [FS19_4_7]; done) | (simp [FS19_4_7, *]; done) | (simp [FS19_4_7, gotV]; done) | (simp [FS19_4_7, gotV]; omega)), fun h => absurd h (by decide)⟩ (Below.refl _ _)
            | 4, _ =>
              injection ho with ho
              subst ho
              clear hl
              simp only [fillA, List.take, List.drop, put_none, Act.put, List.setIfInBounds_toArray, List.set_cons_zero, List.set_cons_succ, Nat.reduceAdd]
              have f3 := hf 3 (by decide) (by kernel_rfl)
              generalize vals 3 = v3 at *
              subst f3
              clear hf
              go_wp2_with (fail)
              exact RQ.mk rfl ⟨(by first | rfl | (simp [FS19_4_7]; done) | (simp [FS19_4_7, *]; done) | (simp [FS19_4_7, gotV]; done) | (simp [FS19_4_7, gotV]; omega)), fun h => absurd h (by decide)⟩ (Below.refl _ _)
            | 5, _ =>
              injection ho with ho
              subst ho
              clear hl
              simp only [fillA, List.take, List.drop, put_none, Act.put, List.setIfInBounds_toArray, List.set_cons_zero, List.set_cons_succ, Nat.reduceAdd]
              have f4 := hf 4 (by decide) (by kernel_rfl)
              generalize vals 4 = v4 at *
              subst f4
              have f3 := hf 3 (by decide) (by kernel_rfl)
              generalize vals 3 = v3 at *
              subst f3
              clear hf
              go_wp2_with (fail)
              exact RQ.mk rfl ⟨(by first | rfl | (simp [FS19_4_7]; done) | (simp [FS19_4_7, *]; done) | (simp [FS19_4_7, gotV]; done) | (simp [FS19_4_7, gotV]; omega)), fun h => absurd h (by decide)⟩ (Below.refl _ _)
            | 6, _ =>
              injection ho with ho
              subst ho
              clear hl
              simp only [fillA, List.take, List.drop, put_none, Act.put, List.setIfInBounds_toArray, List.set_cons_zero, List.set_cons_succ, Nat.reduceAdd]
              have f5 := hf 5 (by decide) (by kernel_rfl)
              generalize vals 5 = v5 at *
              subst f5
              have f3 := hf 3 (by decide) (by kernel_rfl)
              generalize vals 3 = v3 at *
              subst f3
              clear hf
              go_wp2_with (fail)
              exact RQ.mk rfl ⟨(by first | rfl | (simp [FS19_4_7]; done) | (simp [FS19_4_7, *]; done) | (simp [FS19_4_7, gotV]; done) | (simp [FS19_4_7, gotV]; omega)), fun h => absurd h (by decide)⟩ (Below.refl _ _)
            | 7, _ =>
              injection ho with ho
              subst ho
              clear hl
              simp only [fillA, List.take, List.drop, put_none, Act.put, List.setIfInBounds_toArray, List.set_cons_zero, List.set_cons_succ, Nat.reduceAdd]
              have f6 := hf 6 (by decide) (by kernel_rfl)
              generalize vals 6 = v6 at *
              subst f6
              clear hf
              go_wp2_with (fail)
              exact RQ.mk rfl ⟨(by first | rfl | (simp [FS19_4_7]; done) | (simp [FS19_4_7, *]; done) | (simp [FS19_4_7, gotV]; done) | (simp [FS19_4_7, gotV]; omega)), fun h => absurd h (by decide)⟩ (Below.refl _ _)
            | 8, _ =>
              injection ho with ho
              subst ho
              clear hl
              simp only [fillA, List.take, List.drop, put_none, Act.put, List.setIfInBounds_toArray, List.set_cons_zero, List.set_cons_succ, Nat.reduceAdd]
              have f6 := hf 6 (by decide) (by kernel_rfl)
              generalize vals 6 = v6 at *
              subst f6
              clear hf
              go_wp2_with (fail)
              exact RQ.mk rfl ⟨(by first | rfl | (simp [FS19_4_7]; done) | (simp [FS19_4_7, *]; done) | (simp [FS19_4_7, gotV]; done) | (simp [FS19_4_7, gotV]; omega)), fun h => absurd h (by decide)⟩ (Below.refl _ _)
            | 9, _ =>
              injection ho with ho
              subst ho
              clear hl
              simp only [fillA, List.take, List.drop, put_none, Act.put, List.setIfInBounds_toArray, List.set_cons_zero, List.set_cons_succ, Nat.reduceAdd]
              have f8 := hf 8 (by decide) (by kernel_rfl)
              generalize vals 8 = v8 at *
              subst f8
              have f6 := hf 6 (by decide) (by kernel_rfl)
              generalize vals 6 = v6 at *
              subst f6
              clear hf
              go_wp2_with (fail)
              exact RQ.mk rfl ⟨(by first | rfl | (simp [FS19_4_7]; done) | (simp [FS19_4_7, *]; done) | (simp [FS19_4_7, gotV]; done) | (simp [FS19_4_7, gotV]; omega)), fun h => absurd h (by decide)⟩ (Below.refl _ _)
            | 10, _ =>
              injection ho with ho
              subst ho
              clear hl
              simp only [fillA, List.take, List.drop, put_none, Act.put, List.setIfInBounds_toArray, List.set_cons_zero, List.set_cons_succ, Nat.reduceAdd]
              have f7 := hf 7 (by decide) (by kernel_rfl)
              generalize vals 7 = v7 at *
              subst f7
              have f9 := hf 9 (by decide) (by kernel_rfl)
              generalize vals 9 = v9 at *
              subst f9
              have f6 := hf 6 (by decide) (by kernel_rfl)
              generalize vals 6 = v6 at *
              subst f6
              clear hf
              go_wp2_with (fail)
              exact RQ.mk rfl ⟨(by first | rfl | (simp [FS19_4_7]; done) | (simp [FS19_4_7, *]; done) | (simp [FS19_4_7, gotV]; done) | (simp [FS19_4_7, gotV]; omega)), fun h => absurd h (by decide)⟩ (Below.refl _ _)
            | 11, _ =>
              injection ho with ho
              subst ho
              clear hl
              simp only [fillA, List.take, List.drop, put_none, Act.put, List.setIfInBounds_toArray, List.set_cons_zero, List.set_cons_succ, Nat.reduceAdd]
              have f10 := hf 10 (by decide) (by kernel_rfl)
              generalize vals 10 = v10 at *
              subst f10
              have f6 := hf 6 (by decide) (by kernel_rfl)
              generalize vals 6 = v6 at *
              subst f6
              clear hf
              go_wp2_with (fail)
              exact RQ.mk rfl ⟨(by first | rfl | (simp [FS19_4_7]; done) | (simp [FS19_4_7, *]; done) | (simp [FS19_4_7, gotV]; done) | (simp [FS19_4_7, gotV]; omega)), fun h => absurd h (by decide)⟩ (Below.refl _ _)
            | 12, _ =>
              injection ho with ho
              subst ho
              clear hl
              simp only [fillA, List.take, List.drop, put_none, Act.put, List.setIfInBounds_toArray, List.set_cons_zero, List.set_cons_succ, Nat.reduceAdd]
              have f11 := hf 11 (by decide) (by kernel_rfl)
              generalize vals 11 = v11 at *
              subst f11
              have f6 := hf 6 (by decide) (by kernel_rfl)
              generalize vals 6 = v6 at *
              subst f6
              clear hf
              go_wp2_with (fail)
              exact RQ.mk rfl ⟨(by first | rfl | (simp [FS19_4_7]; done) | (simp [FS19_4_7, *]; done) | (simp [FS19_4_7, gotV]; done) | (simp [FS19_4_7, gotV]; omega)), fun h => absurd h (by decide)⟩ (Below.refl _ _)
            | 13, _ =>
              injection ho with ho
              subst ho
              clear hl
              simp only [fillA, List.take, List.drop, put_none, Act.put, List.setIfInBounds_toArray, List.set_cons_zero, List.set_cons_succ, Nat.reduceAdd]
              have f6 := hf 6 (by decide) (by kernel_rfl)
              generalize vals 6 = v6 at *
              subst f6
              clear hf
              go_wp2_with (fail)
              exact RQ.mk rfl ⟨(by first | rfl | (simp [FS19_4_7]; done) | (simp [FS19_4_7, *]; done) | (simp [FS19_4_7, gotV]; done) | (simp [FS19_4_7, gotV]; omega)), fun h => absurd h (by decide)⟩ (Below.refl _ _)
            | 14, _ =>
              injection ho with ho
              subst ho
              clear hl
              simp only [fillA, List.take, List.drop, put_none, Act.put, List.setIfInBounds_toArray, List.set_cons_zero, List.set_cons_succ, Nat.reduceAdd]
              have f13 := hf 13 (by decide) (by kernel_rfl)
              generalize vals 13 = v13 at *
              subst f13
              have f6 := hf 6 (by decide) (by kernel_rfl)
              generalize vals 6 = v6 at *
              subst f6
              clear hf
              go_wp2_with (fail)
              exact RQ.mk rfl ⟨(by first | rfl | (simp [FS19_4_7]; done) | (simp [FS19_4_7, *]; done) | (simp [FS19_4_7, gotV]; done) | (simp [FS19_4_7, gotV]; omega)), fun h => absurd h (by decide)⟩ (Below.refl _ _)
            | 15, _ =>
              injection ho with ho
              subst ho
              clear hl
              simp only [fillA, List.take, List.drop, put_none, Act.put, List.setIfInBounds_toArray, List.set_cons_zero, List.set_cons_succ, Nat.reduceAdd]
              have f12 := hf 12 (by decide) (by kernel_rfl)
              generalize vals 12 = v12 at *
              subst f12
              have f14 := hf 14 (by decide) (by kernel_rfl)
              generalize vals 14 = v14 at *
              subst f14
              have f6 := hf 6 (by decide) (by kernel_rfl)
              generalize vals 6 = v6 at *
              subst f6
              clear hf
              go_wp2_with (fail)
              exact RQ.mk rfl ⟨(by first | rfl | (simp [FS19_4_7]; done) | (simp [FS19_4_7, *]; done) | (simp [FS19_4_7, gotV]; done) | (simp [FS19_4_7, gotV]; omega)), fun h => absurd h (by decide)⟩ (Below.refl _ _)
            | 16, _ =>
              injection ho with ho
              subst ho
              clear hl
              simp only [fillA, List.take, List.drop, put_none, Act.put, List.setIfInBounds_toArray, List.set_cons_zero, List.set_cons_succ, Nat.reduceAdd]
              have f6 := hf 6 (by decide) (by kernel_rfl)
              generalize vals 6 = v6 at *
              subst f6
              have f15 := hf 15 (by decide) (by kernel_rfl)
              generalize vals 15 = v15 at *
              subst f15
              have f3 := hf 3 (by decide) (by kernel_rfl)
              generalize vals 3 = v3 at *
              subst f3
              clear hf
              go_wp2_with (fail)
              exact RQ.mk rfl ⟨(by first | rfl | (simp [FS19_4_7]; done) | (simp [FS19_4_7, *]; done) | (simp [FS19_4_7, gotV]; done) | (simp [FS19_4_7, gotV]; omega)), fun h => absurd h (by decide)⟩ (Below.refl _ _)
            | 17, _ =>
              injection ho with ho
              subst ho
              clear hl
              simp only [fillA, List.take, List.drop, put_none, Act.put, List.setIfInBounds_toArray, List.set_cons_zero, List.set_cons_succ, Nat.reduceAdd]
              have f3 := hf 3 (by decide) (by kernel_rfl)
              generalize vals 3 = v3 at *
              subst f3
              have f16 := hf 16 (by decide) (by kernel_rfl)
              generalize vals 16 = v16 at *
              subst f16
              clear hf
              go_wp2_with (fail)
              exact RQ.mk rfl ⟨(by first | rfl | (simp [FS19_4_7]; done) | (simp [FS19_4_7, *]; done) | (simp [FS19_4_7, gotV]; done) | (simp [FS19_4_7, gotV]; omega)), fun h => absurd h (by decide)⟩ (Below.refl _ _)
            | m + 18, h => exact absurd h (by omega)
          · intro vals w1 hb1 hf hd
            simp only [fillA, List.take, List.drop, put_none, Act.put, List.setIfInBounds_toArray, List.set_cons_zero, List.set_cons_succ, Nat.reduceAdd]
            clear hd
            have f0 := hf 0 (by decide)
            generalize vals 0 = v0 at *
            subst f0
            have f1 := hf 1 (by decide)
            generalize vals 1 = v1 at *
            subst f1
            have f2 := hf 2 (by decide)
            generalize vals 2 = v2 at *
            subst f2
            have f3 := hf 3 (by decide)
            generalize vals 3 = v3 at *
            subst f3
            have f4 := hf 4 (by decide)
            generalize vals 4 = v4 at *
            subst f4
            have f5 := hf 5 (by decide)
            generalize vals 5 = v5 at *
            subst f5
            have f6 := hf 6 (by decide)
            generalize vals 6 = v6 at *
            subst f6
            have f7 := hf 7 (by decide)
            generalize vals 7 = v7 at *
            subst f7
            have f8 := hf 8 (by decide)
            generalize vals 8 = v8 at *
            subst f8
            have f9 := hf 9 (by decide)
            generalize vals 9 = v9 at *
            subst f9
            have f10 := hf 10 (by decide)
            generalize vals 10 = v10 at *
            subst f10
            have f11 := hf 11 (by decide)
            generalize vals 11 = v11 at *
            subst f11
            have f12 := hf 12 (by decide)
            generalize vals 12 = v12 at *
            subst f12
            have f13 := hf 13 (by decide)
            generalize vals 13 = v13 at *
            subst f13
            have f14 := hf 14 (by decide)
            generalize vals 14 = v14 at *
            subst f14
            have f15 := hf 15 (by decide)
            generalize vals 15 = v15 at *
            subst f15
            have f16 := hf 16 (by decide)
            generalize vals 16 = v16 at *
            subst f16
            have f17 := hf 17 (by decide)
            generalize vals 17 = v17 at *
            subst f17
            clear hf
            have hc1 := cellOf hb1
            have hf1 := frozOf hb1
            have hz1 := sizeOf hb1
            try simp at hz1
            go_wp2_with (fail)
            go_ret
            exact ⟨ret_bool (by rw [HB.out (by rw [HV.out, HG.out]; rfl)]), (by (repeat' (first | exact Below.refl _ _ | assumption | refine Below.setCell ?_ ?_ _ | refine Below.drew ?_ | refine Below.alloc ?_ ?_ _ | refine Below.trans ?_ (Below.mono (by assumption) ?_) | (simp; done) | (simp; omega) | omega)))⟩
    · obtain rfl : k = xs.length := by omega
      have HD := hid (vB_all (good := pOk) (lt := pLt) (n := 6) hl)
      go_wp2_with (fail)
      go_ret
      exact ⟨ret_bool (by rw [HD.out]; simp; try omega), (by (repeat' (first | exact Below.refl _ _ | assumption | refine Below.setCell ?_ ?_ _ | refine Below.drew ?_ | refine Below.alloc ?_ ?_ _ | refine Below.trans ?_ (Below.mono (by assumption) ?_) | (simp; done) | (simp; omega) | omega)))⟩

end Go.Proofs.Ytgjbdcalmodhpaa
