import Derived.Test.YteciijnpfapmhaaK0
import Derived.Test.YteciijnpfapmhaaC1
namespace Go.Proofs.Yteciijnpfapmhaa
set_option linter.unusedSimpArgs false
set_option linter.unusedVariables false
open Go.RowKit

set_option maxHeartbeats 400000 in
theorem c_cmp_isNaN_int_ (x : Int) (w : World)  :
    Calls Try.prog 96 #[.int .i64 (x)] w fun e w' => e = .returned (.bool (false)) ∧ Below w.heap.size w w' := by
  go_enter Try.func96, Try.ntmps96
  go_wp2
  all_goals go_ret
  all_goals
    refine ⟨ret_bool ?_, ?_⟩
    · first | rfl | omega | (simp []; done) | (simp []; omega) | (simp []; (repeat' split) <;> (first | omega | (simp; done) | (simp; omega))) | (simp_all []; done) | (simp_all []; omega)
    · (repeat' (first | exact Below.refl _ _ | assumption | refine Below.setCell ?_ ?_ _ | refine Below.drew ?_ | refine Below.alloc ?_ ?_ _ | refine Below.trans ?_ (Below.mono (by assumption) ?_) | (simp; done) | (simp; omega) | omega))

set_option maxHeartbeats 400000 in
theorem c_cmp_Less_int_ (x y : Int) (w : World)  :
    Calls Try.prog 94 #[.int .i64 (x), .int .i64 (y)] w fun e w' => e = .returned (.bool (decide (x < y))) ∧ Below w.heap.size w w' := by
  go_enter Try.func94, Try.ntmps94
  go_wp2_with (first | (go_at_call 96; refine (c_cmp_isNaN_int_ _ _ ).mono ?_; rintro e w' ⟨rfl, hb⟩; have hc := cellOf hb; have hf := frozOf hb; have hz := sizeOf hb; try simp at hz))
  all_goals go_ret
  all_goals
    refine ⟨ret_bool ?_, ?_⟩
    · first | rfl | omega | (simp []; done) | (simp []; omega) | (simp []; (repeat' split) <;> (first | omega | (simp; done) | (simp; omega))) | (simp_all []; done) | (simp_all []; omega)
    · (repeat' (first | exact Below.refl _ _ | assumption | refine Below.setCell ?_ ?_ _ | refine Below.drew ?_ | refine Below.alloc ?_ ?_ _ | refine Below.trans ?_ (Below.mono (by assumption) ?_) | (simp; done) | (simp; omega) | omega))

def FS86_4 (x y : Int) (bx ox k n0 cap : Nat) (w W0 : World) (iq : Nat) (v : Value) (w1 : World) : Prop := match iq with
  | 0 => v = .slice (some ⟨bx, ox, none⟩) n0 cap
  | 1 => v = .int .i64 (k + 1)
  | 2 => v = .pointer (some ⟨bx, ox + (k + 1), none⟩)
  | 3 => v = .int .i64 (x)
  | 4 => v = .slice (some ⟨bx, ox, none⟩) n0 cap
  | 5 => v = .int .i64 (k + 1)
  | 6 => v = .int .i64 (k)
  | 7 => v = .pointer (some ⟨bx, ox + k, none⟩)
  | 8 => v = .int .i64 (y)
  | 9 => v = .bool (decide (x < y))
  | _ => True

set_option maxRecDepth 100000 in
set_option maxHeartbeats 2000000 in
theorem c_sorted (A : Option Addr) (rs : List Int) (cap : Nat) (w : World) (hr : Rds cIn 1 w A rs) (hn : rs.length ≤ 9223372036854775807) :
    Calls Try.prog 86 #[.slice A rs.length cap] w fun e w' => e = .returned (.bool (sortB rs)) ∧ Below w.heap.size w w' := by
  go_enter Try.func86, Try.ntmps86
  go_wp2_with (fail)
  go_loopw [3] (fun i wr => ∃ k : Nat, k ≤ rs.length ∧ i = .int .i64 ((k : Int) - 1) ∧ (∀ j, k ≤ j → j < rs.length → vAt (fun _ => true) reqLe rs j = true) ∧ Below w.heap.size w wr) (fun i _ => (intOf i + 1).toNat)
  case atStart => exact ⟨rs.length, Nat.le_refl _, rfl, fun j h1 h2 => absurd h2 (by omega), by (repeat' (first | exact Below.refl _ _ | assumption | refine Below.setCell ?_ ?_ _ | refine Below.drew ?_ | refine Below.alloc ?_ ?_ _ | refine Below.trans ?_ (Below.mono (by assumption) ?_) | (simp; done) | (simp; omega) | omega))⟩
  case round =>
    obtain ⟨k, hk, rfl, hl, hbr⟩ := hrel
    have HL := hid hl
    clear hl
    by_cases hlt : 2 ≤ k
    · obtain ⟨k, rfl⟩ : ∃ m, k = m + 2 := ⟨k - 2, by omega⟩
      have hk1 : k + 1 < rs.length := by omega
      have hk0 : k < rs.length := by omega
      have e1 : (((k + 2 : Nat) : Int) - 1) = (k : Int) + 1 := by omega
      rw [e1]
      clear e1
      obtain ⟨bx, ox, rfl, hbx, hcx⟩ := Rds.all hr (by omega)
      have hx0 := hcx (k + 1) hk1 0 _ rfl
      have hy0 := hcx k hk0 0 _ rfl
      simp only [Nat.add_zero, Nat.mul_one] at hx0 hy0
      have HV := hid (vAt_succ (good := fun _ => true) (lt := reqLe) k hk1)
      have HB := hid (sortB_bad (rs := rs) hk1)
      have hc := cellOf hbr
      have hf := frozOf hbr
      have hz := sizeOf hbr
      clear hcx hr
      generalize rs[k + 1] = x at *
      generalize rs[k] = y at *
      go_wp2_with (fail)
      refine wp_region_w (n := 10) [] [] (FS86_4 x y bx ox k rs.length cap w) rfl (by kernel_rfl) (fun _ _ d _ _ h => by cases d <;> exact h) ?_ ?_ ?_ ?_ ?_ ?_
      · intro iq
        match iq with
        | 0 | 1 | 2 | 3 | 4 | 5 | 6 | 7 | 8 | 9 => exact Stable.const _
        | n + 10 => exact Stable.const _
      · intro iq hi
        exact absurd hi (by simp)
      · intro iq hi
        exact absurd hi (by simp)
      · intro iq o hi hl ho vals w1 hb1 hf
        exact absurd hl (by simp)
      · intro iq o hi hl ho vals w1 hb1 hf
        match iq, hi with
        | 0, _ =>
          injection ho with ho
          subst ho
          clear hl
          simp only [fillA, List.take, List.drop, put_none, Act.put, List.setIfInBounds_toArray, List.set_cons_zero, List.set_cons_succ, Nat.reduceAdd]
          clear hf
          go_wp2_with (fail)
          exact RQ.mk rfl ⟨(by first | rfl | (simp [FS86_4]; done) | (simp [FS86_4, *]; done) | (simp [FS86_4, gotV]; done) | (simp [FS86_4, gotV]; omega)), fun h => absurd h (by decide)⟩ (Below.refl _ _)
        | 1, _ =>
          injection ho with ho
          subst ho
          clear hl
          simp only [fillA, List.take, List.drop, put_none, Act.put, List.setIfInBounds_toArray, List.set_cons_zero, List.set_cons_succ, Nat.reduceAdd]
          clear hf
          go_wp2_with (fail)
          exact RQ.mk rfl ⟨(by first | rfl | (simp [FS86_4]; done) | (simp [FS86_4, *]; done) | (simp [FS86_4, gotV]; done) | (simp [FS86_4, gotV]; omega)), fun h => absurd h (by decide)⟩ (Below.refl _ _)
        | 2, _ =>
          injection ho with ho
          subst ho
          clear hl
          simp only [fillA, List.take, List.drop, put_none, Act.put, List.setIfInBounds_toArray, List.set_cons_zero, List.set_cons_succ, Nat.reduceAdd]
          have f0 := hf 0 (by decide) (by kernel_rfl)
          generalize vals 0 = v0 at *
          subst f0
          have f1 := hf 1 (by decide) (by kernel_rfl)
          generalize vals 1 = v1 at *
          subst f1
          clear hf
          go_wp2_with (fail)
          exact RQ.mk rfl ⟨(by first | rfl | (simp [FS86_4]; done) | (simp [FS86_4, *]; done) | (simp [FS86_4, gotV]; done) | (simp [FS86_4, gotV]; omega)), fun h => absurd h (by decide)⟩ (Below.refl _ _)
        | 3, _ =>
          injection ho with ho
          subst ho
          clear hl
          simp only [fillA, List.take, List.drop, put_none, Act.put, List.setIfInBounds_toArray, List.set_cons_zero, List.set_cons_succ, Nat.reduceAdd]
          have f2 := hf 2 (by decide) (by kernel_rfl)
          generalize vals 2 = v2 at *
          subst f2
          clear hf
          have hc1 := cellOf hb1
          have hf1 := frozOf hb1
          have hz1 := sizeOf hb1
          try simp at hz1
          go_wp2_with (fail)
          exact RQ.mk rfl ⟨(by first | rfl | (simp [FS86_4]; done) | (simp [FS86_4, *]; done) | (simp [FS86_4, gotV]; done) | (simp [FS86_4, gotV]; omega)), fun h => absurd h (by decide)⟩ (Below.refl _ _)
        | 4, _ =>
          injection ho with ho
          subst ho
          clear hl
          simp only [fillA, List.take, List.drop, put_none, Act.put, List.setIfInBounds_toArray, List.set_cons_zero, List.set_cons_succ, Nat.reduceAdd]
          clear hf
          go_wp2_with (fail)
          exact RQ.mk rfl ⟨(by first | rfl | (simp [FS86_4]; done) | (simp [FS86_4, *]; done) | (simp [FS86_4, gotV]; done) | (simp [FS86_4, gotV]; omega)), fun h => absurd h (by decide)⟩ (Below.refl _ _)
        | 5, _ =>
          injection ho with ho
          subst ho
          clear hl
          simp only [fillA, List.take, List.drop, put_none, Act.put, List.setIfInBounds_toArray, List.set_cons_zero, List.set_cons_succ, Nat.reduceAdd]
          clear hf
          go_wp2_with (fail)
          exact RQ.mk rfl ⟨(by first | rfl | (simp [FS86_4]; done) | (simp [FS86_4, *]; done) | (simp [FS86_4, gotV]; done) | (simp [FS86_4, gotV]; omega)), fun h => absurd h (by decide)⟩ (Below.refl _ _)
        | 6, _ =>
          injection ho with ho
          subst ho
          clear hl
          simp only [fillA, List.take, List.drop, put_none, Act.put, List.setIfInBounds_toArray, List.set_cons_zero, List.set_cons_succ, Nat.reduceAdd]
          have f5 := hf 5 (by decide) (by kernel_rfl)
          generalize vals 5 = v5 at *
          subst f5
          clear hf
          go_wp2_with (fail)
          exact RQ.mk rfl ⟨(by first | rfl | (simp [FS86_4]; done) | (simp [FS86_4, *]; done) | (simp [FS86_4, gotV]; done) | (simp [FS86_4, gotV]; omega)), fun h => absurd h (by decide)⟩ (Below.refl _ _)
        | 7, _ =>
          injection ho with ho
          subst ho
          clear hl
          simp only [fillA, List.take, List.drop, put_none, Act.put, List.setIfInBounds_toArray, List.set_cons_zero, List.set_cons_succ, Nat.reduceAdd]
          have f4 := hf 4 (by decide) (by kernel_rfl)
          generalize vals 4 = v4 at *
          subst f4
          have f6 := hf 6 (by decide) (by kernel_rfl)
          generalize vals 6 = v6 at *
          subst f6
          clear hf
          go_wp2_with (fail)
          exact RQ.mk rfl ⟨(by first | rfl | (simp [FS86_4]; done) | (simp [FS86_4, *]; done) | (simp [FS86_4, gotV]; done) | (simp [FS86_4, gotV]; omega)), fun h => absurd h (by decide)⟩ (Below.refl _ _)
        | 8, _ =>
          injection ho with ho
          subst ho
          clear hl
          simp only [fillA, List.take, List.drop, put_none, Act.put, List.setIfInBounds_toArray, List.set_cons_zero, List.set_cons_succ, Nat.reduceAdd]
          have f7 := hf 7 (by decide) (by kernel_rfl)
          generalize vals 7 = v7 at *
          subst f7
          clear hf
          have hc1 := cellOf hb1
          have hf1 := frozOf hb1
          have hz1 := sizeOf hb1
          try simp at hz1
          go_wp2_with (fail)
          exact RQ.mk rfl ⟨(by first | rfl | (simp [FS86_4]; done) | (simp [FS86_4, *]; done) | (simp [FS86_4, gotV]; done) | (simp [FS86_4, gotV]; omega)), fun h => absurd h (by decide)⟩ (Below.refl _ _)
        | 9, _ =>
          injection ho with ho
          subst ho
          clear hl
          simp only [fillA, List.take, List.drop, put_none, Act.put, List.setIfInBounds_toArray, List.set_cons_zero, List.set_cons_succ, Nat.reduceAdd]
          have f3 := hf 3 (by decide) (by kernel_rfl)
          generalize vals 3 = v3 at *
          subst f3
          have f8 := hf 8 (by decide) (by kernel_rfl)
          generalize vals 8 = v8 at *
          subst f8
          clear hf
          have hc1 := cellOf hb1
          have hf1 := frozOf hb1
          have hz1 := sizeOf hb1
          try simp at hz1
          go_wp2_with (first | (go_at_call 94; refine (c_cmp_Less_int_ _ _ _ ).mono ?_; rintro e w' ⟨rfl, hb⟩; have hc := cellOf hb; have hf := frozOf hb; have hz := sizeOf hb; try simp at hz))
          exact RQ.mk rfl ⟨(by first | rfl | (simp [FS86_4]; done) | (simp [FS86_4, *]; done) | (simp [FS86_4, gotV]; done) | (simp [FS86_4, gotV]; omega)), fun h => absurd h (by decide)⟩ (by (repeat' (first | exact Below.refl _ _ | assumption | refine Below.setCell ?_ ?_ _ | refine Below.drew ?_ | refine Below.alloc ?_ ?_ _ | refine Below.trans ?_ (Below.mono (by assumption) ?_) | (simp; done) | (simp; omega) | omega)))
      · intro vals w1 hb1 hf hd
        simp only [fillA, List.take, List.drop, put_none, Act.put, List.setIfInBounds_toArray, List.set_cons_zero, List.set_cons_succ, Nat.reduceAdd]
        clear hd
        have f0 := hf 0 (by decide)
        generalize vals 0 = v0 at *
        subst f0
        have f1 := hf 1 (by decide)
        generalize vals 1 = v1 at *
        subst f1
        have f2 := hf 2 (by decide)
        generalize vals 2 = v2 at *
        subst f2
        have f3 := hf 3 (by decide)
        generalize vals 3 = v3 at *
        subst f3
        have f4 := hf 4 (by decide)
        generalize vals 4 = v4 at *
        subst f4
        have f5 := hf 5 (by decide)
        generalize vals 5 = v5 at *
        subst f5
        have f6 := hf 6 (by decide)
        generalize vals 6 = v6 at *
        subst f6
        have f7 := hf 7 (by decide)
        generalize vals 7 = v7 at *
        subst f7
        have f8 := hf 8 (by decide)
        generalize vals 8 = v8 at *
        subst f8
        have f9 := hf 9 (by decide)
        generalize vals 9 = v9 at *
        subst f9
        clear hf
        have hc1 := cellOf hb1
        have hf1 := frozOf hb1
        have hz1 := sizeOf hb1
        try simp at hz1
        by_cases hxy : x < y
        · have HN := hid (HV.out.trans (show (true && reqLe y x) = false by simp [reqLe]; omega))
          go_wp2_with (fail)
          go_ret
          exact ⟨ret_bool (by rw [HB.out HN.out]), by (repeat' (first | exact Below.refl _ _ | assumption | refine Below.setCell ?_ ?_ _ | refine Below.drew ?_ | refine Below.alloc ?_ ?_ _ | refine Below.trans ?_ (Below.mono (by assumption) ?_) | (simp; done) | (simp; omega) | omega))⟩
        · have HN := hid (HV.out.trans (show (true && reqLe y x) = true by simp [reqLe]; omega))
          go_wp2_with (fail)
          go_roundw
          case rel =>
            refine ⟨k + 1, by omega, by go_num, fun j h1 h2 => ?_, by (repeat' (first | exact Below.refl _ _ | assumption | refine Below.setCell ?_ ?_ _ | refine Below.drew ?_ | refine Below.alloc ?_ ?_ _ | refine Below.trans ?_ (Below.mono (by assumption) ?_) | (simp; done) | (simp; omega) | omega))⟩
            rcases Nat.lt_or_ge j (k + 2) with h | h
            · obtain rfl : j = k + 1 := by omega
              exact HN.out
            · exact HL.out j h h2
          case measure => simp [intOf]; omega
    · have HD := hid (sortB_all (rs := rs) (fun j hj => by
        cases j with
        | zero => rw [vAt_zero hj]
        | succ j => exact HL.out (j + 1) (by omega) hj))
      go_wp2_with (fail)
      go_ret
      exact ⟨ret_bool (by rw [HD.out]), by (repeat' (first | exact Below.refl _ _ | assumption | refine Below.setCell ?_ ?_ _ | refine Below.drew ?_ | refine Below.alloc ?_ ?_ _ | refine Below.trans ?_ (Below.mono (by assumption) ?_) | (simp; done) | (simp; omega) | omega))⟩

end Go.Proofs.Yteciijnpfapmhaa
