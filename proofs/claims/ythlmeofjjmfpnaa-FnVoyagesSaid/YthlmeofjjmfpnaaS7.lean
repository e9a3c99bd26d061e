import Derived.Test.YthlmeofjjmfpnaaS6
namespace Go.Proofs.Ythlmeofjjmfpnaa
set_option linter.unusedSimpArgs false
set_option linter.unusedVariables false
open Go.RowKit

def FS68_5 (x s : Int × Int) (b off k n0 cap : Nat) (w W0 : World) (iq : Nat) (v : Value) (w1 : World) : Prop := match iq with
  | 0 => v = .pointer (some ⟨w.heap.size + 1, 0, none⟩)
  | 1 => v = .int .i64 (s.1)
  | 2 => v = .slice (some ⟨b, off, none⟩) n0 cap
  | 3 => v = .int .i64 (k)
  | 4 => v = .pointer (some ⟨b, off + k * 2, none⟩)
  | 5 => v = .pointer (some ⟨b, off + k * 2, none⟩)
  | 6 => v = .int .i64 (x.1)
  | 7 => v = .int .i64 (wrap64 (s.1 + x.1))
  | 8 => v = .pointer (some ⟨w.heap.size + 1, 1, none⟩)
  | 9 => v = .int .i64 (s.2)
  | 10 => v = .slice (some ⟨b, off, none⟩) n0 cap
  | 11 => v = .int .i64 (k)
  | 12 => v = .pointer (some ⟨b, off + k * 2, none⟩)
  | 13 => v = .pointer (some ⟨b, off + k * 2 + 1, none⟩)
  | 14 => v = .int .i64 (x.2)
  | 15 => v = .int .i64 (wrap64 (s.2 + x.2))
  | 16 => v = .agg #[.int .i64 (wrap64 (s.1 + x.1)), .int .i64 (wrap64 (s.2 + x.2))]
  | _ => True

set_option maxHeartbeats 1000000 in
theorem c_spec_l13Whole (A : Option Addr) (xs : List (Int × Int)) (cap : Nat) (w : World) (hx : Rds cLeg 2 w A xs) (hn : xs.length ≤ 9223372036854775807) :
    Calls Try.prog 68 #[.slice A xs.length cap] w fun e w' => e = .returned (.agg #[.int .i64 (wholeW xs).1, .int .i64 (wholeW xs).2]) ∧ Below w.heap.size w w' := by
  go_enter Try.func68, Try.ntmps68
  go_wp2_with (fail)
  go_loopw [4] (fun i wr => ∃ k : Nat, k ≤ xs.length ∧ i = .int .i64 k ∧ wr.cell? ⟨w.heap.size, 0, none⟩ = some (.int .i64 0) ∧ wr.cell? ⟨w.heap.size, 1, none⟩ = some (.int .i64 0) ∧ wr.cell? ⟨w.heap.size + 1, 0, none⟩ = some (.int .i64 (wholeW (xs.take k)).1) ∧ wr.cell? ⟨w.heap.size + 1, 1, none⟩ = some (.int .i64 (wholeW (xs.take k)).2)
     ∧ (∀ o, wr.frozen? ⟨w.heap.size, o, none⟩ = false) ∧ (∀ o, wr.frozen? ⟨w.heap.size + 1, o, none⟩ = false) ∧ w.heap.size + 2 ≤ wr.heap.size ∧ Below w.heap.size w wr) (fun i _ => xs.length - (intOf i).toNat)
  case atStart => exact ⟨0, Nat.zero_le _, rfl, by simp [go_sem], by simp [go_sem], by simp [go_sem, wholeW], by simp [go_sem, wholeW], by simp [go_sem], by simp [go_sem], by simp, ((Below.refl _ _).alloc (Nat.le_refl _) _).alloc (by simp) _⟩
  case round =>
    obtain ⟨k, hk, rfl, ha0, ha1, hb0, hb1, hf0, hf1, hz, hbr⟩ := hrel
    by_cases hlt : k < xs.length
    · obtain ⟨b, off, rfl, hbb, hcc⟩ := hx k xs[k] (List.getElem?_eq_getElem hlt)
      have h0 := hcc 0 _ rfl
      have h1 := hcc 1 _ rfl
      simp only [Nat.add_zero] at h0
      clear hx hcc
      have HS := hid (wholeW_snoc xs k hlt)
      generalize xs[k] = x at *
      generalize wholeW (xs.take k) = s at *
      have hc := cellOf hbr
      have ha0' : far wr w.heap.size 0 = _ := ha0
      have ha1' : far wr w.heap.size 1 = _ := ha1
      have hb0' : far wr (w.heap.size + 1) 0 = _ := hb0
      have hb1' : far wr (w.heap.size + 1) 1 = _ := hb1
      go_wp2_with (fail)
      refine wp_region_w (n := 17) [] [] (FS68_5 x s b off k xs.length cap w) rfl (by kernel_rfl) (fun _ _ d _ _ h => by cases d <;> exact h) ?_ ?_ ?_ ?_ ?_ ?_
      · intro iq
        match iq with
        | 0 | 1 | 2 | 3 | 4 | 5 | 6 | 7 | 8 | 9 | 10 | 11 | 12 | 13 | 14 | 15 | 16 => exact Stable.const _
        | n + 17 => exact Stable.const _
      · intro iq hi
        exact absurd hi (by simp)
      · intro iq hi
        exact absurd hi (by simp)
      · intro iq o hi hl ho vals w1 hb1 hf
        exact absurd hl (by simp)
      · intro iq o hi hl ho vals w1 hb1 hf
        match iq, hi with
        | 0, _ =>
          injection ho with ho
          subst ho
          clear hl
          simp only [fillA, List.take, List.drop, put_none, Act.put, List.setIfInBounds_toArray, List.set_cons_zero, List.set_cons_succ, Nat.reduceAdd]
          clear hf
          go_wp2_with (fail)
          exact RQ.mk rfl ⟨(by first | rfl | (simp [FS68_5]; done) | (simp [FS68_5, *]; done) | (simp [FS68_5, gotV]; done) | (simp [FS68_5, gotV]; omega)), fun h => absurd h (by decide)⟩ (Below.refl _ _)
        | 1, _ =>
          injection ho with ho
          subst ho
          clear hl
          simp only [fillA, List.take, List.drop, put_none, Act.put, List.setIfInBounds_toArray, List.set_cons_zero, List.set_cons_succ, Nat.reduceAdd]
          have f0 := hf 0 (by decide) (by kernel_rfl)
          generalize vals 0 = v0 at *
          subst f0
          clear hf
          have hc1 := cellOf hb1
          have hf1 := frozOf hb1
          have hz1 := sizeOf hb1
          try simp at hz1
          go_wp2_with (fail)
          exact RQ.mk rfl ⟨(by first | rfl | (simp [FS68_5]; done) | (simp [FS68_5, *]; done) | (simp [FS68_5, gotV]; done) | (simp [FS68_5, gotV]; omega)), fun h => absurd h (by decide)⟩ (Below.refl _ _)
        | 2, _ =>
          injection ho with ho
          subst ho
          clear hl
          simp only [fillA, List.take, List.drop, put_none, Act.put, List.setIfInBounds_toArray, List.set_cons_zero, List.set_cons_succ, Nat.reduceAdd]
          clear hf
          go_wp2_with (fail)
          exact RQ.mk rfl ⟨(by first | rfl | (simp [FS68_5]; done) | (simp [FS68_5, *]; done) | (simp [FS68_5, gotV]; done) | (simp [FS68_5, gotV]; omega)), fun h => absurd h (by decide)⟩ (Below.refl _ _)
        | 3, _ =>
          injection ho with ho
          subst ho
          clear hl
          simp only [fillA, List.take, List.drop, put_none, Act.put, List.setIfInBounds_toArray, List.set_cons_zero, List.set_cons_succ, Nat.reduceAdd]
          clear hf
          go_wp2_with (fail)
          exact RQ.mk rfl ⟨(by first | rfl | (simp [FS68_5]; done) | (simp [FS68_5, *]; done) | (simp [FS68_5, gotV]; done) | (simp [FS68_5, gotV]; omega)), fun h => absurd h (by decide)⟩ (Below.refl _ _)
        | 4, _ =>
          injection ho with ho
          subst ho
          clear hl
          simp only [fillA, List.take, List.drop, put_none, Act.put, List.setIfInBounds_toArray, List.set_cons_zero, List.set_cons_succ, Nat.reduceAdd]
          have f2 := hf 2 (by decide) (by kernel_rfl)
          generalize vals 2 = v2 at *
          subst f2
          have f3 := hf 3 (by decide) (by kernel_rfl)
          generalize vals 3 = v3 at *
          subst f3
          clear hf
          go_wp2_with (fail)
          exact RQ.mk rfl ⟨(by first | rfl | (simp [FS68_5]; done) | (simp [FS68_5, *]; done) | (simp [FS68_5, gotV]; done) | (simp [FS68_5, gotV]; omega)), fun h => absurd h (by decide)⟩ (Below.refl _ _)
        | 5, _ =>
          injection ho with ho
          subst ho
          clear hl
          simp only [fillA, List.take, List.drop, put_none, Act.put, List.setIfInBounds_toArray, List.set_cons_zero, List.set_cons_succ, Nat.reduceAdd]
          have f4 := hf 4 (by decide) (by kernel_rfl)
          generalize vals 4 = v4 at *
          subst f4
          clear hf
          go_wp2_with (fail)
          exact RQ.mk rfl ⟨(by first | rfl | (simp [FS68_5]; done) | (simp [FS68_5, *]; done) | (simp [FS68_5, gotV]; done) | (simp [FS68_5, gotV]; omega)), fun h => absurd h (by decide)⟩ (Below.refl _ _)
        | 6, _ =>
          injection ho with ho
          subst ho
          clear hl
          simp only [fillA, List.take, List.drop, put_none, Act.put, List.setIfInBounds_toArray, List.set_cons_zero, List.set_cons_succ, Nat.reduceAdd]
          have f5 := hf 5 (by decide) (by kernel_rfl)
          generalize vals 5 = v5 at *
          subst f5
          clear hf
          have hc1 := cellOf hb1
          have hf1 := frozOf hb1
          have hz1 := sizeOf hb1
          try simp at hz1
          go_wp2_with (fail)
          exact RQ.mk rfl ⟨(by first | rfl | (simp [FS68_5]; done) | (simp [FS68_5, *]; done) | (simp [FS68_5, gotV]; done) | (simp [FS68_5, gotV]; omega)), fun h => absurd h (by decide)⟩ (Below.refl _ _)
        | 7, _ =>
          injection ho with ho
          subst ho
          clear hl
          simp only [fillA, List.take, List.drop, put_none, Act.put, List.setIfInBounds_toArray, List.set_cons_zero, List.set_cons_succ, Nat.reduceAdd]
          have f1 := hf 1 (by decide) (by kernel_rfl)
          generalize vals 1 = v1 at *
          subst f1
          have f6 := hf 6 (by decide) (by kernel_rfl)
          generalize vals 6 = v6 at *
          subst f6
          clear hf
          go_wp2_with (fail)
          exact RQ.mk rfl ⟨(by first | rfl | (simp [FS68_5]; done) | (simp [FS68_5, *]; done) | (simp [FS68_5, gotV]; done) | (simp [FS68_5, gotV]; omega)), fun h => absurd h (by decide)⟩ (Below.refl _ _)
        | 8, _ =>
          injection ho with ho
          subst ho
          clear hl
          simp only [fillA, List.take, List.drop, put_none, Act.put, List.setIfInBounds_toArray, List.set_cons_zero, List.set_cons_succ, Nat.reduceAdd]
          clear hf
          go_wp2_with (fail)
          exact RQ.mk rfl ⟨(by first | rfl | (simp [FS68_5]; done) | (simp [FS68_5, *]; done) | (simp [FS68_5, gotV]; done) | (simp [FS68_5, gotV]; omega)), fun h => absurd h (by decide)⟩ (Below.refl _ _)
        | 9, _ =>
          injection ho with ho
          subst ho
          clear hl
          simp only [fillA, List.take, List.drop, put_none, Act.put, List.setIfInBounds_toArray, List.set_cons_zero, List.set_cons_succ, Nat.reduceAdd]
          have f8 := hf 8 (by decide) (by kernel_rfl)
          generalize vals 8 = v8 at *
          subst f8
          clear hf
          have hc1 := cellOf hb1
          have hf1 := frozOf hb1
          have hz1 := sizeOf hb1
          try simp at hz1
          go_wp2_with (fail)
          exact RQ.mk rfl ⟨(by first | rfl | (simp [FS68_5]; done) | (simp [FS68_5, *]; done) | (simp [FS68_5, gotV]; done) | (simp [FS68_5, gotV]; omega)), fun h => absurd h (by decide)⟩ (Below.refl _ _)
        | 10, _ =>
          injection ho with ho
          subst ho
          clear hl
          simp only [fillA, List.take, List.drop, put_none, Act.put, List.setIfInBounds_toArray, List.set_cons_zero, List.set_cons_succ, Nat.reduceAdd]
          clear hf
          go_wp2_with (fail)
          exact RQ.mk rfl ⟨(by first | rfl | (simp [FS68_5]; done) | (simp [FS68_5, *]; done) | (simp [FS68_5, gotV]; done) | (simp [FS68_5, gotV]; omega)), fun h => absurd h (by decide)⟩ (Below.refl _ _)
        | 11, _ =>
          injection ho with ho
          subst ho
          clear hl
          simp only [fillA, List.take, List.drop, put_none, Act.put, List.setIfInBounds_toArray, List.set_cons_zero, List.set_cons_succ, Nat.reduceAdd]
          clear hf
          go_wp2_with (fail)
          exact RQ.mk rfl ⟨(by first | rfl | (simp [FS68_5]; done) | (simp [FS68_5, *]; done) | (simp [FS68_5, gotV]; done) | (simp [FS68_5, gotV]; omega)), fun h => absurd h (by decide)⟩ (Below.refl _ _)
        | 12, _ =>
          injection ho with ho
          subst ho
          clear hl
          simp only [fillA, List.take, List.drop, put_none, Act.put, List.setIfInBounds_toArray, List.set_cons_zero, List.set_cons_succ, Nat.reduceAdd]
          have f10 := hf 10 (by decide) (by kernel_rfl)
          generalize vals 10 = v10 at *
          subst f10
          have f11 := hf 11 (by decide) (by kernel_rfl)
          generalize vals 11 = v11 at *
          subst f11
          clear hf
          go_wp2_with (fail)
          exact RQ.mk rfl ⟨(by first | rfl | (simp [FS68_5]; done) | (simp [FS68_5, *]; done) | (simp [FS68_5, gotV]; done) | (simp [FS68_5, gotV]; omega)), fun h => absurd h (by decide)⟩ (Below.refl _ _)
        | 13, _ =>
          injection ho with ho
          subst ho
          clear hl
          simp only [fillA, List.take, List.drop, put_none, Act.put, List.setIfInBounds_toArray, List.set_cons_zero, List.set_cons_succ, Nat.reduceAdd]
          have f12 := hf 12 (by decide) (by kernel_rfl)
          generalize vals 12 = v12 at *
          subst f12
          clear hf
          go_wp2_with (fail)
          exact RQ.mk rfl ⟨(by first | rfl | (simp [FS68_5]; done) | (simp [FS68_5, *]; done) | (simp [FS68_5, gotV]; done) | (simp [FS68_5, gotV]; omega)), fun h => absurd h (by decide)⟩ (Below.refl _ _)
        | 14, _ =>
          injection ho with ho
          subst ho
          clear hl
          simp only [fillA, List.take, List.drop, put_none, Act.put, List.setIfInBounds_toArray, List.set_cons_zero, List.set_cons_succ, Nat.reduceAdd]
          have f13 := hf 13 (by decide) (by kernel_rfl)
          generalize vals 13 = v13 at *
          subst f13
          clear hf
          have hc1 := cellOf hb1
          have hf1 := frozOf hb1
          have hz1 := sizeOf hb1
          try simp at hz1
          go_wp2_with (fail)
          exact RQ.mk rfl ⟨(by first | rfl | (simp [FS68_5]; done) | (simp [FS68_5, *]; done) | (simp [FS68_5, gotV]; done) | (simp [FS68_5, gotV]; omega)), fun h => absurd h (by decide)⟩ (Below.refl _ _)
        | 15, _ =>
          injection ho with ho
          subst ho
          clear hl
          simp only [fillA, List.take, List.drop, put_none, Act.put, List.setIfInBounds_toArray, List.set_cons_zero, List.set_cons_succ, Nat.reduceAdd]
          have f9 := hf 9 (by decide) (by kernel_rfl)
          generalize vals 9 = v9 at *
          subst f9
          have f14 := hf 14 (by decide) (by kernel_rfl)
          generalize vals 14 = v14 at *
          subst f14
          clear hf
          go_wp2_with (fail)
          exact RQ.mk rfl ⟨(by first | rfl | (simp [FS68_5]; done) | (simp [FS68_5, *]; done) | (simp [FS68_5, gotV]; done) | (simp [FS68_5, gotV]; omega)), fun h => absurd h (by decide)⟩ (Below.refl _ _)
        | 16, _ =>
          injection ho with ho
          subst ho
          clear hl
          simp only [fillA, List.take, List.drop, put_none, Act.put, List.setIfInBounds_toArray, List.set_cons_zero, List.set_cons_succ, Nat.reduceAdd]
          have f7 := hf 7 (by decide) (by kernel_rfl)
          generalize vals 7 = v7 at *
          subst f7
          have f15 := hf 15 (by decide) (by kernel_rfl)
          generalize vals 15 = v15 at *
          subst f15
          clear hf
          go_wp2_with (fail)
          exact RQ.mk rfl ⟨(by first | rfl | (simp [FS68_5]; done) | (simp [FS68_5, *]; done) | (simp [FS68_5, gotV]; done) | (simp [FS68_5, gotV]; omega)), fun h => absurd h (by decide)⟩ (Below.refl _ _)
        | m + 17, h => exact absurd h (by omega)
      · intro vals w1 hb1 hf hd
        simp only [fillA, List.take, List.drop, put_none, Act.put, List.setIfInBounds_toArray, List.set_cons_zero, List.set_cons_succ, Nat.reduceAdd]
        clear hd
        have f0 := hf 0 (by decide)
        generalize vals 0 = v0 at *
        subst f0
        have f1 := hf 1 (by decide)
        generalize vals 1 = v1 at *
        subst f1
        have f2 := hf 2 (by decide)
        generalize vals 2 = v2 at *
        subst f2
        have f3 := hf 3 (by decide)
        generalize vals 3 = v3 at *
        subst f3
        have f4 := hf 4 (by decide)
        generalize vals 4 = v4 at *
        subst f4
        have f5 := hf 5 (by decide)
        generalize vals 5 = v5 at *
        subst f5
        have f6 := hf 6 (by decide)
        generalize vals 6 = v6 at *
        subst f6
        have f7 := hf 7 (by decide)
        generalize vals 7 = v7 at *
        subst f7
        have f8 := hf 8 (by decide)
        generalize vals 8 = v8 at *
        subst f8
        have f9 := hf 9 (by decide)
        generalize vals 9 = v9 at *
        subst f9
        have f10 := hf 10 (by decide)
        generalize vals 10 = v10 at *
        subst f10
        have f11 := hf 11 (by decide)
        generalize vals 11 = v11 at *
        subst f11
        have f12 := hf 12 (by decide)
        generalize vals 12 = v12 at *
        subst f12
        have f13 := hf 13 (by decide)
        generalize vals 13 = v13 at *
        subst f13
        have f14 := hf 14 (by decide)
        generalize vals 14 = v14 at *
        subst f14
        have f15 := hf 15 (by decide)
        generalize vals 15 = v15 at *
        subst f15
        have f16 := hf 16 (by decide)
        generalize vals 16 = v16 at *
        subst f16
        clear hf
        have hc1 := cellOf hb1
        have hf1 := frozOf hb1
        have hz1 := sizeOf hb1
        try simp at hz1
        go_wp2_with (fail)
        go_roundw
        case rel =>
          refine ⟨k + 1, by omega, by go_num, ?_, ?_, ?_, ?_, ?_, ?_, ?_, ?_⟩
          all_goals first | omega | (simp [go_sem, ↓IntWalk.iteOmega, HS.out, *]; done) | (intro o; simp [go_sem, ↓IntWalk.iteOmega, *]; done) | (simp; omega) | ((repeat' (first | exact Below.refl _ _ | assumption | refine Below.setCell ?_ ?_ _ | refine Below.drew ?_ | refine Below.alloc ?_ ?_ _ | refine Below.trans ?_ (Below.mono (by assumption) ?_) | (simp; done) | (simp; omega) | omega)); done)
        case measure => simp [intOf]; omega
    · obtain rfl : k = xs.length := by omega
      rw [List.take_length] at hb0 hb1
      go_wp2_with (fail)
      refine bodyPost_ret (v := .agg #[.int .i64 (wholeW xs).1, .int .i64 (wholeW xs).2]) ?_ rfl ⟨rfl, ?_⟩
      · simp [results, Try.results68, go_sem, ↓IntWalk.iteOmega, *]
      · (repeat' (first | exact Below.refl _ _ | assumption | refine Below.setCell ?_ ?_ _ | refine Below.drew ?_ | refine Below.alloc ?_ ?_ _ | refine Below.trans ?_ (Below.mono (by assumption) ?_) | (simp; done) | (simp; omega) | omega))

end Go.Proofs.Ythlmeofjjmfpnaa
