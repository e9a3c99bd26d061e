import Derived.Test.YteciijnpfapmhaaG7
namespace Go.Proofs.Yteciijnpfapmhaa
set_option linter.unusedSimpArgs false
set_option linter.unusedVariables false
open Go.RowKit

def FS54_6 (x y : (Int × Int)) (bx ox by_ oy k n0 n1 cap0 cap1 : Nat) (w W0 : World) (iq : Nat) (v : Value) (w1 : World) : Prop := match iq with
  | 0 => v = .slice (some ⟨bx, ox, none⟩) n0 cap0
  | 1 => v = .int .i64 (k)
  | 2 => v = .pointer (some ⟨bx, ox + k * 2, none⟩)
  | 3 => v = .agg #[.int .i64 (x.1), .int .i64 (x.2)]
  | 4 => v = .slice (some ⟨by_, oy, none⟩) n1 cap1
  | 5 => v = .int .i64 (k)
  | 6 => v = .pointer (some ⟨by_, oy + k * 2, none⟩)
  | 7 => v = .agg #[.int .i64 (y.1), .int .i64 (y.2)]
  | 8 => v = .bool (eqI (x.1) (x.2) (y.1) (y.2))
  | 9 => v = .bool (!(eqI (x.1) (x.2) (y.1) (y.2)))
  | _ => True

set_option maxHeartbeats 2000000 in
theorem c_laws_eqIntervalS (A0 A1 : Option Addr) (xs ys : List (Int × Int)) (cap0 cap1 : Nat) (w : World) (h0 : Rds cIv 2 w A0 xs) (h1 : Rds cIv 2 w A1 ys) (hn0 : xs.length ≤ 9223372036854775807) (hn1 : ys.length ≤ 9223372036854775807) :
    Calls Try.prog 54 #[.slice A0 xs.length cap0, .slice A1 ys.length cap1] w fun e w' => e = .returned (.bool (decide (xs = ys))) ∧ Below w.heap.size w w' := by
  by_cases hlen : xs.length = ys.length
  · have H := hid hlen
    have hl1 : xs.length ≤ ys.length := by omega
    have hl2 : ys.length ≤ xs.length := by omega
    clear hlen
    go_enter Try.func54, Try.ntmps54
    go_wp2_with (fail)
    go_loopw [5] (fun i wr => ∃ k : Nat, k ≤ xs.length ∧ i = .int .i64 k ∧ xs.take k = ys.take k ∧ Below w.heap.size w wr) (fun i _ => xs.length - (intOf i).toNat)
    case atStart => exact ⟨0, Nat.zero_le _, rfl, rfl, Below.refl _ _⟩
    case round =>
      obtain ⟨k, hk, rfl, hl, hbr⟩ := hrel
      have HT := hid hl
      clear hl
      by_cases hlt : k < xs.length
      · have hlt2 : k < ys.length := by omega
        obtain ⟨bx, ox, rfl, hbx, hcx⟩ := h0 k xs[k] (List.getElem?_eq_getElem hlt)
        obtain ⟨by_, oy, rfl, hby, hcy⟩ := h1 k ys[k] (List.getElem?_eq_getElem hlt2)
        have hx0 := hcx 0 _ rfl
        have hx1 := hcx 1 _ rfl
        have hy0 := hcy 0 _ rfl
        have hy1 := hcy 1 _ rfl
        simp only [Nat.add_zero] at hx0 hy0
        clear hcx hcy h0 h1
        obtain ⟨x, hxk⟩ : ∃ x, x = xs[k] := ⟨_, rfl⟩
        obtain ⟨y, hyk⟩ : ∃ y, y = ys[k] := ⟨_, rfl⟩
        simp only [← hxk, ← hyk] at hx0 hx1 hy0 hy1
        have HX := hid hxk
        have HY := hid hyk
        clear hxk hyk
        have hc := cellOf hbr
        have hf := frozOf hbr
        have hz := sizeOf hbr
        go_wp2_with (fail)
        refine wp_region_w (n := 10) [] [] (FS54_6 x y bx ox by_ oy k xs.length ys.length cap0 cap1 w) rfl (by kernel_rfl) (fun _ _ d _ _ h => by cases d <;> exact h) ?_ ?_ ?_ ?_ ?_ ?_
        · intro iq
          match iq with
          | 0 | 1 | 2 | 3 | 4 | 5 | 6 | 7 | 8 | 9 => exact Stable.const _
          | n + 10 => exact Stable.const _
        · intro iq hi
          exact absurd hi (by simp)
        · intro iq hi
          exact absurd hi (by simp)
        · intro iq o hi hl ho vals w1 hb1 hf
          exact absurd hl (by simp)
        · intro iq o hi hl ho vals w1 hb1 hf
          match iq, hi with
          | 0, _ =>
            injection ho with ho
            subst ho
            clear hl
            simp only [fillA, List.take, List.drop, put_none, Act.put, List.setIfInBounds_toArray, List.set_cons_zero, List.set_cons_succ, Nat.reduceAdd]
            clear hf
            go_wp2_with (fail)
            exact RQ.mk rfl ⟨(by first | rfl | (simp [FS54_6]; done) | (simp [FS54_6, *]; done) | (simp [FS54_6, gotV]; done) | (simp [FS54_6, gotV]; omega)), fun h => absurd h (by decide)⟩ (Below.refl _ _)
          | 1, _ =>
            injection ho with ho
            subst ho
            clear hl
            simp only [fillA, List.take, List.drop, put_none, Act.put, List.setIfInBounds_toArray, List.set_cons_zero, List.set_cons_succ, Nat.reduceAdd]
            clear hf
            go_wp2_with (fail)
            exact RQ.mk rfl ⟨(by first | rfl | (simp [FS54_6]; done) | (simp [FS54_6, *]; done) | (simp [FS54_6, gotV]; done) | (simp [FS54_6, gotV]; omega)), fun h => absurd h (by decide)⟩ (Below.refl _ _)
          | 2, _ =>
            injection ho with ho
            subst ho
            clear hl
            simp only [fillA, List.take, List.drop, put_none, Act.put, List.setIfInBounds_toArray, List.set_cons_zero, List.set_cons_succ, Nat.reduceAdd]
            have f0 := hf 0 (by decide) (by kernel_rfl)
            generalize vals 0 = v0 at *
            subst f0
            have f1 := hf 1 (by decide) (by kernel_rfl)
            generalize vals 1 = v1 at *
            subst f1
            clear hf
            go_wp2_with (fail)
            exact RQ.mk rfl ⟨(by first | rfl | (simp [FS54_6]; done) | (simp [FS54_6, *]; done) | (simp [FS54_6, gotV]; done) | (simp [FS54_6, gotV]; omega)), fun h => absurd h (by decide)⟩ (Below.refl _ _)
          | 3, _ =>
            injection ho with ho
            subst ho
            clear hl
            simp only [fillA, List.take, List.drop, put_none, Act.put, List.setIfInBounds_toArray, List.set_cons_zero, List.set_cons_succ, Nat.reduceAdd]
            have f2 := hf 2 (by decide) (by kernel_rfl)
            generalize vals 2 = v2 at *
            subst f2
            clear hf
            have hc1 := cellOf hb1
            have hf1 := frozOf hb1
            have hz1 := sizeOf hb1
            try simp at hz1
            go_wp2_with (fail)
            exact RQ.mk rfl ⟨(by first | rfl | (simp [FS54_6]; done) | (simp [FS54_6, *]; done) | (simp [FS54_6, gotV]; done) | (simp [FS54_6, gotV]; omega)), fun h => absurd h (by decide)⟩ (Below.refl _ _)
          | 4, _ =>
            injection ho with ho
            subst ho
            clear hl
            simp only [fillA, List.take, List.drop, put_none, Act.put, List.setIfInBounds_toArray, List.set_cons_zero, List.set_cons_succ, Nat.reduceAdd]
            clear hf
            go_wp2_with (fail)
            exact RQ.mk rfl ⟨(by first | rfl | (simp [FS54_6]; done) | (simp [FS54_6, *]; done) | (simp [FS54_6, gotV]; done) | (simp [FS54_6, gotV]; omega)), fun h => absurd h (by decide)⟩ (Below.refl _ _)
          | 5, _ =>
            injection ho with ho
            subst ho
            clear hl
            simp only [fillA, List.take, List.drop, put_none, Act.put, List.setIfInBounds_toArray, List.set_cons_zero, List.set_cons_succ, Nat.reduceAdd]
            clear hf
            go_wp2_with (fail)
            exact RQ.mk rfl ⟨(by first | rfl | (simp [FS54_6]; done) | (simp [FS54_6, *]; done) | (simp [FS54_6, gotV]; done) | (simp [FS54_6, gotV]; omega)), fun h => absurd h (by decide)⟩ (Below.refl _ _)
          | 6, _ =>
            injection ho with ho
            subst ho
            clear hl
            simp only [fillA, List.take, List.drop, put_none, Act.put, List.setIfInBounds_toArray, List.set_cons_zero, List.set_cons_succ, Nat.reduceAdd]
            have f4 := hf 4 (by decide) (by kernel_rfl)
            generalize vals 4 = v4 at *
            subst f4
            have f5 := hf 5 (by decide) (by kernel_rfl)
            generalize vals 5 = v5 at *
            subst f5
            clear hf
            go_wp2_with (fail)
            exact RQ.mk rfl ⟨(by first | rfl | (simp [FS54_6]; done) | (simp [FS54_6, *]; done) | (simp [FS54_6, gotV]; done) | (simp [FS54_6, gotV]; omega)), fun h => absurd h (by decide)⟩ (Below.refl _ _)
          | 7, _ =>
            injection ho with ho
            subst ho
            clear hl
            simp only [fillA, List.take, List.drop, put_none, Act.put, List.setIfInBounds_toArray, List.set_cons_zero, List.set_cons_succ, Nat.reduceAdd]
            have f6 := hf 6 (by decide) (by kernel_rfl)
            generalize vals 6 = v6 at *
            subst f6
            clear hf
            have hc1 := cellOf hb1
            have hf1 := frozOf hb1
            have hz1 := sizeOf hb1
            try simp at hz1
            go_wp2_with (fail)
            exact RQ.mk rfl ⟨(by first | rfl | (simp [FS54_6]; done) | (simp [FS54_6, *]; done) | (simp [FS54_6, gotV]; done) | (simp [FS54_6, gotV]; omega)), fun h => absurd h (by decide)⟩ (Below.refl _ _)
          | 8, _ =>
            injection ho with ho
            subst ho
            clear hl
            simp only [fillA, List.take, List.drop, put_none, Act.put, List.setIfInBounds_toArray, List.set_cons_zero, List.set_cons_succ, Nat.reduceAdd]
            have f3 := hf 3 (by decide) (by kernel_rfl)
            generalize vals 3 = v3 at *
            subst f3
            have f7 := hf 7 (by decide) (by kernel_rfl)
            generalize vals 7 = v7 at *
            subst f7
            clear hf
            have hc1 := cellOf hb1
            have hf1 := frozOf hb1
            have hz1 := sizeOf hb1
            try simp at hz1
            go_wp2_with (first | (go_at_call 83; refine (c_laws_eqInterval _ _ _ _ _ ).mono ?_; rintro e w' ⟨rfl, hb⟩; have hc := cellOf hb; have hf := frozOf hb; have hz := sizeOf hb; try simp at hz))
            exact RQ.mk rfl ⟨(by first | rfl | (simp [FS54_6]; done) | (simp [FS54_6, *]; done) | (simp [FS54_6, gotV]; done) | (simp [FS54_6, gotV]; omega)), fun h => absurd h (by decide)⟩ (by (repeat' (first | exact Below.refl _ _ | assumption | refine Below.setCell ?_ ?_ _ | refine Below.drew ?_ | refine Below.alloc ?_ ?_ _ | refine Below.trans ?_ (Below.mono (by assumption) ?_) | (simp; done) | (simp; omega) | omega)))
          | 9, _ =>
            injection ho with ho
            subst ho
            clear hl
            simp only [fillA, List.take, List.drop, put_none, Act.put, List.setIfInBounds_toArray, List.set_cons_zero, List.set_cons_succ, Nat.reduceAdd]
            have f8 := hf 8 (by decide) (by kernel_rfl)
            generalize vals 8 = v8 at *
            subst f8
            clear hf
            go_wp2_with (fail)
            exact RQ.mk rfl ⟨(by first | rfl | (simp [FS54_6]; done) | (simp [FS54_6, *]; done) | (simp [FS54_6, gotV]; done) | (simp [FS54_6, gotV]; omega)), fun h => absurd h (by decide)⟩ (Below.refl _ _)
        · intro vals w1 hb1 hf hd
          simp only [fillA, List.take, List.drop, put_none, Act.put, List.setIfInBounds_toArray, List.set_cons_zero, List.set_cons_succ, Nat.reduceAdd]
          clear hd
          have f0 := hf 0 (by decide)
          generalize vals 0 = v0 at *
          subst f0
          have f1 := hf 1 (by decide)
          generalize vals 1 = v1 at *
          subst f1
          have f2 := hf 2 (by decide)
          generalize vals 2 = v2 at *
          subst f2
          have f3 := hf 3 (by decide)
          generalize vals 3 = v3 at *
          subst f3
          have f4 := hf 4 (by decide)
          generalize vals 4 = v4 at *
          subst f4
          have f5 := hf 5 (by decide)
          generalize vals 5 = v5 at *
          subst f5
          have f6 := hf 6 (by decide)
          generalize vals 6 = v6 at *
          subst f6
          have f7 := hf 7 (by decide)
          generalize vals 7 = v7 at *
          subst f7
          have f8 := hf 8 (by decide)
          generalize vals 8 = v8 at *
          subst f8
          have f9 := hf 9 (by decide)
          generalize vals 9 = v9 at *
          subst f9
          clear hf
          have hc1 := cellOf hb1
          have hf1 := frozOf hb1
          have hz1 := sizeOf hb1
          try simp at hz1
          by_cases hxy : x = y
          · subst hxy
            have he : eqI x.1 x.2 x.1 x.2 = true := by simp [eqI, eqI]
            simp only [he, Bool.not_true]
            go_wp2_with (fail)
            go_roundw
            case rel =>
              exact ⟨k + 1, by omega, by go_num, by rw [List.take_succ_eq_append_getElem hlt, List.take_succ_eq_append_getElem hlt2, HT.out, ← HX.out, ← HY.out], (by (repeat' (first | exact Below.refl _ _ | assumption | refine Below.setCell ?_ ?_ _ | refine Below.drew ?_ | refine Below.alloc ?_ ?_ _ | refine Below.trans ?_ (Below.mono (by assumption) ?_) | (simp; done) | (simp; omega) | omega)))⟩
            case measure => simp [intOf]; omega
          · have he : eqI x.1 x.2 y.1 y.2 = false := by
              simp only [eqI, eqI, decide_eq_false_iff_not]
              intro h
              exact hxy (by exact Prod.ext h.1 h.2)
            simp only [he, Bool.not_false]
            have HD : Hid (decide (xs = ys) = false) := by
              show decide (xs = ys) = false
              rw [decide_eq_false_iff_not]
              intro e
              subst e
              exact hxy (HX.out.trans HY.out.symm)
            clear hxy
            go_wp2_with (fail)
            go_ret
            exact ⟨ret_bool (by rw [HD.out]), (by (repeat' (first | exact Below.refl _ _ | assumption | refine Below.setCell ?_ ?_ _ | refine Below.drew ?_ | refine Below.alloc ?_ ?_ _ | refine Below.trans ?_ (Below.mono (by assumption) ?_) | (simp; done) | (simp; omega) | omega)))⟩
      · obtain rfl : k = xs.length := by omega
        have HD : Hid (decide (xs = ys) = true) := by
          show decide (xs = ys) = true
          have := HT.out
          rw [List.take_length, H.out, List.take_length] at this
          simp [this]
        go_wp2_with (fail)
        go_ret
        exact ⟨ret_bool (by rw [HD.out]), (by (repeat' (first | exact Below.refl _ _ | assumption | refine Below.setCell ?_ ?_ _ | refine Below.drew ?_ | refine Below.alloc ?_ ?_ _ | refine Below.trans ?_ (Below.mono (by assumption) ?_) | (simp; done) | (simp; omega) | omega)))⟩
  · go_enter Try.func54, Try.ntmps54
    go_wp2_with (fail)
    go_ret
    exact ⟨ret_bool (by simp; intro h; exact hlen (by rw [h])), Below.refl _ _⟩

end Go.Proofs.Yteciijnpfapmhaa
