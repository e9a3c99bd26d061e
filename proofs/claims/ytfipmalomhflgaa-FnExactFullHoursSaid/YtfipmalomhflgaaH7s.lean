import Derived.Test.YtfipmalomhflgaaH1s
namespace Go.Proofs.Ytfipmalomhflgaa
set_option linter.unusedSimpArgs false
set_option linter.unusedVariables false
open Go.RowKit

def FS23_11 (x : Int × Int × Int × Int × Int) (bx ox k m n0 cap : Nat) (w W0 : World) (iq : Nat) (v : Value) (w1 : World) : Prop := match iq with
  | 0 => v = .int .i64 (k)
  | 1 => v = .slice (some ⟨bx, ox, none⟩) n0 cap
  | 2 => v = .int .i64 (m)
  | 3 => v = .pointer (some ⟨bx, ox + m * 5, none⟩)
  | 4 => v = .pointer (some ⟨bx, ox + m * 5 + 3, none⟩)
  | 5 => v = .int .i64 (x.2.2.2.1)
  | 6 => v = .slice (some ⟨bx, ox, none⟩) n0 cap
  | 7 => v = .int .i64 (m)
  | 8 => v = .pointer (some ⟨bx, ox + m * 5, none⟩)
  | 9 => v = .pointer (some ⟨bx, ox + m * 5 + 4, none⟩)
  | 10 => v = .int .i64 (x.2.2.2.2)
  | 11 => v = .int .i64 (x.2.2.2.2 - 1)
  | 12 => v = .bool (inB (k) (x.2.2.2.1) (x.2.2.2.2 - 1))
  | _ => True

set_option maxRecDepth 100000 in
set_option maxHeartbeats 4000000 in
theorem c_spec_FullHours (q : Int) (A : Option Addr) (xs : List (Int × Int × Int × Int × Int)) (cap : Nat) (w : World) (hx : Rds cBer 5 w A xs) (hn : xs.length ≤ 9223372036854775807)  :
    Calls Try.prog 23 #[.int .i64 q, .slice A xs.length cap] w fun e w' => e = .returned (.tuple #[.int .i64 (fullV q xs).1, .bool (fullV q xs).2]) ∧ Below w.heap.size w w' := by
  by_cases hs0 : berV q xs = true
  rotate_left
  · have hn0 : berV q xs = false := Bool.eq_false_iff.2 hs0
    have HV := hid (show fullV q xs = (0, false) by simp [fullV, hn0])
    clear hs0
    go_enter Try.func23, Try.ntmps23
    go_wp2_with (first | (go_at_call 52; refine (c_spec_l16Good _ _ _ _ _ (by first | assumption | exact Rds.below hx (by (repeat' (first | exact Below.refl _ _ | assumption | refine Below.setCell ?_ ?_ _ | refine Below.drew ?_ | refine Below.alloc ?_ ?_ _ | refine Below.trans ?_ (Below.mono (by assumption) ?_) | (simp; done) | (simp; omega) | omega)))) (by omega)).mono ?_; rintro e w' ⟨rfl, hb⟩; have hc := cellOf hb; have hf := frozOf hb; have hz := sizeOf hb; try simp at hz))
    all_goals go_ret2
    all_goals exact ⟨by first | (rw [HV.out]; done) | (rw [HV.out]; rfl), by (repeat' (first | exact Below.refl _ _ | assumption | refine Below.setCell ?_ ?_ _ | refine Below.drew ?_ | refine Below.alloc ?_ ?_ _ | refine Below.trans ?_ (Below.mono (by assumption) ?_) | (simp; done) | (simp; omega) | omega))⟩
  have hqb := inB_bd (berV_quay hs0)
  have hok := berV_P hs0
  have hlen := berV_len hs0
  obtain ⟨N, hN⟩ : ∃ N : Nat, N = 500 := ⟨_, rfl⟩
  have HV := hid (show fullV q xs = ((fullTo q xs N : Int), true) by simp [fullV, hs0, hN])
  go_enter Try.func23, Try.ntmps23
  go_wp2_with (first | (go_at_call 52; refine (c_spec_l16Good _ _ _ _ _ (by first | assumption | exact Rds.below hx (by (repeat' (first | exact Below.refl _ _ | assumption | refine Below.setCell ?_ ?_ _ | refine Below.drew ?_ | refine Below.alloc ?_ ?_ _ | refine Below.trans ?_ (Below.mono (by assumption) ?_) | (simp; done) | (simp; omega) | omega)))) (by omega)).mono ?_; rintro e w' ⟨rfl, hb⟩; have hc := cellOf hb; have hf := frozOf hb; have hz := sizeOf hb; try simp at hz))
  go_loopw [6, 7] (fun c i wr => ∃ k : Nat, k ≤ N ∧ i = .int .i64 k ∧ c = .int .i64 (fullTo q xs k) ∧ Below w.heap.size w wr) (fun _ i _ => N - (intOf i).toNat)
  case atStart => exact ⟨0, Nat.zero_le _, rfl, rfl, by (repeat' (first | exact Below.refl _ _ | assumption | refine Below.setCell ?_ ?_ _ | refine Below.drew ?_ | refine Below.alloc ?_ ?_ _ | refine Below.trans ?_ (Below.mono (by assumption) ?_) | (simp; done) | (simp; omega) | omega))⟩
  case round =>
    obtain ⟨k, hk, rfl, rfl, hbr⟩ := hrel
    have hc := cellOf hbr
    have hf := frozOf hbr
    have hz := sizeOf hbr
    by_cases hlt : k < N
    · have HS := hid (fullTo_succ q xs k)
      have hle := fullTo_le q xs k
      have HF := hid (full_iff hs0 k)
      have hud := fun j hj => usedTo_bd hs0 k j hj
      have hfl := hud xs.length (Nat.le_refl _)
      have HUD := hid hud
      clear hud
      go_wp2_with (fail)
      go_loopw [8, 9] (fun u i wv => ∃ m : Nat, m ≤ xs.length ∧ i = .int .i64 m ∧ u = .int .i64 (usedTo xs k m) ∧ Below w.heap.size w wv) (fun _ i _ => xs.length - (intOf i).toNat)
      case atStart => exact ⟨0, Nat.zero_le _, rfl, rfl, by (repeat' (first | exact Below.refl _ _ | assumption | refine Below.setCell ?_ ?_ _ | refine Below.drew ?_ | refine Below.alloc ?_ ?_ _ | refine Below.trans ?_ (Below.mono (by assumption) ?_) | (simp; done) | (simp; omega) | omega))⟩
      case round =>
        obtain ⟨m, hm, rfl, rfl, hbv⟩ := hrel
        clear hc hf hz
        have hc := cellOf hbv
        have hf := frozOf hbv
        have hz := sizeOf hbv
        by_cases hmt : m < xs.length
        · obtain ⟨bx, ox, rfl, hbx, hcx⟩ := hx m xs[m] (List.getElem?_eq_getElem hmt)
          have hx2 := hcx 2 _ rfl
          have hx3 := hcx 3 _ rfl
          have hx4 := hcx 4 _ rfl
          have HU := hid (usedTo_succ xs k m hmt)
          have hxb := hok m hmt
          unfold berP at hxb
          have hub := HUD.out m (by omega)
          clear hcx hx hok
          generalize xs[m] = x at *
          generalize usedTo xs k m = u at *
          go_wp2_with (fail)
          refine wp_region_w (n := 13) [] [] (FS23_11 x bx ox k m xs.length cap w) rfl (by kernel_rfl) (fun _ _ d _ _ h => by cases d <;> exact h) ?_ ?_ ?_ ?_ ?_ ?_
          · intro iq
            match iq with
            | 0 | 1 | 2 | 3 | 4 | 5 | 6 | 7 | 8 | 9 | 10 | 11 | 12 => exact Stable.const _
            | n + 13 => exact Stable.const _
          · intro iq hi
            exact absurd hi (by simp)
          · intro iq hi
            exact absurd hi (by simp)
          · intro iq o hi hl ho vals w1 hb1 hf
            exact absurd hl (by simp)
          · intro iq o hi hl ho vals w1 hb1 hf
            match iq, hi with
            | 0, _ =>
              injection ho with ho
              subst ho
              clear hl
              simp only [fillA, List.take, List.drop, put_none, Act.put, List.setIfInBounds_toArray, List.set_cons_zero, List.set_cons_succ, Nat.reduceAdd]
              clear hf
              go_wp2_with (fail)
              exact RQ.mk rfl ⟨(by first | rfl | (simp [FS23_11]; done) | (simp [FS23_11, *]; done) | (simp [FS23_11, gotV]; done) | (simp [FS23_11, gotV]; omega)), fun h => absurd h (by decide)⟩ (Below.refl _ _)
            | 1, _ =>
              injection ho with ho
              subst ho
              clear hl
              simp only [fillA, List.take, List.drop, put_none, Act.put, List.setIfInBounds_toArray, List.set_cons_zero, List.set_cons_succ, Nat.reduceAdd]
              clear hf
              go_wp2_with (fail)
              exact RQ.mk rfl ⟨(by first | rfl | (simp [FS23_11]; done) | (simp [FS23_11, *]; done) | (simp [FS23_11, gotV]; done) | (simp [FS23_11, gotV]; omega)), fun h => absurd h (by decide)⟩ (Below.refl _ _)
            | 2, _ =>
              injection ho with ho
              subst ho
              clear hl
              simp only [fillA, List.take, List.drop, put_none, Act.put, List.setIfInBounds_toArray, List.set_cons_zero, List.set_cons_succ, Nat.reduceAdd]
              clear hf
              go_wp2_with (fail)
              exact RQ.mk rfl ⟨(by first | rfl | (simp [FS23_11]; done) | (simp [FS23_11, *]; done) | (simp [FS23_11, gotV]; done) | (simp [FS23_11, gotV]; omega)), fun h => absurd h (by decide)⟩ (Below.refl _ _)
            | 3, _ =>
              injection ho with ho
              subst ho
              clear hl
              simp only [fillA, List.take, List.drop, put_none, Act.put, List.setIfInBounds_toArray, List.set_cons_zero, List.set_cons_succ, Nat.reduceAdd]
              have f1 := hf 1 (by decide) (by kernel_rfl)
              generalize vals 1 = v1 at *
              subst f1
              have f2 := hf 2 (by decide) (by kernel_rfl)
              generalize vals 2 = v2 at *
              subst f2
              clear hf
              go_wp2_with (fail)
              exact RQ.mk rfl ⟨(by first | rfl | (simp [FS23_11]; done) | (simp [FS23_11, *]; done) | (simp [FS23_11, gotV]; done) | (simp [FS23_11, gotV]; omega)), fun h => absurd h (by decide)⟩ (Below.refl _ _)
            | 4, _ =>
              injection ho with ho
              subst ho
              clear hl
              simp only [fillA, List.take, List.drop, put_none, Act.put, List.setIfInBounds_toArray, List.set_cons_zero, List.set_cons_succ, Nat.reduceAdd]
              have f3 := hf 3 (by decide) (by kernel_rfl)
              generalize vals 3 = v3 at *
              subst f3
              clear hf
              go_wp2_with (fail)
              exact RQ.mk rfl ⟨(by first | rfl | (simp [FS23_11]; done) | (simp [FS23_11, *]; done) | (simp [FS23_11, gotV]; done) | (simp [FS23_11, gotV]; omega)), fun h => absurd h (by decide)⟩ (Below.refl _ _)
            | 5, _ =>
              injection ho with ho
              subst ho
              clear hl
              simp only [fillA, List.take, List.drop, put_none, Act.put, List.setIfInBounds_toArray, List.set_cons_zero, List.set_cons_succ, Nat.reduceAdd]
              have f4 := hf 4 (by decide) (by kernel_rfl)
              generalize vals 4 = v4 at *
              subst f4
              clear hf
              have hc1 := cellOf hb1
              have hf1 := frozOf hb1
              have hz1 := sizeOf hb1
              try simp at hz1
              go_wp2_with (fail)
              exact RQ.mk rfl ⟨(by first | rfl | (simp [FS23_11]; done) | (simp [FS23_11, *]; done) | (simp [FS23_11, gotV]; done) | (simp [FS23_11, gotV]; omega)), fun h => absurd h (by decide)⟩ (Below.refl _ _)
            | 6, _ =>
              injection ho with ho
              subst ho
              clear hl
              simp only [fillA, List.take, List.drop, put_none, Act.put, List.setIfInBounds_toArray, List.set_cons_zero, List.set_cons_succ, Nat.reduceAdd]
              clear hf
              go_wp2_with (fail)
              exact RQ.mk rfl ⟨(by first | rfl | (simp [FS23_11]; done) | (simp [FS23_11, *]; done) | (simp [FS23_11, gotV]; done) | (simp [FS23_11, gotV]; omega)), fun h => absurd h (by decide)⟩ (Below.refl _ _)
            | 7, _ =>
              injection ho with ho
              subst ho
              clear hl
              simp only [fillA, List.take, List.drop, put_none, Act.put, List.setIfInBounds_toArray, List.set_cons_zero, List.set_cons_succ, Nat.reduceAdd]
              clear hf
              go_wp2_with (fail)
              exact RQ.mk rfl ⟨(by first | rfl | (simp [FS23_11]; done) | (simp [FS23_11, *]; done) | (simp [FS23_11, gotV]; done) | (simp [FS23_11, gotV]; omega)), fun h => absurd h (by decide)⟩ (Below.refl _ _)
            | 8, _ =>
              injection ho with ho
              subst ho
              clear hl
              simp only [fillA, List.take, List.drop, put_none, Act.put, List.setIfInBounds_toArray, List.set_cons_zero, List.set_cons_succ, Nat.reduceAdd]
              have f6 := hf 6 (by decide) (by kernel_rfl)
              generalize vals 6 = v6 at *
              subst f6
              have f7 := hf 7 (by decide) (by kernel_rfl)
              generalize vals 7 = v7 at *
              subst f7
              clear hf
              go_wp2_with (fail)
              exact RQ.mk rfl ⟨(by first | rfl | (simp [FS23_11]; done) | (simp [FS23_11, *]; done) | (simp [FS23_11, gotV]; done) | (simp [FS23_11, gotV]; omega)), fun h => absurd h (by decide)⟩ (Below.refl _ _)
            | 9, _ =>
              injection ho with ho
              subst ho
              clear hl
              simp only [fillA, List.take, List.drop, put_none, Act.put, List.setIfInBounds_toArray, List.set_cons_zero, List.set_cons_succ, Nat.reduceAdd]
              have f8 := hf 8 (by decide) (by kernel_rfl)
              generalize vals 8 = v8 at *
              subst f8
              clear hf
              go_wp2_with (fail)
              exact RQ.mk rfl ⟨(by first | rfl | (simp [FS23_11]; done) | (simp [FS23_11, *]; done) | (simp [FS23_11, gotV]; done) | (simp [FS23_11, gotV]; omega)), fun h => absurd h (by decide)⟩ (Below.refl _ _)
            | 10, _ =>
              injection ho with ho
              subst ho
              clear hl
              simp only [fillA, List.take, List.drop, put_none, Act.put, List.setIfInBounds_toArray, List.set_cons_zero, List.set_cons_succ, Nat.reduceAdd]
              have f9 := hf 9 (by decide) (by kernel_rfl)
              generalize vals 9 = v9 at *
              subst f9
              clear hf
              have hc1 := cellOf hb1
              have hf1 := frozOf hb1
              have hz1 := sizeOf hb1
              try simp at hz1
              go_wp2_with (fail)
              exact RQ.mk rfl ⟨(by first | rfl | (simp [FS23_11]; done) | (simp [FS23_11, *]; done) | (simp [FS23_11, gotV]; done) | (simp [FS23_11, gotV]; omega)), fun h => absurd h (by decide)⟩ (Below.refl _ _)
            | 11, _ =>
              injection ho with ho
              subst ho
              clear hl
              simp only [fillA, List.take, List.drop, put_none, Act.put, List.setIfInBounds_toArray, List.set_cons_zero, List.set_cons_succ, Nat.reduceAdd]
              have f10 := hf 10 (by decide) (by kernel_rfl)
              generalize vals 10 = v10 at *
              subst f10
              clear hf
              go_wp2_with (fail)
              exact RQ.mk rfl ⟨(by first | rfl | (simp [FS23_11]; done) | (simp [FS23_11, *]; done) | (simp [FS23_11, gotV]; done) | (simp [FS23_11, gotV]; omega)), fun h => absurd h (by decide)⟩ (Below.refl _ _)
            | 12, _ =>
              injection ho with ho
              subst ho
              clear hl
              simp only [fillA, List.take, List.drop, put_none, Act.put, List.setIfInBounds_toArray, List.set_cons_zero, List.set_cons_succ, Nat.reduceAdd]
              have f0 := hf 0 (by decide) (by kernel_rfl)
              generalize vals 0 = v0 at *
              subst f0
              have f5 := hf 5 (by decide) (by kernel_rfl)
              generalize vals 5 = v5 at *
              subst f5
              have f11 := hf 11 (by decide) (by kernel_rfl)
              generalize vals 11 = v11 at *
              subst f11
              clear hf
              have hc1 := cellOf hb1
              have hf1 := frozOf hb1
              have hz1 := sizeOf hb1
              try simp at hz1
              go_wp2_with (first | (go_at_call 57; refine (c_spec_l1In _ _ _ _ ).mono ?_; rintro e w' ⟨rfl, hb⟩; have hc := cellOf hb; have hf := frozOf hb; have hz := sizeOf hb; try simp at hz))
              exact RQ.mk rfl ⟨(by first | rfl | (simp [FS23_11]; done) | (simp [FS23_11, *]; done) | (simp [FS23_11, gotV]; done) | (simp [FS23_11, gotV]; omega)), fun h => absurd h (by decide)⟩ (by (repeat' (first | exact Below.refl _ _ | assumption | refine Below.setCell ?_ ?_ _ | refine Below.drew ?_ | refine Below.alloc ?_ ?_ _ | refine Below.trans ?_ (Below.mono (by assumption) ?_) | (simp; done) | (simp; omega) | omega)))
          · intro vals w1 hb1 hf hd
            simp only [fillA, List.take, List.drop, put_none, Act.put, List.setIfInBounds_toArray, List.set_cons_zero, List.set_cons_succ, Nat.reduceAdd]
            clear hd
            have f0 := hf 0 (by decide)
            generalize vals 0 = v0 at *
            subst f0
            have f1 := hf 1 (by decide)
            generalize vals 1 = v1 at *
            subst f1
            have f2 := hf 2 (by decide)
            generalize vals 2 = v2 at *
            subst f2
            have f3 := hf 3 (by decide)
            generalize vals 3 = v3 at *
            subst f3
            have f4 := hf 4 (by decide)
            generalize vals 4 = v4 at *
            subst f4
            have f5 := hf 5 (by decide)
            generalize vals 5 = v5 at *
            subst f5
            have f6 := hf 6 (by decide)
            generalize vals 6 = v6 at *
            subst f6
            have f7 := hf 7 (by decide)
            generalize vals 7 = v7 at *
            subst f7
            have f8 := hf 8 (by decide)
            generalize vals 8 = v8 at *
            subst f8
            have f9 := hf 9 (by decide)
            generalize vals 9 = v9 at *
            subst f9
            have f10 := hf 10 (by decide)
            generalize vals 10 = v10 at *
            subst f10
            have f11 := hf 11 (by decide)
            generalize vals 11 = v11 at *
            subst f11
            have f12 := hf 12 (by decide)
            generalize vals 12 = v12 at *
            subst f12
            clear hf
            have hc1 := cellOf hb1
            have hf1 := frozOf hb1
            have hz1 := sizeOf hb1
            try simp at hz1
            by_cases hin : x.2.2.2.1 ≤ k ∧ (k : Int) ≤ x.2.2.2.2 - 1
            · have HU2 := hid (HU.out.trans (show usedS k u x = u + x.2.2.1 by simp [usedS, hin]))
              have hib : inB (k : Int) x.2.2.2.1 (x.2.2.2.2 - 1) = true := by simp [inB, hin]
              simp only [hib]
              clear hin hib
              go_wp2_with (fail)
              go_roundw
              case rel => exact ⟨m + 1, by omega, by go_num, by rw [HU2.out], by (repeat' (first | exact Below.refl _ _ | assumption | refine Below.setCell ?_ ?_ _ | refine Below.drew ?_ | refine Below.alloc ?_ ?_ _ | refine Below.trans ?_ (Below.mono (by assumption) ?_) | (simp; done) | (simp; omega) | omega))⟩
              case measure => simp [intOf]; omega
            · have HU2 := hid (HU.out.trans (show usedS k u x = u by unfold usedS; rw [if_neg hin]))
              have hib : inB (k : Int) x.2.2.2.1 (x.2.2.2.2 - 1) = false := by simp only [inB, decide_eq_false_iff_not]; exact hin
              simp only [hib]
              clear hin hib
              go_wp2_with (fail)
              go_roundw
              case rel => exact ⟨m + 1, by omega, by go_num, by rw [HU2.out], by (repeat' (first | exact Below.refl _ _ | assumption | refine Below.setCell ?_ ?_ _ | refine Below.drew ?_ | refine Below.alloc ?_ ?_ _ | refine Below.trans ?_ (Below.mono (by assumption) ?_) | (simp; done) | (simp; omega) | omega))⟩
              case measure => simp [intOf]; omega
        · obtain rfl : m = xs.length := by omega
          by_cases hfu : usedTo xs k xs.length = q
          · have HS2 := hid (HS.out.trans (by rw [if_pos (HF.out.1 hfu)]))
            go_wp2_with (fail)
            go_roundw
            case rel => exact ⟨k + 1, by omega, by go_num, by rw [HS2.out]; go_num, by (repeat' (first | exact Below.refl _ _ | assumption | refine Below.setCell ?_ ?_ _ | refine Below.drew ?_ | refine Below.alloc ?_ ?_ _ | refine Below.trans ?_ (Below.mono (by assumption) ?_) | (simp; done) | (simp; omega) | omega))⟩
            case measure => simp [intOf]; omega
          · have HS2 := hid (HS.out.trans (by rw [if_neg (fun e => hfu (HF.out.2 e))]))
            go_wp2_with (fail)
            go_roundw
            case rel => exact ⟨k + 1, by omega, by go_num, by rw [HS2.out]; rfl, by (repeat' (first | exact Below.refl _ _ | assumption | refine Below.setCell ?_ ?_ _ | refine Below.drew ?_ | refine Below.alloc ?_ ?_ _ | refine Below.trans ?_ (Below.mono (by assumption) ?_) | (simp; done) | (simp; omega) | omega))⟩
            case measure => simp [intOf]; omega
    · obtain rfl : k = N := by omega
      go_wp2_with (fail)
      go_ret2
      exact ⟨by first | (rw [HV.out]; done) | (rw [HV.out]; rfl), by (repeat' (first | exact Below.refl _ _ | assumption | refine Below.setCell ?_ ?_ _ | refine Below.drew ?_ | refine Below.alloc ?_ ?_ _ | refine Below.trans ?_ (Below.mono (by assumption) ?_) | (simp; done) | (simp; omega) | omega))⟩

end Go.Proofs.Ytfipmalomhflgaa
