import Derived.Test.YtgjbdcalmodhpaaD3
namespace Go.Proofs.Ytgjbdcalmodhpaa
set_option linter.unusedSimpArgs false
set_option linter.unusedVariables false
open Go.RowKit

def FS66_8 (i : Int) (d : Bool) (a b g : Int) (x : Int × Bool × Int × Int) (j bx ox k n0 cap : Nat) (w W0 : World) (iq : Nat) (v : Value) (w1 : World) : Prop := match iq with
  | 0 => v = .slice (some ⟨bx, ox, none⟩) n0 cap
  | 1 => v = .int .i64 (k)
  | 2 => v = .pointer (some ⟨bx, ox + k * 4, none⟩)
  | 3 => v = .agg #[.int .i64 (x.1), .bool (x.2.1), .int .i64 (x.2.2.1), .int .i64 (x.2.2.2)]
  | 4 => v = .agg #[.int .i64 (i), .bool (d), .int .i64 (a), .int .i64 (b)]
  | 5 => v = .int .i64 (j)
  | 6 => v = .agg #[.int .i64 (i), .bool (d), .int .i64 (a + (j)), .int .i64 (b + (j))]
  | 7 => v = .int .i64 (g)
  | 8 => v = .bool (clashB (x.1) (x.2.1) (x.2.2.1) (x.2.2.2) (i) (d) (a + (j)) (b + (j)) g)
  | 9 => v = .bool (!(clashB (x.1) (x.2.1) (x.2.2.1) (x.2.2.2) (i) (d) (a + (j)) (b + (j)) g))
  | _ => True

def sdI (xs : List (Int × Bool × Int × Int)) (i : Int) (d : Bool) (a b g : Int) : Int := match smF xs i d a b g with | some y => (y : Int) | none => -1
set_option maxRecDepth 100000 in
set_option maxHeartbeats 4000000 in
theorem c_spec_l14Delay (A : Option Addr) (xs : List (Int × Bool × Int × Int)) (cap : Nat) (i : Int) (d : Bool) (a b g : Int) (w : World) (hx : Rds cPas 4 w A xs) (hn : xs.length ≤ 9223372036854775807) (hok : ∀ k (hk : k < xs.length), bdP xs[k]) (hab : 0 ≤ a ∧ a ≤ 9999 ∧ 0 ≤ b ∧ b ≤ 9999) (hg : gapB g = true) :
    Calls Try.prog 66 #[.slice A xs.length cap, .agg #[.int .i64 i, .bool d, .int .i64 a, .int .i64 b], .int .i64 g] w fun e w' => e = .returned (.int .i64 (sdI xs i d a b g)) ∧ Below w.heap.size w w' := by
  have hgb := gapB_bd hg
  clear hg
  go_enter Try.func66, Try.ntmps66
  go_wp2_with (fail)
  go_loopw [7] (fun y wr => ∃ j : Nat, y = .int .i64 j ∧ b + j ≤ 10000 ∧ w.heap.size + 1 ≤ wr.heap.size
     ∧ wr.cell? ⟨w.heap.size, 0, none⟩ = some (.int .i64 i) ∧ wr.cell? ⟨w.heap.size, 1, none⟩ = some (.bool d) ∧ wr.cell? ⟨w.heap.size, 2, none⟩ = some (.int .i64 a) ∧ wr.cell? ⟨w.heap.size, 3, none⟩ = some (.int .i64 b)
     ∧ (∀ z : Nat, z < j → delA xs i d a b g z = true) ∧ Below w.heap.size w wr) (fun y _ => (10000 - b - intOf y).toNat)
  case atStart =>
    refine ⟨0, rfl, by omega, by simp, by simp [go_sem], by simp [go_sem], by simp [go_sem], by simp [go_sem], fun z hz => absurd hz (Nat.not_lt_zero z), by (repeat' (first | exact Below.refl _ _ | assumption | refine Below.setCell ?_ ?_ _ | refine Below.drew ?_ | refine Below.alloc ?_ ?_ _ | refine Below.trans ?_ (Below.mono (by assumption) ?_) | (simp; done) | (simp; omega) | omega))⟩
  case round =>
    obtain ⟨j, rfl, hj, hzz, hp0, hp1, hp2, hp3, hall, hbr⟩ := hrel
    have hc := cellOf hbr
    have hf := frozOf hbr
    have hz := sizeOf hbr
    have hp0' : far wr w.heap.size 0 = _ := hp0
    have hp1' : far wr w.heap.size 1 = _ := hp1
    have hp2' : far wr w.heap.size 2 = _ := hp2
    have hp3' : far wr w.heap.size 3 = _ := hp3
    by_cases hle : b + j ≤ 9999
    rotate_left
    · have HF := hid (show sdI xs i d a b g = -1 by simp [sdI, smF_none (xs := xs) (i := i) (d := d) (a := a) (b := b) (g := g) (fun z hz => hall z (by omega))])
      clear hall
      go_wp2_with (fail)
      go_ret
      exact ⟨ret_int HF.out.symm, by (repeat' (first | exact Below.refl _ _ | assumption | refine Below.setCell ?_ ?_ _ | refine Below.drew ?_ | refine Below.alloc ?_ ?_ _ | refine Below.trans ?_ (Below.mono (by assumption) ?_) | (simp; done) | (simp; omega) | omega))⟩
    go_wp2_with (fail)
    have HA := hid hall
    clear hall
    go_loopw [8, 9] (fun f t wi => ∃ k : Nat, k ≤ xs.length ∧ t = .int .i64 k ∧ f = .bool (!(xs.take k).any (delP i d a b g j)) ∧ w.heap.size + 1 ≤ wi.heap.size
     ∧ wi.cell? ⟨w.heap.size, 0, none⟩ = some (.int .i64 i) ∧ wi.cell? ⟨w.heap.size, 1, none⟩ = some (.bool d) ∧ wi.cell? ⟨w.heap.size, 2, none⟩ = some (.int .i64 a) ∧ wi.cell? ⟨w.heap.size, 3, none⟩ = some (.int .i64 b) ∧ Below w.heap.size w wi) (fun _ t _ => xs.length - (intOf t).toNat)
    case atStart => exact ⟨0, Nat.zero_le _, rfl, rfl, hzz, hp0, hp1, hp2, hp3, hbr⟩
    case round =>
      obtain ⟨k, hk, rfl, rfl, hzi, hi0, hi1, hi2, hi3, hbi⟩ := hrel
      clear hp0' hp1' hp2' hp3' hp0 hp1 hp2 hp3 hc hf hz
      have hc := cellOf hbi
      have hf := frozOf hbi
      have hz := sizeOf hbi
      have hp0' : far wr w.heap.size 0 = _ := hi0
      have hp1' : far wr w.heap.size 1 = _ := hi1
      have hp2' : far wr w.heap.size 2 = _ := hi2
      have hp3' : far wr w.heap.size 3 = _ := hi3
      by_cases hfr : (xs.take k).any (delP i d a b g j) = true
      · simp only [hfr, Bool.not_true]
        have HD : Hid (delA xs i d a b g j = true) := by
          show _ = _
          unfold delA
          rw [List.any_eq_true] at hfr ⊢
          obtain ⟨x, hx1, hx2⟩ := hfr
          exact ⟨x, List.mem_of_mem_take hx1, hx2⟩
        clear hfr
        go_wp2_with (fail)
        all_goals
          go_roundw
          case rel =>
            refine ⟨j + 1, by go_num, by omega, ?_, ?_, ?_, ?_, ?_, ?_, by (repeat' (first | exact Below.refl _ _ | assumption | refine Below.setCell ?_ ?_ _ | refine Below.drew ?_ | refine Below.alloc ?_ ?_ _ | refine Below.trans ?_ (Below.mono (by assumption) ?_) | (simp; done) | (simp; omega) | omega))⟩
            rotate_left 5
            · intro z hz
              by_cases hzj : z < j
              · exact HA.out z hzj
              · obtain rfl : z = j := by omega
                exact HD.out
            all_goals first | assumption | (simp [go_sem, ↓IntWalk.iteOmega, *]; done) | omega
          case measure => simp [intOf]; omega
      · have hfr0 : (xs.take k).any (delP i d a b g j) = false := by simpa using hfr
        simp only [hfr0, Bool.not_false]
        clear hfr
        by_cases hlt : k < xs.length
        · obtain ⟨bx, ox, rfl, hbx, hcx⟩ := hx k xs[k] (List.getElem?_eq_getElem hlt)
          have hx0 := hcx 0 _ rfl
          have hx1 := hcx 1 _ rfl
          have hx2 := hcx 2 _ rfl
          have hx3 := hcx 3 _ rfl
          simp only [Nat.add_zero] at hx0
          clear hcx hx
          have hbd := hok k hlt
          unfold bdP at hbd
          have HS := hid (any_snoc (delP i d a b g j) xs k hlt)
          have HT := hid hfr0
          clear hok hfr0
          generalize xs[k] = x at *
          go_wp2_with (fail)
          refine wp_region_w (n := 10) [] [] (FS66_8 i d a b g x j bx ox k xs.length cap w) rfl (by kernel_rfl) (fun _ _ d _ _ h => by cases d <;> exact h) ?_ ?_ ?_ ?_ ?_ ?_
          · intro iq
            match iq with
            | 0 | 1 | 2 | 3 | 4 | 5 | 6 | 7 | 8 | 9 => exact Stable.const _
            | n + 10 => exact Stable.const _
          · intro iq hi
            exact absurd hi (by simp)
          · intro iq hi
            exact absurd hi (by simp)
          · intro iq o hi hl ho vals w1 hb1 hf
            exact absurd hl (by simp)
          · intro iq o hi hl ho vals w1 hb1 hf
            match iq, hi with
            | 0, _ =>
              injection ho with ho
              subst ho
              clear hl
              simp only [fillA, List.take, List.drop, put_none, Act.put, List.setIfInBounds_toArray, List.set_cons_zero, List.set_cons_succ, Nat.reduceAdd]
              clear hf
              go_wp2_with (fail)
              exact RQ.mk rfl ⟨(by first | rfl | (simp [FS66_8]; done) | (simp [FS66_8, *]; done) | (simp [FS66_8, gotV]; done) | (simp [FS66_8, gotV]; omega)), fun h => absurd h (by decide)⟩ (Below.refl _ _)
            | 1, _ =>
              injection ho with ho
              subst ho
              clear hl
              simp only [fillA, List.take, List.drop, put_none, Act.put, List.setIfInBounds_toArray, List.set_cons_zero, List.set_cons_succ, Nat.reduceAdd]
              clear hf
              go_wp2_with (fail)
              exact RQ.mk rfl ⟨(by first | rfl | (simp [FS66_8]; done) | (simp [FS66_8, *]; done) | (simp [FS66_8, gotV]; done) | (simp [FS66_8, gotV]; omega)), fun h => absurd h (by decide)⟩ (Below.refl _ _)
            | 2, _ =>
              injection ho with ho
              subst ho
              clear hl
              simp only [fillA, List.take, List.drop, put_none, Act.put, List.setIfInBounds_toArray, List.set_cons_zero, List.set_cons_succ, Nat.reduceAdd]
              have f0 := hf 0 (by decide) (by kernel_rfl)
              generalize vals 0 = v0 at *
              subst f0
              have f1 := hf 1 (by decide) (by kernel_rfl)
              generalize vals 1 = v1 at *
              subst f1
              clear hf
              go_wp2_with (fail)
              exact RQ.mk rfl ⟨(by first | rfl | (simp [FS66_8]; done) | (simp [FS66_8, *]; done) | (simp [FS66_8, gotV]; done) | (simp [FS66_8, gotV]; omega)), fun h => absurd h (by decide)⟩ (Below.refl _ _)
            | 3, _ =>
              injection ho with ho
              subst ho
              clear hl
              simp only [fillA, List.take, List.drop, put_none, Act.put, List.setIfInBounds_toArray, List.set_cons_zero, List.set_cons_succ, Nat.reduceAdd]
              have f2 := hf 2 (by decide) (by kernel_rfl)
              generalize vals 2 = v2 at *
              subst f2
              clear hf
              have hc1 := cellOf hb1
              have hf1 := frozOf hb1
              have hz1 := sizeOf hb1
              try simp at hz1
              go_wp2_with (fail)
              exact RQ.mk rfl ⟨(by first | rfl | (simp [FS66_8]; done) | (simp [FS66_8, *]; done) | (simp [FS66_8, gotV]; done) | (simp [FS66_8, gotV]; omega)), fun h => absurd h (by decide)⟩ (Below.refl _ _)
            | 4, _ =>
              injection ho with ho
              subst ho
              clear hl
              simp only [fillA, List.take, List.drop, put_none, Act.put, List.setIfInBounds_toArray, List.set_cons_zero, List.set_cons_succ, Nat.reduceAdd]
              clear hf
              have hc1 := cellOf hb1
              have hf1 := frozOf hb1
              have hz1 := sizeOf hb1
              try simp at hz1
              go_wp2_with (fail)
              exact RQ.mk rfl ⟨(by first | rfl | (simp [FS66_8]; done) | (simp [FS66_8, *]; done) | (simp [FS66_8, gotV]; done) | (simp [FS66_8, gotV]; omega)), fun h => absurd h (by decide)⟩ (Below.refl _ _)
            | 5, _ =>
              injection ho with ho
              subst ho
              clear hl
              simp only [fillA, List.take, List.drop, put_none, Act.put, List.setIfInBounds_toArray, List.set_cons_zero, List.set_cons_succ, Nat.reduceAdd]
              clear hf
              go_wp2_with (fail)
              exact RQ.mk rfl ⟨(by first | rfl | (simp [FS66_8]; done) | (simp [FS66_8, *]; done) | (simp [FS66_8, gotV]; done) | (simp [FS66_8, gotV]; omega)), fun h => absurd h (by decide)⟩ (Below.refl _ _)
            | 6, _ =>
              injection ho with ho
              subst ho
              clear hl
              simp only [fillA, List.take, List.drop, put_none, Act.put, List.setIfInBounds_toArray, List.set_cons_zero, List.set_cons_succ, Nat.reduceAdd]
              have f4 := hf 4 (by decide) (by kernel_rfl)
              generalize vals 4 = v4 at *
              subst f4
              have f5 := hf 5 (by decide) (by kernel_rfl)
              generalize vals 5 = v5 at *
              subst f5
              clear hf
              have hc1 := cellOf hb1
              have hf1 := frozOf hb1
              have hz1 := sizeOf hb1
              try simp at hz1
              go_wp2_with (first | (go_at_call 72; refine (c_spec_l14Later _ _ _ _ _ _ (by omega) (by omega) (by omega)).mono ?_; rintro e w' ⟨rfl, hb⟩; have hc := cellOf hb; have hf := frozOf hb; have hz := sizeOf hb; try simp at hz))
              exact RQ.mk rfl ⟨(by first | rfl | (simp [FS66_8]; done) | (simp [FS66_8, *]; done) | (simp [FS66_8, gotV]; done) | (simp [FS66_8, gotV]; omega)), fun h => absurd h (by decide)⟩ (by (repeat' (first | exact Below.refl _ _ | assumption | refine Below.setCell ?_ ?_ _ | refine Below.drew ?_ | refine Below.alloc ?_ ?_ _ | refine Below.trans ?_ (Below.mono (by assumption) ?_) | (simp; done) | (simp; omega) | omega)))
            | 7, _ =>
              injection ho with ho
              subst ho
              clear hl
              simp only [fillA, List.take, List.drop, put_none, Act.put, List.setIfInBounds_toArray, List.set_cons_zero, List.set_cons_succ, Nat.reduceAdd]
              clear hf
              go_wp2_with (fail)
              exact RQ.mk rfl ⟨(by first | rfl | (simp [FS66_8]; done) | (simp [FS66_8, *]; done) | (simp [FS66_8, gotV]; done) | (simp [FS66_8, gotV]; omega)), fun h => absurd h (by decide)⟩ (Below.refl _ _)
            | 8, _ =>
              injection ho with ho
              subst ho
              clear hl
              simp only [fillA, List.take, List.drop, put_none, Act.put, List.setIfInBounds_toArray, List.set_cons_zero, List.set_cons_succ, Nat.reduceAdd]
              have f3 := hf 3 (by decide) (by kernel_rfl)
              generalize vals 3 = v3 at *
              subst f3
              have f6 := hf 6 (by decide) (by kernel_rfl)
              generalize vals 6 = v6 at *
              subst f6
              have f7 := hf 7 (by decide) (by kernel_rfl)
              generalize vals 7 = v7 at *
              subst f7
              clear hf
              have hc1 := cellOf hb1
              have hf1 := frozOf hb1
              have hz1 := sizeOf hb1
              try simp at hz1
              go_wp2_with (first | (go_at_call 54; refine (c_spec_l14Clash _ _ _ _ _ _ _ _ _ _ (by omega) (by omega) (by omega) (by omega)).mono ?_; rintro e w' ⟨rfl, hb⟩; have hc := cellOf hb; have hf := frozOf hb; have hz := sizeOf hb; try simp at hz))
              exact RQ.mk rfl ⟨(by first | rfl | (simp [FS66_8]; done) | (simp [FS66_8, *]; done) | (simp [FS66_8, gotV]; done) | (simp [FS66_8, gotV]; omega)), fun h => absurd h (by decide)⟩ (by (repeat' (first | exact Below.refl _ _ | assumption | refine Below.setCell ?_ ?_ _ | refine Below.drew ?_ | refine Below.alloc ?_ ?_ _ | refine Below.trans ?_ (Below.mono (by assumption) ?_) | (simp; done) | (simp; omega) | omega)))
            | 9, _ =>
              injection ho with ho
              subst ho
              clear hl
              simp only [fillA, List.take, List.drop, put_none, Act.put, List.setIfInBounds_toArray, List.set_cons_zero, List.set_cons_succ, Nat.reduceAdd]
              have f8 := hf 8 (by decide) (by kernel_rfl)
              generalize vals 8 = v8 at *
              subst f8
              clear hf
              go_wp2_with (fail)
              exact RQ.mk rfl ⟨(by first | rfl | (simp [FS66_8]; done) | (simp [FS66_8, *]; done) | (simp [FS66_8, gotV]; done) | (simp [FS66_8, gotV]; omega)), fun h => absurd h (by decide)⟩ (Below.refl _ _)
          · intro vals w1 hb1 hf hd
            simp only [fillA, List.take, List.drop, put_none, Act.put, List.setIfInBounds_toArray, List.set_cons_zero, List.set_cons_succ, Nat.reduceAdd]
            clear hd
            have f0 := hf 0 (by decide)
            generalize vals 0 = v0 at *
            subst f0
            have f1 := hf 1 (by decide)
            generalize vals 1 = v1 at *
            subst f1
            have f2 := hf 2 (by decide)
            generalize vals 2 = v2 at *
            subst f2
            have f3 := hf 3 (by decide)
            generalize vals 3 = v3 at *
            subst f3
            have f4 := hf 4 (by decide)
            generalize vals 4 = v4 at *
            subst f4
            have f5 := hf 5 (by decide)
            generalize vals 5 = v5 at *
            subst f5
            have f6 := hf 6 (by decide)
            generalize vals 6 = v6 at *
            subst f6
            have f7 := hf 7 (by decide)
            generalize vals 7 = v7 at *
            subst f7
            have f8 := hf 8 (by decide)
            generalize vals 8 = v8 at *
            subst f8
            have f9 := hf 9 (by decide)
            generalize vals 9 = v9 at *
            subst f9
            clear hf
            have hc1 := cellOf hb1
            have hf1 := frozOf hb1
            have hz1 := sizeOf hb1
            try simp at hz1
            go_wp2_with (fail)
            go_roundw
            case rel =>
              refine ⟨k + 1, by omega, by go_num, ?_, ?_, ?_, ?_, ?_, ?_, by (repeat' (first | exact Below.refl _ _ | assumption | refine Below.setCell ?_ ?_ _ | refine Below.drew ?_ | refine Below.alloc ?_ ?_ _ | refine Below.trans ?_ (Below.mono (by assumption) ?_) | (simp; done) | (simp; omega) | omega))⟩
              · rw [HS.out, HT.out]; rfl
              all_goals first | (simp [go_sem, ↓IntWalk.iteOmega, *]; done) | omega | (simp [go_sem, ↓IntWalk.iteOmega, *]; omega)
            case measure => simp [intOf]; omega
        · obtain rfl : k = xs.length := by omega
          rw [List.take_length] at hfr0
          have HF := hid (show sdI xs i d a b g = j by simp [sdI, smF_hit hle HA.out hfr0])
          clear hfr0
          go_wp2_with (fail)
          go_ret
          exact ⟨ret_int HF.out.symm, by (repeat' (first | exact Below.refl _ _ | assumption | refine Below.setCell ?_ ?_ _ | refine Below.drew ?_ | refine Below.alloc ?_ ?_ _ | refine Below.trans ?_ (Below.mono (by assumption) ?_) | (simp; done) | (simp; omega) | omega))⟩

end Go.Proofs.Ytgjbdcalmodhpaa
