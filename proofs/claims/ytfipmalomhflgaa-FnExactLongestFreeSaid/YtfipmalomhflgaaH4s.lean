import Derived.Test.YtfipmalomhflgaaH1s
import Derived.Test.YtfipmalomhflgaaB3s
import Derived.Test.YtfipmalomhflgaaB4
import Derived.OwnWalk
namespace Go.Proofs.Ytfipmalomhflgaa
set_option linter.unusedSimpArgs false
set_option linter.unusedVariables false
open Go.RowKit

set_option maxRecDepth 100000 in
set_option maxHeartbeats 4000000 in
theorem c_spec_LongestFree (q : Int) (A : Option Addr) (xs : List (Int × Int × Int × Int × Int)) (cap : Nat) (c : Int) (w : World) (hx : Rds cBer 5 w A xs) (hn : xs.length ≤ 9223372036854775807)  :
    Calls Try.prog 25 #[.int .i64 q, .slice A xs.length cap, .int .i64 c] w fun e w' => e = .returned (.tuple #[.int .i64 (longV q xs c).1, .int .i64 (longV q xs c).2.1, .bool (longV q xs c).2.2]) ∧ Below w.heap.size w w' := by
  by_cases hs0 : berV q xs = true
  rotate_left
  · have hn0 : berV q xs = false := Bool.eq_false_iff.2 hs0
    have HV := hid (show longV q xs c = (0, 0, false) by simp [longV, hn0])
    clear hs0
    go_enter Try.func25, Try.ntmps25
    go_wp2_with (first | (go_at_call 52; refine (c_spec_l16Good _ _ _ _ _ (by first | assumption | exact Rds.below hx (by (repeat' (first | exact Below.refl _ _ | assumption | refine Below.setCell ?_ ?_ _ | refine Below.drew ?_ | refine Below.alloc ?_ ?_ _ | refine Below.trans ?_ (Below.mono (by assumption) ?_) | (simp; done) | (simp; omega) | omega)))) (by omega)).mono ?_; rintro e w' ⟨rfl, hb⟩; have hc := cellOf hb; have hf := frozOf hb; have hz := sizeOf hb; try simp at hz) | (go_at_call 57; refine (c_spec_l1In _ _ _ _ ).mono ?_; rintro e w' ⟨rfl, hb⟩; have hc := cellOf hb; have hf := frozOf hb; have hz := sizeOf hb; try simp at hz))
    all_goals go_ret3
    all_goals exact ⟨by first | (rw [HV.out]; done) | (rw [HV.out]; rfl), by (repeat' (first | exact Below.refl _ _ | assumption | refine Below.setCell ?_ ?_ _ | refine Below.drew ?_ | refine Below.alloc ?_ ?_ _ | refine Below.trans ?_ (Below.mono (by assumption) ?_) | (simp; done) | (simp; omega) | omega))⟩
  have hqb := inB_bd (berV_quay hs0)
  by_cases hs1 : inB c 0 (q - 1) = true
  rotate_left
  · have hn1 : inB c 0 (q - 1) = false := Bool.eq_false_iff.2 hs1
    have HV := hid (show longV q xs c = (0, 0, false) by simp [longV, hn1])
    clear hs1
    go_enter Try.func25, Try.ntmps25
    go_wp2_with (first | (go_at_call 52; refine (c_spec_l16Good _ _ _ _ _ (by first | assumption | exact Rds.below hx (by (repeat' (first | exact Below.refl _ _ | assumption | refine Below.setCell ?_ ?_ _ | refine Below.drew ?_ | refine Below.alloc ?_ ?_ _ | refine Below.trans ?_ (Below.mono (by assumption) ?_) | (simp; done) | (simp; omega) | omega)))) (by omega)).mono ?_; rintro e w' ⟨rfl, hb⟩; have hc := cellOf hb; have hf := frozOf hb; have hz := sizeOf hb; try simp at hz) | (go_at_call 57; refine (c_spec_l1In _ _ _ _ ).mono ?_; rintro e w' ⟨rfl, hb⟩; have hc := cellOf hb; have hf := frozOf hb; have hz := sizeOf hb; try simp at hz))
    all_goals go_ret3
    all_goals exact ⟨by first | (rw [HV.out]; done) | (rw [HV.out]; rfl), by (repeat' (first | exact Below.refl _ _ | assumption | refine Below.setCell ?_ ?_ _ | refine Below.drew ?_ | refine Below.alloc ?_ ?_ _ | refine Below.trans ?_ (Below.mono (by assumption) ?_) | (simp; done) | (simp; omega) | omega))⟩
  have hcb := inB_bd hs1
  have hok := berV_P hs0
  obtain ⟨N, hN⟩ : ∃ N : Nat, N = 500 := ⟨_, rfl⟩
  have HV := hid (show longV q xs c = ((longTo xs c N).1, (longTo xs c N).2.1, decide (0 < (longTo xs c N).2.1)) by simp [longV, hs0, hs1, hN])
  go_enter Try.func25, Try.ntmps25
  go_wp2_with (first | (go_at_call 52; refine (c_spec_l16Good _ _ _ _ _ (by first | assumption | exact Rds.below hx (by (repeat' (first | exact Below.refl _ _ | assumption | refine Below.setCell ?_ ?_ _ | refine Below.drew ?_ | refine Below.alloc ?_ ?_ _ | refine Below.trans ?_ (Below.mono (by assumption) ?_) | (simp; done) | (simp; omega) | omega)))) (by omega)).mono ?_; rintro e w' ⟨rfl, hb⟩; have hc := cellOf hb; have hf := frozOf hb; have hz := sizeOf hb; try simp at hz) | (go_at_call 57; refine (c_spec_l1In _ _ _ _ ).mono ?_; rintro e w' ⟨rfl, hb⟩; have hc := cellOf hb; have hf := frozOf hb; have hz := sizeOf hb; try simp at hz))
  go_loopw [9, 10, 11, 12] (fun b m f i wr => ∃ k : Nat, k ≤ N ∧ i = .int .i64 k ∧ b = .int .i64 (longTo xs c k).1 ∧ m = .int .i64 (longTo xs c k).2.1 ∧ f = .int .i64 ((longTo xs c k).2.2) ∧ Below w.heap.size w wr) (fun _ _ _ i _ => N - (intOf i).toNat)
  case atStart => exact ⟨0, Nat.zero_le _, rfl, rfl, rfl, rfl, by (repeat' (first | exact Below.refl _ _ | assumption | refine Below.setCell ?_ ?_ _ | refine Below.drew ?_ | refine Below.alloc ?_ ?_ _ | refine Below.trans ?_ (Below.mono (by assumption) ?_) | (simp; done) | (simp; omega) | omega))⟩
  case round =>
    obtain ⟨k, hk, rfl, rfl, rfl, rfl, hbr⟩ := hrel
    have hc := cellOf hbr
    have hf := frozOf hbr
    have hz := sizeOf hbr
    have ho := longTo_ok xs c k
    unfold longOk at ho
    have HS := hid (longTo_succ xs c k)
    by_cases hlt : k < N
    · generalize longTo xs c k = a at *
      by_cases hfr : freeAt xs c k = true
      · have hme : meets xs c 1 k (k + 1) = false := by simpa [freeAt] using hfr
        by_cases hm : a.2.1 < a.2.2 + 1
        · have HS2 := hid (HS.out.trans (show longS xs c a k = ((k : Int) - (a.2.2 + 1) + 1, a.2.2 + 1, a.2.2 + 1) by simp [longS, hfr, hm]))
          skip
          go_wp2_with (first | (go_at_call 60; refine (c_spec_l16Used _ _ _ _ _ _ (by first | assumption | exact Rds.below hx (by (repeat' (first | exact Below.refl _ _ | assumption | refine Below.setCell ?_ ?_ _ | refine Below.drew ?_ | refine Below.alloc ?_ ?_ _ | refine Below.trans ?_ (Below.mono (by assumption) ?_) | (simp; done) | (simp; omega) | omega)))) (by omega) hok (by omega)).mono ?_; rintro e w' ⟨rfl, hb⟩; have hc := cellOf hb; have hf := frozOf hb; have hz := sizeOf hb; try simp at hz))
          go_roundw
          case rel => exact ⟨k + 1, by omega, by go_num, by first | (rw [HS2.out]; done) | (rw [HS2.out]; exact int_eq (by (try dsimp only); omega)), by first | (rw [HS2.out]; done) | (rw [HS2.out]; exact int_eq (by (try dsimp only); omega)), by first | (rw [HS2.out]; done) | (rw [HS2.out]; exact int_eq (by (try dsimp only); omega)), by (repeat' (first | exact Below.refl _ _ | assumption | refine Below.setCell ?_ ?_ _ | refine Below.drew ?_ | refine Below.alloc ?_ ?_ _ | refine Below.trans ?_ (Below.mono (by assumption) ?_) | (simp; done) | (simp; omega) | omega))⟩
          case measure => simp [intOf]; omega
        · have HS2 := hid (HS.out.trans (show longS xs c a k = (a.1, a.2.1, a.2.2 + 1) by simp [longS, hfr, hm]))
          skip
          go_wp2_with (first | (go_at_call 60; refine (c_spec_l16Used _ _ _ _ _ _ (by first | assumption | exact Rds.below hx (by (repeat' (first | exact Below.refl _ _ | assumption | refine Below.setCell ?_ ?_ _ | refine Below.drew ?_ | refine Below.alloc ?_ ?_ _ | refine Below.trans ?_ (Below.mono (by assumption) ?_) | (simp; done) | (simp; omega) | omega)))) (by omega) hok (by omega)).mono ?_; rintro e w' ⟨rfl, hb⟩; have hc := cellOf hb; have hf := frozOf hb; have hz := sizeOf hb; try simp at hz))
          go_roundw
          case rel => exact ⟨k + 1, by omega, by go_num, by first | (rw [HS2.out]; done) | (rw [HS2.out]; rfl), by first | (rw [HS2.out]; done) | (rw [HS2.out]; rfl), by first | (rw [HS2.out]; done) | (rw [HS2.out]; exact int_eq (by (try dsimp only); omega)), by (repeat' (first | exact Below.refl _ _ | assumption | refine Below.setCell ?_ ?_ _ | refine Below.drew ?_ | refine Below.alloc ?_ ?_ _ | refine Below.trans ?_ (Below.mono (by assumption) ?_) | (simp; done) | (simp; omega) | omega))⟩
          case measure => simp [intOf]; omega
      · have hfn : freeAt xs c k = false := by simpa using hfr
        have hm : ¬ a.2.1 < 0 := by omega
        have HS2 := hid (HS.out.trans (show longS xs c a k = (a.1, a.2.1, 0) by simp [longS, hfn, hm]))
        have hme : meets xs c 1 k (k + 1) = true := by simpa [freeAt] using hfn
        clear hfr
        go_wp2_with (first | (go_at_call 60; refine (c_spec_l16Used _ _ _ _ _ _ (by first | assumption | exact Rds.below hx (by (repeat' (first | exact Below.refl _ _ | assumption | refine Below.setCell ?_ ?_ _ | refine Below.drew ?_ | refine Below.alloc ?_ ?_ _ | refine Below.trans ?_ (Below.mono (by assumption) ?_) | (simp; done) | (simp; omega) | omega)))) (by omega) hok (by omega)).mono ?_; rintro e w' ⟨rfl, hb⟩; have hc := cellOf hb; have hf := frozOf hb; have hz := sizeOf hb; try simp at hz))
        go_roundw
        case rel => exact ⟨k + 1, by omega, by go_num, by first | (rw [HS2.out]; done) | (rw [HS2.out]; rfl), by first | (rw [HS2.out]; done) | (rw [HS2.out]; rfl), by first | (rw [HS2.out]; done) | (rw [HS2.out]; exact int_eq (by (try dsimp only); omega)), by (repeat' (first | exact Below.refl _ _ | assumption | refine Below.setCell ?_ ?_ _ | refine Below.drew ?_ | refine Below.alloc ?_ ?_ _ | refine Below.trans ?_ (Below.mono (by assumption) ?_) | (simp; done) | (simp; omega) | omega))⟩
        case measure => simp [intOf]; omega
    · obtain rfl : k = N := by omega
      generalize longTo xs c k = a at *
      by_cases hm : a.2.1 = 0
      · have HV2 : Hid (longV q xs c = (0, 0, false)) := HV.out.trans (by rw [ho.2.2.2.2.2.2 hm, hm]; rfl)
        have ha1 := ho.2.2.2.2.2.2 hm
        go_wp2_with (fail)
        go_ret3
        exact ⟨by rw [HV2.out]; first | rfl | simp [ha1, hm], by (repeat' (first | exact Below.refl _ _ | assumption | refine Below.setCell ?_ ?_ _ | refine Below.drew ?_ | refine Below.alloc ?_ ?_ _ | refine Below.trans ?_ (Below.mono (by assumption) ?_) | (simp; done) | (simp; omega) | omega))⟩
      · have HV2 : Hid (longV q xs c = (a.1, a.2.1, true)) := HV.out.trans (by rw [show decide (0 < a.2.1) = true by simp; omega])
        have hmp : 0 < a.2.1 := by omega
        go_wp2_with (fail)
        go_ret3
        exact ⟨by rw [HV2.out]; first | rfl | simp [hmp], by (repeat' (first | exact Below.refl _ _ | assumption | refine Below.setCell ?_ ?_ _ | refine Below.drew ?_ | refine Below.alloc ?_ ?_ _ | refine Below.trans ?_ (Below.mono (by assumption) ?_) | (simp; done) | (simp; omega) | omega))⟩

end Go.Proofs.Ytfipmalomhflgaa
