import Derived.Test.YtgjbdcalmodhpaaB2
import Derived.Test.YtgjbdcalmodhpaaP2s
namespace Go.Proofs.Ytgjbdcalmodhpaa
set_option linter.unusedSimpArgs false
set_option linter.unusedVariables false
open Go.RowKit

set_option maxHeartbeats 2000000 in
theorem c_spec_FreeFrom (A : Option Addr) (xs : List (Int × Bool × Int × Int)) (cap : Nat) (f l : Int) (w : World) (hx : Rds cPas 4 w A xs) (hn : xs.length ≤ 9223372036854775807) :
    Calls Try.prog 23 #[.slice A xs.length cap, .int .i64 f, .int .i64 l] w fun e w' => e = .returned (.tuple #[.int .i64 (freeFV xs f l).1, .bool (freeFV xs f l).2]) ∧ Below w.heap.size w w' := by
  by_cases hv : vB pOk pLt 6 xs = true
  rotate_left
  · have hv' : vB pOk pLt 6 xs = false := by simpa using hv
    have HV := hid (show freeFV xs f l = (0, false) by simp [freeFV, hv'])
    clear hv
    go_enter Try.func23, Try.ntmps23
    go_wp2_with (first | (go_at_call 58; refine (c_spec_l14Good _ _ _ _ (by first | assumption | exact Rds.below hx (by (repeat' (first | exact Below.refl _ _ | assumption | refine Below.setCell ?_ ?_ _ | refine Below.drew ?_ | refine Below.alloc ?_ ?_ _ | refine Below.trans ?_ (Below.mono (by assumption) ?_) | (simp; done) | (simp; omega) | omega)))) (by omega)).mono ?_; rintro e w' ⟨rfl, hb⟩; have hc := cellOf hb; have hf := frozOf hb; have hz := sizeOf hb; try simp at hz) | (go_at_call 62; refine (c_spec_l8Minute _ _ ).mono ?_; rintro e w' ⟨rfl, hb⟩; have hc := cellOf hb; have hf := frozOf hb; have hz := sizeOf hb; try simp at hz) | (go_at_call 63; refine (c_spec_l1In _ _ _ _ ).mono ?_; rintro e w' ⟨rfl, hb⟩; have hc := cellOf hb; have hf := frozOf hb; have hz := sizeOf hb; try simp at hz))
    all_goals go_ret2
    all_goals exact ⟨by first | (rw [HV.out]; done) | (rw [HV.out]; rfl), by (repeat' (first | exact Below.refl _ _ | assumption | refine Below.setCell ?_ ?_ _ | refine Below.drew ?_ | refine Below.alloc ?_ ?_ _ | refine Below.trans ?_ (Below.mono (by assumption) ?_) | (simp; done) | (simp; omega) | omega))⟩
  by_cases hm : minB f = true
  rotate_left
  · have hm' : minB f = false := by simpa using hm
    have HV := hid (show freeFV xs f l = (0, false) by simp [freeFV, hm'])
    clear hm
    go_enter Try.func23, Try.ntmps23
    go_wp2_with (first | (go_at_call 58; refine (c_spec_l14Good _ _ _ _ (by first | assumption | exact Rds.below hx (by (repeat' (first | exact Below.refl _ _ | assumption | refine Below.setCell ?_ ?_ _ | refine Below.drew ?_ | refine Below.alloc ?_ ?_ _ | refine Below.trans ?_ (Below.mono (by assumption) ?_) | (simp; done) | (simp; omega) | omega)))) (by omega)).mono ?_; rintro e w' ⟨rfl, hb⟩; have hc := cellOf hb; have hf := frozOf hb; have hz := sizeOf hb; try simp at hz) | (go_at_call 62; refine (c_spec_l8Minute _ _ ).mono ?_; rintro e w' ⟨rfl, hb⟩; have hc := cellOf hb; have hf := frozOf hb; have hz := sizeOf hb; try simp at hz) | (go_at_call 63; refine (c_spec_l1In _ _ _ _ ).mono ?_; rintro e w' ⟨rfl, hb⟩; have hc := cellOf hb; have hf := frozOf hb; have hz := sizeOf hb; try simp at hz))
    all_goals go_ret2
    all_goals exact ⟨by first | (rw [HV.out]; done) | (rw [HV.out]; rfl), by (repeat' (first | exact Below.refl _ _ | assumption | refine Below.setCell ?_ ?_ _ | refine Below.drew ?_ | refine Below.alloc ?_ ?_ _ | refine Below.trans ?_ (Below.mono (by assumption) ?_) | (simp; done) | (simp; omega) | omega))⟩
  by_cases hl : inB l 1 9999 = true
  rotate_left
  · have hl' : inB l 1 9999 = false := by simpa using hl
    have HV := hid (show freeFV xs f l = (0, false) by simp [freeFV, hl'])
    clear hl
    go_enter Try.func23, Try.ntmps23
    go_wp2_with (first | (go_at_call 58; refine (c_spec_l14Good _ _ _ _ (by first | assumption | exact Rds.below hx (by (repeat' (first | exact Below.refl _ _ | assumption | refine Below.setCell ?_ ?_ _ | refine Below.drew ?_ | refine Below.alloc ?_ ?_ _ | refine Below.trans ?_ (Below.mono (by assumption) ?_) | (simp; done) | (simp; omega) | omega)))) (by omega)).mono ?_; rintro e w' ⟨rfl, hb⟩; have hc := cellOf hb; have hf := frozOf hb; have hz := sizeOf hb; try simp at hz) | (go_at_call 62; refine (c_spec_l8Minute _ _ ).mono ?_; rintro e w' ⟨rfl, hb⟩; have hc := cellOf hb; have hf := frozOf hb; have hz := sizeOf hb; try simp at hz) | (go_at_call 63; refine (c_spec_l1In _ _ _ _ ).mono ?_; rintro e w' ⟨rfl, hb⟩; have hc := cellOf hb; have hf := frozOf hb; have hz := sizeOf hb; try simp at hz))
    all_goals go_ret2
    all_goals exact ⟨by first | (rw [HV.out]; done) | (rw [HV.out]; rfl), by (repeat' (first | exact Below.refl _ _ | assumption | refine Below.setCell ?_ ?_ _ | refine Below.drew ?_ | refine Below.alloc ?_ ?_ _ | refine Below.trans ?_ (Below.mono (by assumption) ?_) | (simp; done) | (simp; omega) | omega))⟩
  have HV := hid (show freeFV xs f l = freeV xs f l by simp [freeFV, hv, hm, hl])
  have hfb := minB_bd hm
  have hlb := inB_bd hl
  go_enter Try.func23, Try.ntmps23
  go_wp2_with (first | (go_at_call 58; refine (c_spec_l14Good _ _ _ _ (by first | assumption | exact Rds.below hx (by (repeat' (first | exact Below.refl _ _ | assumption | refine Below.setCell ?_ ?_ _ | refine Below.drew ?_ | refine Below.alloc ?_ ?_ _ | refine Below.trans ?_ (Below.mono (by assumption) ?_) | (simp; done) | (simp; omega) | omega)))) (by omega)).mono ?_; rintro e w' ⟨rfl, hb⟩; have hc := cellOf hb; have hf := frozOf hb; have hz := sizeOf hb; try simp at hz) | (go_at_call 62; refine (c_spec_l8Minute _ _ ).mono ?_; rintro e w' ⟨rfl, hb⟩; have hc := cellOf hb; have hf := frozOf hb; have hz := sizeOf hb; try simp at hz) | (go_at_call 63; refine (c_spec_l1In _ _ _ _ ).mono ?_; rintro e w' ⟨rfl, hb⟩; have hc := cellOf hb; have hf := frozOf hb; have hz := sizeOf hb; try simp at hz))
  go_loopw [8] (fun i wr => ∃ j : Nat, i = .int .i64 (f + j) ∧ f + j ≤ 10000 ∧ (∀ q : Nat, q < j → overA xs (f + q) (f + q + l) = true) ∧ Below w.heap.size w wr) (fun i _ => (10000 - intOf i).toNat)
  case atStart => exact ⟨0, by simp, by omega, fun q hq => absurd hq (Nat.not_lt_zero q), by (repeat' (first | exact Below.refl _ _ | assumption | refine Below.setCell ?_ ?_ _ | refine Below.drew ?_ | refine Below.alloc ?_ ?_ _ | refine Below.trans ?_ (Below.mono (by assumption) ?_) | (simp; done) | (simp; omega) | omega))⟩
  case round =>
    obtain ⟨j, rfl, hj, hall, hbr⟩ := hrel
    have hc := cellOf hbr
    have hf := frozOf hbr
    have hz := sizeOf hbr
    by_cases hle : f + j + l ≤ 9999
    · have hp := lastB_pos hv (f + j) (f + j + l)
      by_cases hb0 : overA xs (f + j) (f + j + l) = true
      · have hp' := hp.2 hb0
        have HA := hid hall
        have HB := hid hb0
        clear hall hb0 hp
        go_wp2_with (first | (go_at_call 60; refine (c_spec_l14Busy _ _ _ _ _ _ (by first | assumption | exact Rds.below hx (by (repeat' (first | exact Below.refl _ _ | assumption | refine Below.setCell ?_ ?_ _ | refine Below.drew ?_ | refine Below.alloc ?_ ?_ _ | refine Below.trans ?_ (Below.mono (by assumption) ?_) | (simp; done) | (simp; omega) | omega)))) (by omega)).mono ?_; rintro e w' ⟨rfl, hb⟩; have hc := cellOf hb; have hf := frozOf hb; have hz := sizeOf hb; try simp at hz))
        go_roundw
        case rel =>
          refine ⟨j + 1, by go_num, by omega, fun q hq => ?_, by (repeat' (first | exact Below.refl _ _ | assumption | refine Below.setCell ?_ ?_ _ | refine Below.drew ?_ | refine Below.alloc ?_ ?_ _ | refine Below.trans ?_ (Below.mono (by assumption) ?_) | (simp; done) | (simp; omega) | omega))⟩
          by_cases hqj : q < j
          · exact HA.out q hqj
          · obtain rfl : q = j := by omega
            exact HB.out
        case measure => simp [intOf]; omega
      · have hb1 : overA xs (f + j) (f + j + l) = false := by simpa using hb0
        have hp' : ¬ (0 ≤ lastB xs (f + j) (f + j + l)) := fun h => hb0 (hp.1 h)
        have HF := hid (freeV_hit hle hall hb1)
        clear hall hb0 hp hb1
        go_wp2_with (first | (go_at_call 60; refine (c_spec_l14Busy _ _ _ _ _ _ (by first | assumption | exact Rds.below hx (by (repeat' (first | exact Below.refl _ _ | assumption | refine Below.setCell ?_ ?_ _ | refine Below.drew ?_ | refine Below.alloc ?_ ?_ _ | refine Below.trans ?_ (Below.mono (by assumption) ?_) | (simp; done) | (simp; omega) | omega)))) (by omega)).mono ?_; rintro e w' ⟨rfl, hb⟩; have hc := cellOf hb; have hf := frozOf hb; have hz := sizeOf hb; try simp at hz))
        go_ret2
        exact ⟨by first | (rw [HV.out, HF.out]; done) | (rw [HV.out, HF.out]; rfl), by (repeat' (first | exact Below.refl _ _ | assumption | refine Below.setCell ?_ ?_ _ | refine Below.drew ?_ | refine Below.alloc ?_ ?_ _ | refine Below.trans ?_ (Below.mono (by assumption) ?_) | (simp; done) | (simp; omega) | omega))⟩
    · have HF := hid (freeV_none (xs := xs) (f := f) (l := l) fun q hq => hall q (by omega))
      clear hall
      go_wp2_with (fail)
      go_ret2
      exact ⟨by first | (rw [HV.out, HF.out]; done) | (rw [HV.out, HF.out]; rfl), by (repeat' (first | exact Below.refl _ _ | assumption | refine Below.setCell ?_ ?_ _ | refine Below.drew ?_ | refine Below.alloc ?_ ?_ _ | refine Below.trans ?_ (Below.mono (by assumption) ?_) | (simp; done) | (simp; omega) | omega))⟩

end Go.Proofs.Ytgjbdcalmodhpaa
