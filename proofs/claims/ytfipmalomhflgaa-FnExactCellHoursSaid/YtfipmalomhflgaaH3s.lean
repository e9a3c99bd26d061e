import Derived.Test.YtfipmalomhflgaaH1s
namespace Go.Proofs.Ytfipmalomhflgaa
set_option linter.unusedSimpArgs false
set_option linter.unusedVariables false
open Go.RowKit

set_option maxRecDepth 100000 in
set_option maxHeartbeats 2000000 in
theorem c_spec_CellHours (q : Int) (A : Option Addr) (xs : List (Int × Int × Int × Int × Int)) (cap : Nat) (w : World) (hx : Rds cBer 5 w A xs) (hn : xs.length ≤ 9223372036854775807)  :
    Calls Try.prog 19 #[.int .i64 q, .slice A xs.length cap] w fun e w' => e = .returned (.tuple #[.int .i64 (hoursV q xs).1, .bool (hoursV q xs).2]) ∧ Below w.heap.size w w' := by
  by_cases hs0 : berV q xs = true
  rotate_left
  · have hn0 : berV q xs = false := Bool.eq_false_iff.2 hs0
    have HV := hid (show hoursV q xs = (0, false) by simp [hoursV, hn0])
    clear hs0
    go_enter Try.func19, Try.ntmps19
    go_wp2_with (first | (go_at_call 52; refine (c_spec_l16Good _ _ _ _ _ (by first | assumption | exact Rds.below hx (by (repeat' (first | exact Below.refl _ _ | assumption | refine Below.setCell ?_ ?_ _ | refine Below.drew ?_ | refine Below.alloc ?_ ?_ _ | refine Below.trans ?_ (Below.mono (by assumption) ?_) | (simp; done) | (simp; omega) | omega)))) (by omega)).mono ?_; rintro e w' ⟨rfl, hb⟩; have hc := cellOf hb; have hf := frozOf hb; have hz := sizeOf hb; try simp at hz))
    all_goals go_ret2
    all_goals exact ⟨by first | (rw [HV.out]; done) | (rw [HV.out]; rfl), by (repeat' (first | exact Below.refl _ _ | assumption | refine Below.setCell ?_ ?_ _ | refine Below.drew ?_ | refine Below.alloc ?_ ?_ _ | refine Below.trans ?_ (Below.mono (by assumption) ?_) | (simp; done) | (simp; omega) | omega))⟩
  have HV := hid (show hoursV q xs = (hoursTo xs xs.length, true) by simp [hoursV, hs0])
  have hlen := berV_len hs0
  go_enter Try.func19, Try.ntmps19
  go_wp2_with (first | (go_at_call 52; refine (c_spec_l16Good _ _ _ _ _ (by first | assumption | exact Rds.below hx (by (repeat' (first | exact Below.refl _ _ | assumption | refine Below.setCell ?_ ?_ _ | refine Below.drew ?_ | refine Below.alloc ?_ ?_ _ | refine Below.trans ?_ (Below.mono (by assumption) ?_) | (simp; done) | (simp; omega) | omega)))) (by omega)).mono ?_; rintro e w' ⟨rfl, hb⟩; have hc := cellOf hb; have hf := frozOf hb; have hz := sizeOf hb; try simp at hz))
  go_loopw [6, 7] (fun c i wr => ∃ k : Nat, k ≤ xs.length ∧ i = .int .i64 k ∧ c = .int .i64 (hoursTo xs k) ∧ Below w.heap.size w wr) (fun _ i _ => xs.length - (intOf i).toNat)
  case atStart => exact ⟨0, Nat.zero_le _, rfl, rfl, by (repeat' (first | exact Below.refl _ _ | assumption | refine Below.setCell ?_ ?_ _ | refine Below.drew ?_ | refine Below.alloc ?_ ?_ _ | refine Below.trans ?_ (Below.mono (by assumption) ?_) | (simp; done) | (simp; omega) | omega))⟩
  case round =>
    obtain ⟨k, hk, rfl, rfl, hbr⟩ := hrel
    have hc := cellOf hbr
    have hf := frozOf hbr
    have hz := sizeOf hbr
    by_cases hlt : k < xs.length
    · obtain ⟨bx, ox, rfl, hbx, hcx⟩ := hx k xs[k] (List.getElem?_eq_getElem hlt)
      have hx0 := hcx 0 _ rfl
      have hx1 := hcx 1 _ rfl
      have hx2 := hcx 2 _ rfl
      have hx3 := hcx 3 _ rfl
      have hx4 := hcx 4 _ rfl
      simp only [Nat.add_zero] at hx0
      have HS := hid (hoursTo_succ xs k hlt)
      have hxb := berOk_bd (berV_at hs0 k hlt)
      have hqb := inB_bd (berV_quay hs0)
      have hsb := hoursTo_bd hs0 k hk
      have hmb := mulB (l := xs[k].2.2.1) (d := xs[k].2.2.2.2 - xs[k].2.2.2.1) (by omega) (by omega)
      clear hcx hx
      generalize xs[k] = x at *
      go_wp2_with (fail)
      go_region
      go_wp2_with (fail)
      go_roundw
      case rel => exact ⟨k + 1, by omega, by go_num, by rw [HS.out], by (repeat' (first | exact Below.refl _ _ | assumption | refine Below.setCell ?_ ?_ _ | refine Below.drew ?_ | refine Below.alloc ?_ ?_ _ | refine Below.trans ?_ (Below.mono (by assumption) ?_) | (simp; done) | (simp; omega) | omega))⟩
      case measure => simp [intOf]; omega
    · obtain rfl : k = xs.length := by omega
      go_wp2_with (fail)
      go_ret2
      exact ⟨by first | (rw [HV.out]; done) | (rw [HV.out]; rfl), by (repeat' (first | exact Below.refl _ _ | assumption | refine Below.setCell ?_ ?_ _ | refine Below.drew ?_ | refine Below.alloc ?_ ?_ _ | refine Below.trans ?_ (Below.mono (by assumption) ?_) | (simp; done) | (simp; omega) | omega))⟩

end Go.Proofs.Ytfipmalomhflgaa
