import Derived.Test.YtfipmalomhflgaaH6i
namespace Go.Proofs.Ytfipmalomhflgaa
set_option linter.unusedSimpArgs false
set_option linter.unusedVariables false
open Go.RowKit

set_option maxRecDepth 100000 in
set_option maxHeartbeats 4000000 in
theorem c_impl_FullHours (q : Int) (A : Option Addr) (xs : List (Int × Int × Int × Int × Int)) (cap : Nat) (w : World) (hx : Rds cBer 5 w A xs) (hn : xs.length ≤ 9223372036854775807) (hcap : xs.length ≤ cap) (hmax : cap ≤ 4611686018427387904) :
    Calls Try.prog 24 #[.int .i64 q, .slice A xs.length cap] w fun e w' => e = .returned (.tuple #[.int .i64 (fullV q xs).1, .bool (fullV q xs).2]) ∧ Below w.heap.size w w' := by
  by_cases hs0 : berV q xs = true
  rotate_left
  · have hn0 : berV q xs = false := Bool.eq_false_iff.2 hs0
    have HV := hid (show fullV q xs = (0, false) by simp [fullV, hn0])
    clear hs0
    go_enter Try.func24, Try.ntmps24
    go_wp2_with (first | (go_at_call 17; refine (c_impl_IsBerthing _ _ _ _ _ (by first | assumption | exact Rds.below hx (by (repeat' (first | exact Below.refl _ _ | assumption | refine Below.setCell ?_ ?_ _ | refine Below.drew ?_ | refine Below.alloc ?_ ?_ _ | refine Below.trans ?_ (Below.mono (by assumption) ?_) | (simp; done) | (simp; omega) | omega)))) (by omega) (by omega) (by omega)).mono ?_; rintro e w' ⟨rfl, hb⟩; have hc := cellOf hb; have hf := frozOf hb; have hz := sizeOf hb; try simp at hz))
    all_goals go_ret2
    all_goals exact ⟨by first | (rw [HV.out]; done) | (rw [HV.out]; rfl), by (repeat' (first | exact Below.refl _ _ | assumption | refine Below.setCell ?_ ?_ _ | refine Below.drew ?_ | refine Below.alloc ?_ ?_ _ | refine Below.trans ?_ (Below.mono (by assumption) ?_) | (simp; done) | (simp; omega) | omega))⟩
  have hqb := inB_bd (berV_quay hs0)
  have hok := berV_P hs0
  have hlen := berV_len hs0
  obtain ⟨N, hN⟩ : ∃ N : Nat, N = 500 := ⟨_, rfl⟩
  have HV := hid (show fullV q xs = ((fullTo q xs N : Int), true) by simp [fullV, hs0, hN])
  go_enter Try.func24, Try.ntmps24
  go_wp2_with (first | (go_at_call 17; refine (c_impl_IsBerthing _ _ _ _ _ (by first | assumption | exact Rds.below hx (by (repeat' (first | exact Below.refl _ _ | assumption | refine Below.setCell ?_ ?_ _ | refine Below.drew ?_ | refine Below.alloc ?_ ?_ _ | refine Below.trans ?_ (Below.mono (by assumption) ?_) | (simp; done) | (simp; omega) | omega)))) (by omega) (by omega) (by omega)).mono ?_; rintro e w' ⟨rfl, hb⟩; have hc := cellOf hb; have hf := frozOf hb; have hz := sizeOf hb; try simp at hz))
  go_loopw [6, 12] (fun c i wr => ∃ k : Nat, k ≤ N ∧ i = .int .i64 k ∧ c = .int .i64 (fullTo q xs k) ∧ Below w.heap.size w wr) (fun _ i _ => N - (intOf i).toNat)
  case atStart => exact ⟨0, Nat.zero_le _, rfl, rfl, by (repeat' (first | exact Below.refl _ _ | assumption | refine Below.setCell ?_ ?_ _ | refine Below.drew ?_ | refine Below.alloc ?_ ?_ _ | refine Below.trans ?_ (Below.mono (by assumption) ?_) | (simp; done) | (simp; omega) | omega))⟩
  case round =>
    obtain ⟨k, hk, rfl, rfl, hbr⟩ := hrel
    have hc := cellOf hbr
    have hf := frozOf hbr
    have hz := sizeOf hbr
    by_cases hlt : k < N
    · have HS := hid (fullTo_succ q xs k)
      have hle := fullTo_le q xs k
      by_cases hb0 : (freeTo xs k q.toNat).length = 0
      · rw [if_pos hb0] at HS
        go_wp2_with (go_at_call 59; refine (c_impl_freeCells _ _ _ _ _ _ (hx.below (by (repeat' (first | exact Below.refl _ _ | assumption | refine Below.setCell ?_ ?_ _ | refine Below.drew ?_ | refine Below.alloc ?_ ?_ _ | refine Below.trans ?_ (Below.mono (by assumption) ?_) | (simp; done) | (simp; omega) | omega)))) hn hs0 (by omega)).mono ?_; rintro e w9 ⟨A9, c9, rfl, hF9, hb9⟩)
        go_roundw
        case rel => exact ⟨k + 1, by omega, by go_num, by rw [HS.out]; go_num, by (repeat' (first | exact Below.refl _ _ | assumption | refine Below.setCell ?_ ?_ _ | refine Below.drew ?_ | refine Below.alloc ?_ ?_ _ | refine Below.trans ?_ (Below.mono (by assumption) ?_) | (simp; done) | (simp; omega) | omega))⟩
        case measure => simp [intOf]; omega
      · rw [if_neg hb0] at HS
        have hb1 : ¬ ((freeTo xs k q.toNat).length : Int) = 0 := by omega
        go_wp2_with (go_at_call 59; refine (c_impl_freeCells _ _ _ _ _ _ (hx.below (by (repeat' (first | exact Below.refl _ _ | assumption | refine Below.setCell ?_ ?_ _ | refine Below.drew ?_ | refine Below.alloc ?_ ?_ _ | refine Below.trans ?_ (Below.mono (by assumption) ?_) | (simp; done) | (simp; omega) | omega)))) hn hs0 (by omega)).mono ?_; rintro e w9 ⟨A9, c9, rfl, hF9, hb9⟩)
        go_roundw
        case rel => exact ⟨k + 1, by omega, by go_num, by rw [HS.out]; rfl, by (repeat' (first | exact Below.refl _ _ | assumption | refine Below.setCell ?_ ?_ _ | refine Below.drew ?_ | refine Below.alloc ?_ ?_ _ | refine Below.trans ?_ (Below.mono (by assumption) ?_) | (simp; done) | (simp; omega) | omega))⟩
        case measure => simp [intOf]; omega
    · obtain rfl : k = N := by omega
      go_wp2_with (fail)
      go_ret2
      exact ⟨by first | (rw [HV.out]; done) | (rw [HV.out]; rfl), by (repeat' (first | exact Below.refl _ _ | assumption | refine Below.setCell ?_ ?_ _ | refine Below.drew ?_ | refine Below.alloc ?_ ?_ _ | refine Below.trans ?_ (Below.mono (by assumption) ?_) | (simp; done) | (simp; omega) | omega))⟩

end Go.Proofs.Ytfipmalomhflgaa
