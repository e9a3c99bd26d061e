import Derived.Test.YtfipmalomhflgaaB1c
namespace Go.Proofs.Ytfipmalomhflgaa
set_option linter.unusedSimpArgs false
set_option linter.unusedVariables false
open Go.RowKit

set_option maxRecDepth 100000 in
set_option maxHeartbeats 2000000 in
theorem c_spec_l16Used (A : Option Addr) (xs : List (Int × Int × Int × Int × Int)) (cap : Nat) (c h : Int) (w : World) (hx : Rds cBer 5 w A xs) (hn : xs.length ≤ 9223372036854775807) (hok : ∀ k (hk : k < xs.length), berP xs[k]) (hab : 0 ≤ c ∧ c ≤ 20 ∧ 0 ≤ h ∧ h ≤ 499) :
    Calls Try.prog 60 #[.slice A xs.length cap, .int .i64 c, .int .i64 h] w fun e w' => e = .returned (.bool (meets xs c 1 h (h + 1))) ∧ Below w.heap.size w w' := by
  go_enter Try.func60, Try.ntmps60
  go_wp2_with (fail)
  go_loopw [7] (fun i wr => ∃ k : Nat, k ≤ xs.length ∧ i = .int .i64 k ∧ meets (xs.take k) c 1 h (h + 1) = false ∧ Below w.heap.size w wr) (fun i _ => xs.length - (intOf i).toNat)
  case atStart => exact ⟨0, Nat.zero_le _, rfl, rfl, by (repeat' (first | exact Below.refl _ _ | assumption | refine Below.setCell ?_ ?_ _ | refine Below.drew ?_ | refine Below.alloc ?_ ?_ _ | refine Below.trans ?_ (Below.mono (by assumption) ?_) | (simp; done) | (simp; omega) | omega))⟩
  case round =>
    obtain ⟨k, hk, rfl, hme, hbr⟩ := hrel
    have hc := cellOf hbr
    have hf := frozOf hbr
    have hz := sizeOf hbr
    have HM := hid hme
    clear hme
    by_cases hlt : k < xs.length
    · obtain ⟨bx, ox, rfl, hbx, hcx⟩ := hx k xs[k] (List.getElem?_eq_getElem hlt)
      have hx0 := hcx 0 _ rfl
      have hx1 := hcx 1 _ rfl
      have hx2 := hcx 2 _ rfl
      have hx3 := hcx 3 _ rfl
      have hx4 := hcx 4 _ rfl
      simp only [Nat.add_zero] at hx0
      have hxb := hok k hlt
      unfold berP at hxb
      have HS := hid (meets_snoc xs k hlt c 1 h (h + 1))
      have HT := hid (fun e => meets_hit (xs := xs) (k := xs.length) (c := c) (l := 1) (f := h) (t := h + 1) hlt hlt e)
      rw [List.take_length] at HT
      clear hcx hx hok
      generalize xs[k] = x at *
      by_cases hcl : crash c 1 h (h + 1) x = true
      · have HV := hid (HT.out hcl)
        simp only [crash] at hcl
        clear HT
        go_wp2_with (first | (go_at_call 80; refine (c_spec_l16Clash _ _ _ _ _ _ _ _ _ _ _ (by omega) (by omega) (by omega) (by omega) (by omega) (by omega) (by omega) (by omega)).mono ?_; rintro e w' ⟨rfl, hb⟩; have hc := cellOf hb; have hf := frozOf hb; have hz := sizeOf hb; try simp at hz))
        all_goals go_ret
        all_goals exact ⟨ret_bool (by rw [HV.out]), by (repeat' (first | exact Below.refl _ _ | assumption | refine Below.setCell ?_ ?_ _ | refine Below.drew ?_ | refine Below.alloc ?_ ?_ _ | refine Below.trans ?_ (Below.mono (by assumption) ?_) | (simp; done) | (simp; omega) | omega))⟩
      · have hcl' : crash c 1 h (h + 1) x = false := by simpa using hcl
        have HV := hid (HS.out.trans (by rw [HM.out, hcl']))
        clear hcl HT
        simp only [crash] at hcl'
        go_wp2_with (first | (go_at_call 80; refine (c_spec_l16Clash _ _ _ _ _ _ _ _ _ _ _ (by omega) (by omega) (by omega) (by omega) (by omega) (by omega) (by omega) (by omega)).mono ?_; rintro e w' ⟨rfl, hb⟩; have hc := cellOf hb; have hf := frozOf hb; have hz := sizeOf hb; try simp at hz))
        go_roundw
        case rel => exact ⟨k + 1, by omega, by go_num, HV.out, by (repeat' (first | exact Below.refl _ _ | assumption | refine Below.setCell ?_ ?_ _ | refine Below.drew ?_ | refine Below.alloc ?_ ?_ _ | refine Below.trans ?_ (Below.mono (by assumption) ?_) | (simp; done) | (simp; omega) | omega))⟩
        case measure => simp [intOf]; omega
    · obtain rfl : k = xs.length := by omega
      have HV := HM.out
      rw [List.take_length] at HV
      go_wp2_with (fail)
      go_ret
      exact ⟨ret_bool (by rw [HV]), by (repeat' (first | exact Below.refl _ _ | assumption | refine Below.setCell ?_ ?_ _ | refine Below.drew ?_ | refine Below.alloc ?_ ?_ _ | refine Below.trans ?_ (Below.mono (by assumption) ?_) | (simp; done) | (simp; omega) | omega))⟩

end Go.Proofs.Ytfipmalomhflgaa
