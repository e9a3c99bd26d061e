import Derived.Test.YteciijnpfapmhaaK0
namespace Go.Proofs.Yteciijnpfapmhaa
set_option linter.unusedSimpArgs false
set_option linter.unusedVariables false
open Go.RowKit

set_option maxHeartbeats 2000000 in
theorem c_spec_l15First (B : Option Addr) (pl : List Int) (n cap : Nat) (m : Int) (w : World) (hr : Rds cIn 1 w B pl) (hnl : pl.length = n) (hn : pl.length ≤ 9223372036854775807) :
    Calls Try.prog 67 #[.slice B n cap, .int .i64 m] w fun e w' => e = .returned (.int .i64 (firstO pl m)) ∧ Below w.heap.size w w' := by
  subst hnl
  go_enter Try.func67, Try.ntmps67
  go_wp2_with (fail)
  go_loopw [5] (fun i wr => ∃ k : Nat, k ≤ pl.length ∧ i = .int .i64 k ∧ (∀ j (hj : j < k) (hl : j < pl.length), pl[j] < m) ∧ Below w.heap.size w wr) (fun i _ => pl.length - (intOf i).toNat)
  case atStart => exact ⟨0, Nat.zero_le _, rfl, fun j hj => absurd hj (Nat.not_lt_zero j), by (repeat' (first | exact Below.refl _ _ | assumption | refine Below.setCell ?_ ?_ _ | refine Below.drew ?_ | refine Below.alloc ?_ ?_ _ | refine Below.trans ?_ (Below.mono (by assumption) ?_) | (simp; done) | (simp; omega) | omega))⟩
  case round =>
    obtain ⟨k, hk, rfl, hl, hbr⟩ := hrel
    have HL := hid hl
    clear hl
    have hc := cellOf hbr
    have hf := frozOf hbr
    have hz := sizeOf hbr
    by_cases hlt : k < pl.length
    · obtain ⟨bx, ox, rfl, hbx, hcx⟩ := hr k pl[k] (List.getElem?_eq_getElem hlt)
      have hx0 := hcx 0 _ rfl
      simp only [Nat.add_zero, Nat.mul_one] at hx0
      have HH := hid (fun e => firstO_hit (m := m) hlt (fun j hj => HL.out j hj (by omega)) e)
      have HE := hid (fun e : pl[k] < m => fun j (hj : j < k + 1) (hjl : j < pl.length) => show pl[j] < m by
        by_cases he : j < k
        · exact HL.out j he hjl
        · have : j = k := by omega
          subst this
          exact e)
      clear hcx hr
      generalize pl[k] = x at *
      by_cases hm : m ≤ x
      · have HV := hid (HH.out hm)
        clear HH HE
        go_wp2_with (fail)
        go_ret
        exact ⟨ret_int (by rw [HV.out]), by (repeat' (first | exact Below.refl _ _ | assumption | refine Below.setCell ?_ ?_ _ | refine Below.drew ?_ | refine Below.alloc ?_ ?_ _ | refine Below.trans ?_ (Below.mono (by assumption) ?_) | (simp; done) | (simp; omega) | omega))⟩
      · have HV := hid (HE.out (by omega))
        clear HH HE
        go_wp2_with (fail)
        go_roundw
        case rel => exact ⟨k + 1, by omega, by go_num, HV.out, by (repeat' (first | exact Below.refl _ _ | assumption | refine Below.setCell ?_ ?_ _ | refine Below.drew ?_ | refine Below.alloc ?_ ?_ _ | refine Below.trans ?_ (Below.mono (by assumption) ?_) | (simp; done) | (simp; omega) | omega))⟩
        case measure => simp [intOf]; omega
    · obtain rfl : k = pl.length := by omega
      have HV := hid (firstO_none (m := m) (fun j hj => HL.out j hj hj))
      go_wp2_with (fail)
      go_ret
      exact ⟨ret_int (by rw [HV.out]), by (repeat' (first | exact Below.refl _ _ | assumption | refine Below.setCell ?_ ?_ _ | refine Below.drew ?_ | refine Below.alloc ?_ ?_ _ | refine Below.trans ?_ (Below.mono (by assumption) ?_) | (simp; done) | (simp; omega) | omega))⟩

end Go.Proofs.Yteciijnpfapmhaa
