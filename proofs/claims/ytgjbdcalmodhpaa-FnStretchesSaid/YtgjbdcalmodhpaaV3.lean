import Derived.Test.YtgjbdcalmodhpaaP7
import Derived.Deep.RegionHeld3
import Derived.Test.YtgjbdcalmodhpaaSl
import Derived.Test.YtgjbdcalmodhpaaDefs
namespace Go.Proofs.Ytgjbdcalmodhpaa
set_option linter.unusedSimpArgs false
set_option linter.unusedVariables false
open Go.RowKit

set_option maxRecDepth 100000 in
set_option maxHeartbeats 2000000 in
theorem c_laws_vPassages (A0 A1 : Option Addr) (xs : List (Int × Bool × Int × Int)) (cap0 cap1 : Nat) (w : World) (h0 : Rds cPas 4 w A0 xs) (h1 : Rds cPas 4 w A1 xs) (hn : xs.length ≤ 1000000000) :
    Calls Try.prog 43 #[.slice A0 xs.length cap0, .slice A1 xs.length cap1] w fun e w' => e = .returned (.bool true) ∧ Below w.heap.size w w' := by
  go_enter Try.func43, Try.ntmps43
  go_wp2_with (fail)
  go_loopw [5] (fun i wr => ∃ k : Nat, k ≤ xs.length ∧ i = .int .i64 k ∧ Below w.heap.size w wr) (fun i _ => xs.length - (intOf i).toNat)
  case atStart => exact ⟨0, Nat.zero_le _, rfl, Below.refl _ _⟩
  case round =>
    obtain ⟨k, hk, rfl, hbr⟩ := hrel
    by_cases hlt : k < xs.length
    · obtain ⟨bx, ox, rfl, hbx, hcx⟩ := h0 k xs[k] (List.getElem?_eq_getElem hlt)
      obtain ⟨by_, oy, rfl, hby, hcy⟩ := h1 k xs[k] (List.getElem?_eq_getElem hlt)
      have hx0 := hcx 0 _ rfl
      have hx1 := hcx 1 _ rfl
      have hx2 := hcx 2 _ rfl
      have hx3 := hcx 3 _ rfl
      have hy0 := hcy 0 _ rfl
      have hy1 := hcy 1 _ rfl
      have hy2 := hcy 2 _ rfl
      have hy3 := hcy 3 _ rfl
      simp only [Nat.add_zero, Nat.mul_one] at hx0 hx1 hx2 hx3 hy0 hy1 hy2 hy3
      clear hcx hcy h0 h1
      generalize xs[k] = x at *
      have hc : ∀ b o, b < w.heap.size → wr.cell? ⟨b, o, none⟩ = w.cell? ⟨b, o, none⟩ := fun b o hb => hbr.cell (p := ⟨b, o, none⟩) hb
      have hz := sizeOf hbr
      have rx0 := (hc _ _ hbx).trans hx0
      have rx1 := (hc _ _ hbx).trans hx1
      have rx2 := (hc _ _ hbx).trans hx2
      have rx3 := (hc _ _ hbx).trans hx3
      have ry0 := (hc _ _ hby).trans hy0
      have ry1 := (hc _ _ hby).trans hy1
      have ry2 := (hc _ _ hby).trans hy2
      have ry3 := (hc _ _ hby).trans hy3
      clear hx0 hx1 hx2 hx3 hy0 hy1 hy2 hy3
      go_wp2_with (fail)
      go_region_held3 (fun w' => w'.cell? ⟨bx, ox + k * 4, none⟩ = some (.int .i64 (x.1)) ∧ w'.cell? ⟨bx, ox + k * 4 + 1, none⟩ = some (.bool (x.2.1)) ∧ w'.cell? ⟨bx, ox + k * 4 + 2, none⟩ = some (.int .i64 (x.2.2.1)) ∧ w'.cell? ⟨bx, ox + k * 4 + 3, none⟩ = some (.int .i64 (x.2.2.2)) ∧ w'.cell? ⟨by_, oy + k * 4, none⟩ = some (.int .i64 (x.1)) ∧ w'.cell? ⟨by_, oy + k * 4 + 1, none⟩ = some (.bool (x.2.1)) ∧ w'.cell? ⟨by_, oy + k * 4 + 2, none⟩ = some (.int .i64 (x.2.2.1)) ∧ w'.cell? ⟨by_, oy + k * 4 + 3, none⟩ = some (.int .i64 (x.2.2.2))) (first | assumption | exact ⟨rx0, rx1, rx2, rx3, ry0, ry1, ry2, ry3⟩) (fail)
      go_wp2_with (fail)
      go_roundw
      case rel => exact ⟨k + 1, by omega, by go_num, by (repeat' (first | exact Below.refl _ _ | assumption | refine Below.setCell ?_ ?_ _ | refine Below.drew ?_ | refine Below.alloc ?_ ?_ _ | refine Below.trans ?_ (Below.mono (by assumption) ?_) | (simp; done) | (simp; omega) | omega))⟩
      case measure => simp [intOf]; omega
    · obtain rfl : k = xs.length := by omega
      go_wp2_with (fail)
      go_ret
      exact ⟨rfl, by (repeat' (first | exact Below.refl _ _ | assumption | refine Below.setCell ?_ ?_ _ | refine Below.drew ?_ | refine Below.alloc ?_ ?_ _ | refine Below.trans ?_ (Below.mono (by assumption) ?_) | (simp; done) | (simp; omega) | omega))⟩

set_option maxHeartbeats 400000 in
theorem c_laws_vBig (A : Option Addr) (n cap : Nat) (w : World) (hl : n ≤ 9223372036854775807) :
    Calls Try.prog 41 #[.slice A n cap] w fun e w' => e = .returned (.bool (decide (65536 < n))) ∧ Below w.heap.size w w' := by
  go_enter Try.func41, Try.ntmps41
  go_wp2_with (fail)
  go_ret
  exact ⟨ret_bool (by simp; try omega), by (repeat' (first | exact Below.refl _ _ | assumption | refine Below.setCell ?_ ?_ _ | refine Below.drew ?_ | refine Below.alloc ?_ ?_ _ | refine Below.trans ?_ (Below.mono (by assumption) ?_) | (simp; done) | (simp; omega) | omega))⟩

end Go.Proofs.Ytgjbdcalmodhpaa
