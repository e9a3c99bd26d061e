import Derived.Test.YtfipmalomhflgaaQS03
import Derived.Deep.RegionHeld3
namespace Go.Proofs.Ytfipmalomhflgaa
set_option linter.unusedSimpArgs false
set_option linter.unusedVariables false
open Go.RowKit

set_option maxHeartbeats 400000 in
theorem c_laws_rBig (A : Option Addr) (n cap : Nat) (w : World) (hl : n ≤ 9223372036854775807) :
    Calls Try.prog 41 #[.slice A n cap] w fun e w' => e = .returned (.bool (decide (65536 < n))) ∧ Below w.heap.size w w' := by
  go_enter Try.func41, Try.ntmps41
  go_wp2_with (fail)
  go_ret
  exact ⟨ret_bool (by simp; try omega), by (repeat' (first | exact Below.refl _ _ | assumption | refine Below.setCell ?_ ?_ _ | refine Below.drew ?_ | refine Below.alloc ?_ ?_ _ | refine Below.trans ?_ (Below.mono (by assumption) ?_) | (simp; done) | (simp; omega) | omega))⟩

set_option maxRecDepth 100000 in
set_option maxHeartbeats 2000000 in
theorem c_laws_rInts (A0 A1 : Option Addr) (xs : List (Int)) (cap0 cap1 : Nat) (w : World) (h0 : Rds cIn 1 w A0 xs) (h1 : Rds cIn 1 w A1 xs) (hn : xs.length ≤ 1000000000) :
    Calls Try.prog 47 #[.slice A0 xs.length cap0, .slice A1 xs.length cap1] w fun e w' => e = .returned (.bool true) ∧ Below w.heap.size w w' := by
  go_enter Try.func47, Try.ntmps47
  go_wp2_with (fail)
  go_loopw [5] (fun i wr => ∃ k : Nat, k ≤ xs.length ∧ i = .int .i64 k ∧ Below w.heap.size w wr) (fun i _ => xs.length - (intOf i).toNat)
  case atStart => exact ⟨0, Nat.zero_le _, rfl, Below.refl _ _⟩
  case round =>
    obtain ⟨k, hk, rfl, hbr⟩ := hrel
    by_cases hlt : k < xs.length
    · obtain ⟨bx, ox, rfl, hbx, hcx⟩ := h0 k xs[k] (List.getElem?_eq_getElem hlt)
      obtain ⟨by_, oy, rfl, hby, hcy⟩ := h1 k xs[k] (List.getElem?_eq_getElem hlt)
      have hx0 := hcx 0 _ rfl
      have hy0 := hcy 0 _ rfl
      simp only [Nat.add_zero, Nat.mul_one] at hx0 hy0
      clear hcx hcy h0 h1
      generalize xs[k] = x at *
      have hc : ∀ b o, b < w.heap.size → wr.cell? ⟨b, o, none⟩ = w.cell? ⟨b, o, none⟩ := fun b o hb => hbr.cell (p := ⟨b, o, none⟩) hb
      have hz := sizeOf hbr
      have rx0 := (hc _ _ hbx).trans hx0
      have ry0 := (hc _ _ hby).trans hy0
      clear hx0 hy0
      go_wp2_with (fail)
      go_region_held3 (fun w' => w'.cell? ⟨bx, ox + k, none⟩ = some (.int .i64 (x)) ∧ w'.cell? ⟨by_, oy + k, none⟩ = some (.int .i64 (x))) (first | assumption | exact ⟨rx0, ry0⟩) (fail)
      go_wp2_with (fail)
      go_roundw
      case rel => exact ⟨k + 1, by omega, by go_num, by (repeat' (first | exact Below.refl _ _ | assumption | refine Below.setCell ?_ ?_ _ | refine Below.drew ?_ | refine Below.alloc ?_ ?_ _ | refine Below.trans ?_ (Below.mono (by assumption) ?_) | (simp; done) | (simp; omega) | omega))⟩
      case measure => simp [intOf]; omega
    · obtain rfl : k = xs.length := by omega
      go_wp2_with (fail)
      go_ret
      exact ⟨rfl, by (repeat' (first | exact Below.refl _ _ | assumption | refine Below.setCell ?_ ?_ _ | refine Below.drew ?_ | refine Below.alloc ?_ ?_ _ | refine Below.trans ?_ (Below.mono (by assumption) ?_) | (simp; done) | (simp; omega) | omega))⟩

set_option maxRecDepth 100000 in
set_option maxHeartbeats 2000000 in
theorem c_laws_rHas (A : Option Addr) (xs : List Int) (cap : Nat) (x : Int) (w : World) (h0 : Rds cIn 1 w A xs) (hn : xs.length ≤ 1000000000) :
    Calls Try.prog 45 #[.slice A xs.length cap, .int .i64 x] w fun e w' => e = .returned (.bool (decide (x ∈ xs))) ∧ Below w.heap.size w w' := by
  go_enter Try.func45, Try.ntmps45
  go_wp2_with (fail)
  go_loopw [5] (fun i wr => ∃ k : Nat, k ≤ xs.length ∧ i = .int .i64 k ∧ (∀ q (hq : q < xs.length), q < k → xs[q] ≠ x) ∧ Below w.heap.size w wr) (fun i _ => xs.length - (intOf i).toNat)
  case atStart => exact ⟨0, Nat.zero_le _, rfl, fun q hq hk => absurd hk (Nat.not_lt_zero q), Below.refl _ _⟩
  case round =>
    obtain ⟨k, hk, rfl, hl, hbr⟩ := hrel
    have HL := hid hl
    clear hl
    by_cases hlt : k < xs.length
    · obtain ⟨bx, ox, rfl, hbx, hcx⟩ := h0 k xs[k] (List.getElem?_eq_getElem hlt)
      have hx0 := (hbr.cell (p := ⟨bx, _, none⟩) hbx).trans (hcx 0 _ rfl)
      simp only [Nat.add_zero, Nat.mul_one] at hx0
      clear hcx h0
      have hz := sizeOf hbr
      obtain ⟨y, hxy⟩ : ∃ y, y = xs[k] := ⟨_, rfl⟩
      simp only [← hxy] at hx0
      have HX := hid hxy
      clear hxy
      by_cases he : y = x
      · have HT : Hid (decide (x ∈ xs) = true) := by
          show decide (x ∈ xs) = true
          rw [decide_eq_true_eq, ← he, HX.out]
          exact List.getElem_mem hlt
        subst he
        go_wp2_with (fail)
        go_ret
        exact ⟨ret_bool (by rw [HT.out]), by (repeat' (first | exact Below.refl _ _ | assumption | refine Below.setCell ?_ ?_ _ | refine Below.drew ?_ | refine Below.alloc ?_ ?_ _ | refine Below.trans ?_ (Below.mono (by assumption) ?_) | (simp; done) | (simp; omega) | omega))⟩
      · go_wp2_with (fail)
        go_roundw
        case rel =>
          refine ⟨k + 1, by omega, by go_num, ?_, by (repeat' (first | exact Below.refl _ _ | assumption | refine Below.setCell ?_ ?_ _ | refine Below.drew ?_ | refine Below.alloc ?_ ?_ _ | refine Below.trans ?_ (Below.mono (by assumption) ?_) | (simp; done) | (simp; omega) | omega))⟩
          intro q hq hk1
          by_cases hqk : q < k
          · exact HL.out q hq hqk
          · have : q = k := by omega
            subst this
            rw [← HX.out]
            exact he
        case measure => simp [intOf]; omega
    · obtain rfl : k = xs.length := by omega
      have HT : Hid (decide (x ∈ xs) = false) := by
        show decide (x ∈ xs) = false
        rw [decide_eq_false_iff_not]
        intro hm
        obtain ⟨q, hq, e⟩ := List.mem_iff_getElem.1 hm
        exact HL.out q hq hq e
      go_wp2_with (fail)
      go_ret
      exact ⟨ret_bool (by rw [HT.out]), by (repeat' (first | exact Below.refl _ _ | assumption | refine Below.setCell ?_ ?_ _ | refine Below.drew ?_ | refine Below.alloc ?_ ?_ _ | refine Below.trans ?_ (Below.mono (by assumption) ?_) | (simp; done) | (simp; omega) | omega))⟩

end Go.Proofs.Ytfipmalomhflgaa
namespace Go.Proofs.Ytfipmalomhflgaa
set_option linter.unusedSimpArgs false
set_option linter.unusedVariables false
open Go.RowKit

set_option maxRecDepth 100000 in
set_option maxHeartbeats 2000000 in
theorem c_laws_rBerths (A0 A1 : Option Addr) (xs : List (Int × Int × Int × Int × Int)) (cap0 cap1 : Nat) (w : World) (h0 : Rds cBer 5 w A0 xs) (h1 : Rds cBer 5 w A1 xs) (hn : xs.length ≤ 1000000000) :
    Calls Try.prog 49 #[.slice A0 xs.length cap0, .slice A1 xs.length cap1] w fun e w' => e = .returned (.bool true) ∧ Below w.heap.size w w' := by
  go_enter Try.func49, Try.ntmps49
  go_wp2_with (fail)
  go_loopw [5] (fun i wr => ∃ k : Nat, k ≤ xs.length ∧ i = .int .i64 k ∧ Below w.heap.size w wr) (fun i _ => xs.length - (intOf i).toNat)
  case atStart => exact ⟨0, Nat.zero_le _, rfl, Below.refl _ _⟩
  case round =>
    obtain ⟨k, hk, rfl, hbr⟩ := hrel
    by_cases hlt : k < xs.length
    · obtain ⟨bx, ox, rfl, hbx, hcx⟩ := h0 k xs[k] (List.getElem?_eq_getElem hlt)
      obtain ⟨by_, oy, rfl, hby, hcy⟩ := h1 k xs[k] (List.getElem?_eq_getElem hlt)
      have hx0 := hcx 0 _ rfl
      have hx1 := hcx 1 _ rfl
      have hx2 := hcx 2 _ rfl
      have hx3 := hcx 3 _ rfl
      have hx4 := hcx 4 _ rfl
      have hy0 := hcy 0 _ rfl
      have hy1 := hcy 1 _ rfl
      have hy2 := hcy 2 _ rfl
      have hy3 := hcy 3 _ rfl
      have hy4 := hcy 4 _ rfl
      simp only [Nat.add_zero, Nat.mul_one] at hx0 hx1 hx2 hx3 hx4 hy0 hy1 hy2 hy3 hy4
      clear hcx hcy h0 h1
      generalize xs[k] = x at *
      have hc : ∀ b o, b < w.heap.size → wr.cell? ⟨b, o, none⟩ = w.cell? ⟨b, o, none⟩ := fun b o hb => hbr.cell (p := ⟨b, o, none⟩) hb
      have hz := sizeOf hbr
      have rx0 := (hc _ _ hbx).trans hx0
      have rx1 := (hc _ _ hbx).trans hx1
      have rx2 := (hc _ _ hbx).trans hx2
      have rx3 := (hc _ _ hbx).trans hx3
      have rx4 := (hc _ _ hbx).trans hx4
      have ry0 := (hc _ _ hby).trans hy0
      have ry1 := (hc _ _ hby).trans hy1
      have ry2 := (hc _ _ hby).trans hy2
      have ry3 := (hc _ _ hby).trans hy3
      have ry4 := (hc _ _ hby).trans hy4
      clear hx0 hx1 hx2 hx3 hx4 hy0 hy1 hy2 hy3 hy4
      go_wp2_with (fail)
      go_region_held3 (fun w' => w'.cell? ⟨bx, ox + k * 5, none⟩ = some (.int .i64 (x.1)) ∧ w'.cell? ⟨bx, ox + k * 5 + 1, none⟩ = some (.int .i64 (x.2.1)) ∧ w'.cell? ⟨bx, ox + k * 5 + 2, none⟩ = some (.int .i64 (x.2.2.1)) ∧ w'.cell? ⟨bx, ox + k * 5 + 3, none⟩ = some (.int .i64 (x.2.2.2.1)) ∧ w'.cell? ⟨bx, ox + k * 5 + 4, none⟩ = some (.int .i64 (x.2.2.2.2)) ∧ w'.cell? ⟨by_, oy + k * 5, none⟩ = some (.int .i64 (x.1)) ∧ w'.cell? ⟨by_, oy + k * 5 + 1, none⟩ = some (.int .i64 (x.2.1)) ∧ w'.cell? ⟨by_, oy + k * 5 + 2, none⟩ = some (.int .i64 (x.2.2.1)) ∧ w'.cell? ⟨by_, oy + k * 5 + 3, none⟩ = some (.int .i64 (x.2.2.2.1)) ∧ w'.cell? ⟨by_, oy + k * 5 + 4, none⟩ = some (.int .i64 (x.2.2.2.2))) (first | assumption | exact ⟨rx0, rx1, rx2, rx3, rx4, ry0, ry1, ry2, ry3, ry4⟩) (fail)
      go_wp2_with (fail)
      go_roundw
      case rel => exact ⟨k + 1, by omega, by go_num, by (repeat' (first | exact Below.refl _ _ | assumption | refine Below.setCell ?_ ?_ _ | refine Below.drew ?_ | refine Below.alloc ?_ ?_ _ | refine Below.trans ?_ (Below.mono (by assumption) ?_) | (simp; done) | (simp; omega) | omega))⟩
      case measure => simp [intOf]; omega
    · obtain rfl : k = xs.length := by omega
      go_wp2_with (fail)
      go_ret
      exact ⟨rfl, by (repeat' (first | exact Below.refl _ _ | assumption | refine Below.setCell ?_ ?_ _ | refine Below.drew ?_ | refine Below.alloc ?_ ?_ _ | refine Below.trans ?_ (Below.mono (by assumption) ?_) | (simp; done) | (simp; omega) | omega))⟩

end Go.Proofs.Ytfipmalomhflgaa
