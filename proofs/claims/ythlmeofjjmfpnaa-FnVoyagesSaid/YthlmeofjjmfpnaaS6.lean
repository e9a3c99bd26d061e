import Derived.Test.YthlmeofjjmfpnaaS6a
import Derived.Test.YthlmeofjjmfpnaaS5
import Derived.Test.YthlmeofjjmfpnaaT1
namespace Go.Proofs.Ythlmeofjjmfpnaa
set_option linter.unusedSimpArgs false
set_option linter.unusedVariables false
open Go.RowKit

set_option maxHeartbeats 1000000 in
theorem c_impl_wholeLeg (A : Option Addr) (xs : List (Int × Int)) (cap : Nat) (w : World) (hx : Rds cLeg 2 w A xs) (hn : xs.length ≤ 9223372036854775807) :
    Calls Try.prog 70 #[.slice A xs.length cap] w fun e w' => e = .returned (.agg #[.int .i64 (wholeW xs).1, .int .i64 (wholeW xs).2]) ∧ Below w.heap.size w w' := by
  go_enter Try.func70, Try.ntmps70
  go_wp2_with (fail)
  go_loopw [9] (fun i wr => ∃ k : Nat, k ≤ xs.length ∧ i = .int .i64 k ∧ wr.cell? ⟨w.heap.size, 0, none⟩ = some (.int .i64 0) ∧ wr.cell? ⟨w.heap.size, 1, none⟩ = some (.int .i64 0) ∧ wr.cell? ⟨w.heap.size + 1, 0, none⟩ = some (.int .i64 (wholeW (xs.take k)).1) ∧ wr.cell? ⟨w.heap.size + 1, 1, none⟩ = some (.int .i64 (wholeW (xs.take k)).2)
     ∧ (∀ o, wr.frozen? ⟨w.heap.size, o, none⟩ = false) ∧ (∀ o, wr.frozen? ⟨w.heap.size + 1, o, none⟩ = false) ∧ w.heap.size + 2 ≤ wr.heap.size ∧ Below w.heap.size w wr) (fun i _ => xs.length - (intOf i).toNat)
  case atStart => exact ⟨0, Nat.zero_le _, rfl, by simp [go_sem], by simp [go_sem], by simp [go_sem, wholeW], by simp [go_sem, wholeW], by simp [go_sem], by simp [go_sem], by simp, ((Below.refl _ _).alloc (Nat.le_refl _) _).alloc (by simp) _⟩
  case round =>
    obtain ⟨k, hk, rfl, ha0, ha1, hb0, hb1, hf0, hf1, hz, hbr⟩ := hrel
    by_cases hlt : k < xs.length
    · obtain ⟨b, off, rfl, hbb, hcc⟩ := hx k xs[k] (List.getElem?_eq_getElem hlt)
      have h0 := hcc 0 _ rfl
      have h1 := hcc 1 _ rfl
      simp only [Nat.add_zero] at h0
      clear hx hcc
      have HS := hid (wholeW_snoc xs k hlt)
      generalize xs[k] = x at *
      generalize wholeW (xs.take k) = s at *
      have hc := cellOf hbr
      have ha0' : far wr w.heap.size 0 = _ := ha0
      have ha1' : far wr w.heap.size 1 = _ := ha1
      have hb0' : far wr (w.heap.size + 1) 0 = _ := hb0
      have hb1' : far wr (w.heap.size + 1) 1 = _ := hb1
      go_wp2_with (fail)
      go_roundw
      case rel =>
        refine ⟨k + 1, by omega, by go_num, ?_, ?_, ?_, ?_, ?_, ?_, ?_, ?_⟩
        all_goals first | omega | (simp [go_sem, ↓IntWalk.iteOmega, HS.out, *]; done) | (intro o; simp [go_sem, ↓IntWalk.iteOmega, *]; done) | (simp; omega) | ((repeat' (first | exact Below.refl _ _ | assumption | refine Below.setCell ?_ ?_ _ | refine Below.drew ?_ | refine Below.alloc ?_ ?_ _ | refine Below.trans ?_ (Below.mono (by assumption) ?_) | (simp; done) | (simp; omega) | omega)); done)
      case measure => simp [intOf]; omega
    · obtain rfl : k = xs.length := by omega
      rw [List.take_length] at hb0 hb1
      go_wp2_with (fail)
      refine bodyPost_ret (v := .agg #[.int .i64 (wholeW xs).1, .int .i64 (wholeW xs).2]) ?_ rfl ⟨rfl, ?_⟩
      · simp [results, Try.results70, go_sem, ↓IntWalk.iteOmega, *]
      · (repeat' (first | exact Below.refl _ _ | assumption | refine Below.setCell ?_ ?_ _ | refine Below.drew ?_ | refine Below.alloc ?_ ?_ _ | refine Below.trans ?_ (Below.mono (by assumption) ?_) | (simp; done) | (simp; omega) | omega))

set_option maxHeartbeats 1000000 in
theorem c_spec_l13Legs (A : Option Addr) (xs : List (Int × Int)) (cap : Nat) (w : World) (hx : Rds cLeg 2 w A xs) (hn : xs.length ≤ 9223372036854775807) :
    Calls Try.prog 67 #[.slice A xs.length cap] w fun e w' => e = .returned (.bool (voyB xs)) ∧ Below w.heap.size w w' := by
  go_enter Try.func67, Try.ntmps67
  go_wp2_with (fail)
  go_loopw [3] (fun i wr => ∃ k : Nat, k ≤ xs.length ∧ i = .int .i64 k ∧ legsB (xs.take k) = true ∧ Below w.heap.size w wr) (fun i _ => xs.length - (intOf i).toNat)
  case atStart => exact ⟨0, Nat.zero_le _, rfl, rfl, Below.refl _ _⟩
  case round =>
    obtain ⟨k, hk, rfl, hl, hbr⟩ := hrel
    by_cases hlt : k < xs.length
    · obtain ⟨b, off, rfl, hbb, hcc⟩ := hx k xs[k] (List.getElem?_eq_getElem hlt)
      have h0 := hcc 0 _ rfl
      have h1 := hcc 1 _ rfl
      simp only [Nat.add_zero] at h0
      clear hx hcc
      have hc := cellOf hbr
      have hf := frozOf hbr
      have hz := sizeOf hbr
      by_cases hg : legB xs[k].1 xs[k].2 = true
      · have hts := legsB_snoc xs k hlt
        have HL : Hid (legsB (xs.take (k + 1)) = true) := by show _ = _; rw [hts, hl, hg]; rfl
        clear hts hl
        go_wp2_with (go_at_call 61; refine (c_spec_l13Leg _ _ _).mono ?_; rintro e w' ⟨rfl, hb⟩)
        go_roundw
        case rel => exact ⟨k + 1, by omega, by go_num, HL.out, hbr.trans (hb.mono hz)⟩
        case measure => simp [intOf]; omega
      · have hg' : legB xs[k].1 xs[k].2 = false := by simpa using hg
        have HL : Hid (voyB xs = false) := by show _ = _; rw [voyB, legsB_not xs k hlt hg']; rfl
        clear hg hl
        go_wp2_with (go_at_call 61; refine (c_spec_l13Leg _ _ _).mono ?_; rintro e w' ⟨rfl, hb⟩)
        go_ret
        exact ⟨ret_bool (by rw [HL.out]), hbr.trans (hb.mono hz)⟩
    · obtain rfl : k = xs.length := by omega
      have HL : Hid (legsB xs = true) := by show _ = _; rw [← hl, List.take_length]
      go_wp2_with (fail)
      go_ret
      exact ⟨ret_bool (by rw [voyB, HL.out]; simp; omega), hbr⟩

set_option maxHeartbeats 400000 in
theorem c_impl_isVoyage (A : Option Addr) (xs : List (Int × Int)) (cap : Nat) (w : World) (hx : Rds cLeg 2 w A xs) (hn : xs.length ≤ 9223372036854775807) :
    Calls Try.prog 69 #[.slice A xs.length cap] w fun e w' => e = .returned (.bool (voyB xs)) ∧ Below w.heap.size w w' := by
  by_cases hs0 : decide (xs.length ≤ 8) = true
  rotate_left
  · have hn : decide (xs.length ≤ 8) = false := Bool.eq_false_iff.2 hs0
    clear hs0
    go_enter Try.func69, Try.ntmps69
    go_wp2_with (first | (go_at_call 81; refine (c_has_isVoyage _ _ _ _ (by first | assumption | exact Rds.below hx (by (repeat' (first | exact Below.refl _ _ | assumption | refine Below.setCell ?_ ?_ _ | refine Below.drew ?_ | refine Below.alloc ?_ ?_ _ | refine Below.trans ?_ (Below.mono (by assumption) ?_) | (simp; done) | (simp; omega) | omega)))) (by omega)).mono ?_; rintro e w' ⟨rfl, hb⟩; have hc := cellOf hb; have hf := frozOf hb; have hz := sizeOf hb; try simp at hz))
    all_goals go_ret
    all_goals
      refine ⟨ret_bool ?_, ?_⟩
      · first | rfl | omega | (simp [voyB, voyB_any, hn]; done) | (simp [voyB, voyB_any, hn]; omega) | (simp [voyB, voyB_any, hn]; (repeat' split) <;> (first | omega | (simp; done) | (simp; omega))) | (simp_all [voyB, voyB_any]; done) | (simp_all [voyB, voyB_any]; omega)
      · (repeat' (first | exact Below.refl _ _ | assumption | refine Below.setCell ?_ ?_ _ | refine Below.drew ?_ | refine Below.alloc ?_ ?_ _ | refine Below.trans ?_ (Below.mono (by assumption) ?_) | (simp; done) | (simp; omega) | omega))
  have hbd0 := of_decide_eq_true hs0
  go_enter Try.func69, Try.ntmps69
  go_wp2_with (first | (go_at_call 81; refine (c_has_isVoyage _ _ _ _ (by first | assumption | exact Rds.below hx (by (repeat' (first | exact Below.refl _ _ | assumption | refine Below.setCell ?_ ?_ _ | refine Below.drew ?_ | refine Below.alloc ?_ ?_ _ | refine Below.trans ?_ (Below.mono (by assumption) ?_) | (simp; done) | (simp; omega) | omega)))) (by omega)).mono ?_; rintro e w' ⟨rfl, hb⟩; have hc := cellOf hb; have hf := frozOf hb; have hz := sizeOf hb; try simp at hz))
  all_goals go_ret
  all_goals
    refine ⟨ret_bool ?_, ?_⟩
    · first | rfl | omega | (simp [voyB, voyB_any, hs0]; done) | (simp [voyB, voyB_any, hs0]; omega) | (simp [voyB, voyB_any, hs0]; (repeat' split) <;> (first | omega | (simp; done) | (simp; omega))) | (simp_all [voyB, voyB_any]; done) | (simp_all [voyB, voyB_any]; omega)
    · (repeat' (first | exact Below.refl _ _ | assumption | refine Below.setCell ?_ ?_ _ | refine Below.drew ?_ | refine Below.alloc ?_ ?_ _ | refine Below.trans ?_ (Below.mono (by assumption) ?_) | (simp; done) | (simp; omega) | omega))

end Go.Proofs.Ythlmeofjjmfpnaa
