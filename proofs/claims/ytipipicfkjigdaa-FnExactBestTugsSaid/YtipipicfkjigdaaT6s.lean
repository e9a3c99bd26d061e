import Derived.Test.YtipipicfkjigdaaT5
import Derived.Test.YtipipicfkjigdaaT2s
import Derived.Test.YtipipicfkjigdaaR1
namespace Go.Proofs.Ytipipicfkjigdaa
set_option linter.unusedSimpArgs false
set_option linter.unusedVariables false
open Go.RowKit

set_option maxRecDepth 100000 in
set_option maxHeartbeats 4000000 in
theorem c_spec_JobEnds (A : Option Addr) (ts : List TugT) (capt : Nat) (B : Option Addr) (js : List JobT) (capj : Nat) (C : Option Addr) (who : List Int) (capw : Nat) (w : World) (hx : Rds cTug 3 w A ts) (hn : ts.length ≤ 9223372036854775807) (hy : Rds cJob 5 w B js) (hm : js.length ≤ 9223372036854775807) (hr : Rds cIn 1 w C who) (hq : who.length ≤ 9223372036854775807) :
    Calls Try.prog 36 #[.slice A ts.length capt, .slice B js.length capj, .slice C who.length capw] w fun e w' => ∃ A' cap', e = .returned (.tuple #[.slice A' (endsV ts js who).1.length cap', .bool (endsV ts js who).2]) ∧ FreshA cIn 1 3 w.heap.size w' A' cap' (endsV ts js who).1 ∧ Below w.heap.size w w' := by
  by_cases hs0 : tplanB ts js who = true
  rotate_left
  · have hn0 : tplanB ts js who = false := Bool.eq_false_iff.2 hs0
    have HV := hid (show endsV ts js who = ([], false) by simp [endsV, hn0])
    clear hs0
    go_enter Try.func36, Try.ntmps36
    go_wp2_with (go_at_call 56; refine (c_spec_l17Asked _ _ _ _ _ _ _ _ _ _ (by first | assumption | exact Rds.below hx (by (repeat' (first | exact Below.refl _ _ | assumption | refine Below.setCell ?_ ?_ _ | refine Below.drew ?_ | refine Below.alloc ?_ ?_ _ | refine Below.trans ?_ (Below.mono (by assumption) ?_) | (simp; done) | (simp; omega) | omega)))) (by omega) (by first | assumption | exact Rds.below hy (by (repeat' (first | exact Below.refl _ _ | assumption | refine Below.setCell ?_ ?_ _ | refine Below.drew ?_ | refine Below.alloc ?_ ?_ _ | refine Below.trans ?_ (Below.mono (by assumption) ?_) | (simp; done) | (simp; omega) | omega)))) (by omega) (by first | assumption | exact Rds.below hr (by (repeat' (first | exact Below.refl _ _ | assumption | refine Below.setCell ?_ ?_ _ | refine Below.drew ?_ | refine Below.alloc ?_ ?_ _ | refine Below.trans ?_ (Below.mono (by assumption) ?_) | (simp; done) | (simp; omega) | omega)))) (by omega)).mono ?_; rintro e w' ⟨rfl, hb⟩; have hc := cellOf hb; have hf := frozOf hb; have hz := sizeOf hb; try simp at hz)
    go_ret2
    simp only [HV.out]
    exact ⟨_, _, rfl, FreshA.new (by first | omega | (simp at *; omega)), by (repeat' (first | exact Below.refl _ _ | assumption | refine Below.setCell ?_ ?_ _ | refine Below.drew ?_ | refine Below.alloc ?_ ?_ _ | refine Below.trans ?_ (Below.mono (by assumption) ?_) | (simp; done) | (simp; omega) | omega))⟩
  obtain ⟨ht4, hj5, hle, hok, hwb⟩ := tplan_facts hs0
  have HV := hid (show endsV ts js who = (endsK ts js who who.length, true) by simp [endsV, hs0])
  have hl2 : who.length ≤ js.length := by omega
  have HLL := hid (endsK_len (ts := ts) (js := js) (who := who) who.length)
  clear hle hwb
  go_enter Try.func36, Try.ntmps36
  go_wp2_with (first | (go_at_call 56; refine (c_spec_l17Asked _ _ _ _ _ _ _ _ _ _ (by first | assumption | exact Rds.below hx (by (repeat' (first | exact Below.refl _ _ | assumption | refine Below.setCell ?_ ?_ _ | refine Below.drew ?_ | refine Below.alloc ?_ ?_ _ | refine Below.trans ?_ (Below.mono (by assumption) ?_) | (simp; done) | (simp; omega) | omega)))) (by omega) (by first | assumption | exact Rds.below hy (by (repeat' (first | exact Below.refl _ _ | assumption | refine Below.setCell ?_ ?_ _ | refine Below.drew ?_ | refine Below.alloc ?_ ?_ _ | refine Below.trans ?_ (Below.mono (by assumption) ?_) | (simp; done) | (simp; omega) | omega)))) (by omega) (by first | assumption | exact Rds.below hr (by (repeat' (first | exact Below.refl _ _ | assumption | refine Below.setCell ?_ ?_ _ | refine Below.drew ?_ | refine Below.alloc ?_ ?_ _ | refine Below.trans ?_ (Below.mono (by assumption) ?_) | (simp; done) | (simp; omega) | omega)))) (by omega)).mono ?_; rintro e w' ⟨rfl, hb⟩; have hc := cellOf hb; have hf := frozOf hb; have hz := sizeOf hb; try simp at hz) | (go_at_call 60; refine (c_spec_l17Run _ ts _ _ js _ _ who _ _ (by first | assumption | exact Rds.below hx (by (repeat' (first | exact Below.refl _ _ | assumption | refine Below.setCell ?_ ?_ _ | refine Below.drew ?_ | refine Below.alloc ?_ ?_ _ | refine Below.trans ?_ (Below.mono (by assumption) ?_) | (simp; done) | (simp; omega) | omega)))) (by omega) (by first | assumption | exact Rds.below hy (by (repeat' (first | exact Below.refl _ _ | assumption | refine Below.setCell ?_ ?_ _ | refine Below.drew ?_ | refine Below.alloc ?_ ?_ _ | refine Below.trans ?_ (Below.mono (by assumption) ?_) | (simp; done) | (simp; omega) | omega)))) (by omega) (by first | assumption | exact Rds.below hr (by (repeat' (first | exact Below.refl _ _ | assumption | refine Below.setCell ?_ ?_ _ | refine Below.drew ?_ | refine Below.alloc ?_ ?_ _ | refine Below.trans ?_ (Below.mono (by assumption) ?_) | (simp; done) | (simp; omega) | omega)))) (by omega) ht4 hj5 hl2 hok).mono ?_; rintro e w' ⟨A8, c8, A9, c9, rfl, hF8, hF9, hb⟩; have HF8 := hid hF8; have HF9 := hid hF9; clear hF8 hF9; have hc := cellOf hb; have hf := frozOf hb; have hz := sizeOf hb; try simp at hz))
  go_ret2
  simp only [HV.out]
  exact ⟨A9, c9, by first | (rw [HLL.out]; done) | (rw [HLL.out]; rfl), HF9.out.mono (by first | omega | (simp; done) | (simp; omega) | (simp at *; omega)), by (repeat' (first | exact Below.refl _ _ | assumption | refine Below.setCell ?_ ?_ _ | refine Below.drew ?_ | refine Below.alloc ?_ ?_ _ | refine Below.trans ?_ (Below.mono (by assumption) ?_) | (simp; done) | (simp; omega) | omega))⟩
set_option maxRecDepth 100000 in
set_option maxHeartbeats 4000000 in
theorem c_spec_LastEnd (A : Option Addr) (ts : List TugT) (capt : Nat) (B : Option Addr) (js : List JobT) (capj : Nat) (C : Option Addr) (who : List Int) (capw : Nat) (w : World) (hx : Rds cTug 3 w A ts) (hn : ts.length ≤ 9223372036854775807) (hy : Rds cJob 5 w B js) (hm : js.length ≤ 9223372036854775807) (hr : Rds cIn 1 w C who) (hq : who.length ≤ 9223372036854775807) :
    Calls Try.prog 34 #[.slice A ts.length capt, .slice B js.length capj, .slice C who.length capw] w fun e w' => e = .returned (.tuple #[.int .i64 (lastV ts js who).1, .bool (lastV ts js who).2]) ∧ Below w.heap.size w w' := by
  by_cases hs0 : tplanB ts js who = true
  rotate_left
  · have hn0 : tplanB ts js who = false := Bool.eq_false_iff.2 hs0
    have HV := hid (show lastV ts js who = (0, false) by simp [lastV, hn0])
    clear hs0
    go_enter Try.func34, Try.ntmps34
    go_wp2_with (go_at_call 56; refine (c_spec_l17Asked _ _ _ _ _ _ _ _ _ _ (by first | assumption | exact Rds.below hx (by (repeat' (first | exact Below.refl _ _ | assumption | refine Below.setCell ?_ ?_ _ | refine Below.drew ?_ | refine Below.alloc ?_ ?_ _ | refine Below.trans ?_ (Below.mono (by assumption) ?_) | (simp; done) | (simp; omega) | omega)))) (by omega) (by first | assumption | exact Rds.below hy (by (repeat' (first | exact Below.refl _ _ | assumption | refine Below.setCell ?_ ?_ _ | refine Below.drew ?_ | refine Below.alloc ?_ ?_ _ | refine Below.trans ?_ (Below.mono (by assumption) ?_) | (simp; done) | (simp; omega) | omega)))) (by omega) (by first | assumption | exact Rds.below hr (by (repeat' (first | exact Below.refl _ _ | assumption | refine Below.setCell ?_ ?_ _ | refine Below.drew ?_ | refine Below.alloc ?_ ?_ _ | refine Below.trans ?_ (Below.mono (by assumption) ?_) | (simp; done) | (simp; omega) | omega)))) (by omega)).mono ?_; rintro e w' ⟨rfl, hb⟩; have hc := cellOf hb; have hf := frozOf hb; have hz := sizeOf hb; try simp at hz)
    go_ret2
    exact ⟨by first | (rw [HV.out]; done) | (rw [HV.out]; rfl), by (repeat' (first | exact Below.refl _ _ | assumption | refine Below.setCell ?_ ?_ _ | refine Below.drew ?_ | refine Below.alloc ?_ ?_ _ | refine Below.trans ?_ (Below.mono (by assumption) ?_) | (simp; done) | (simp; omega) | omega))⟩
  obtain ⟨ht4, hj5, hle, hok, hwb⟩ := tplan_facts hs0
  have hj6 := vB_len hj5
  have HV := hid (show lastV ts js who = (maxK ts js who who.length, true) by simp [lastV, hs0])
  have hl2 : who.length ≤ js.length := by omega
  have HLL := hid (endsK_len (ts := ts) (js := js) (who := who) who.length)
  clear hle hwb
  go_enter Try.func34, Try.ntmps34
  go_wp2_with (first | (go_at_call 56; refine (c_spec_l17Asked _ _ _ _ _ _ _ _ _ _ (by first | assumption | exact Rds.below hx (by (repeat' (first | exact Below.refl _ _ | assumption | refine Below.setCell ?_ ?_ _ | refine Below.drew ?_ | refine Below.alloc ?_ ?_ _ | refine Below.trans ?_ (Below.mono (by assumption) ?_) | (simp; done) | (simp; omega) | omega)))) (by omega) (by first | assumption | exact Rds.below hy (by (repeat' (first | exact Below.refl _ _ | assumption | refine Below.setCell ?_ ?_ _ | refine Below.drew ?_ | refine Below.alloc ?_ ?_ _ | refine Below.trans ?_ (Below.mono (by assumption) ?_) | (simp; done) | (simp; omega) | omega)))) (by omega) (by first | assumption | exact Rds.below hr (by (repeat' (first | exact Below.refl _ _ | assumption | refine Below.setCell ?_ ?_ _ | refine Below.drew ?_ | refine Below.alloc ?_ ?_ _ | refine Below.trans ?_ (Below.mono (by assumption) ?_) | (simp; done) | (simp; omega) | omega)))) (by omega)).mono ?_; rintro e w' ⟨rfl, hb⟩; have hc := cellOf hb; have hf := frozOf hb; have hz := sizeOf hb; try simp at hz) | (go_at_call 60; refine (c_spec_l17Run _ ts _ _ js _ _ who _ _ (by first | assumption | exact Rds.below hx (by (repeat' (first | exact Below.refl _ _ | assumption | refine Below.setCell ?_ ?_ _ | refine Below.drew ?_ | refine Below.alloc ?_ ?_ _ | refine Below.trans ?_ (Below.mono (by assumption) ?_) | (simp; done) | (simp; omega) | omega)))) (by omega) (by first | assumption | exact Rds.below hy (by (repeat' (first | exact Below.refl _ _ | assumption | refine Below.setCell ?_ ?_ _ | refine Below.drew ?_ | refine Below.alloc ?_ ?_ _ | refine Below.trans ?_ (Below.mono (by assumption) ?_) | (simp; done) | (simp; omega) | omega)))) (by omega) (by first | assumption | exact Rds.below hr (by (repeat' (first | exact Below.refl _ _ | assumption | refine Below.setCell ?_ ?_ _ | refine Below.drew ?_ | refine Below.alloc ?_ ?_ _ | refine Below.trans ?_ (Below.mono (by assumption) ?_) | (simp; done) | (simp; omega) | omega)))) (by omega) ht4 hj5 hl2 hok).mono ?_; rintro e w' ⟨A8, c8, A9, c9, rfl, hF8, hF9, hb⟩; have HF8 := hid hF8; have HF9 := hid hF9; clear hF8 hF9; have hc := cellOf hb; have hf := frozOf hb; have hz := sizeOf hb; try simp at hz))
  go_loopw [10, 11] (fun m i wr => ∃ k : Nat, k ≤ who.length ∧ i = .int .i64 k ∧ m = .int .i64 (maxK ts js who k) ∧ Below w.heap.size w wr ∧ Rds cIn 1 wr A9 (endsK ts js who who.length)) (fun _ i _ => who.length - (intOf i).toNat)
  case atStart => exact ⟨0, Nat.zero_le _, rfl, rfl, by (repeat' (first | exact Below.refl _ _ | assumption | refine Below.setCell ?_ ?_ _ | refine Below.drew ?_ | refine Below.alloc ?_ ?_ _ | refine Below.trans ?_ (Below.mono (by assumption) ?_) | (simp; done) | (simp; omega) | omega)), HF9.out.rds.below (by (repeat' (first | exact Below.refl _ _ | assumption | refine Below.setCell ?_ ?_ _ | refine Below.drew ?_ | refine Below.alloc ?_ ?_ _ | refine Below.trans ?_ (Below.mono (by assumption) ?_) | (simp; done) | (simp; omega) | omega)))⟩
  case round =>
    obtain ⟨k, hk, rfl, rfl, hbr, hrr⟩ := hrel
    by_cases hlt : k < who.length
    · obtain ⟨b9, o9, rfl, hb9, hc9⟩ := hrr k (endK ts js who k) (by unfold endsK; rw [List.getElem?_map, List.getElem?_range hlt]; rfl)
      have hx0 := hc9 0 _ rfl
      simp only [Nat.add_zero, Nat.mul_one] at hx0
      have HRR := hid hrr
      have HS : Hid (maxK ts js who (k + 1) = max (maxK ts js who k) (endK ts js who k)) := rfl
      have hmb := maxK_bd (who := who) ht4 hj5 k (by omega)
      have heb := endK_bd (who := who) ht4 hj5 k
      clear hc9 hrr hc hf hz hb
      generalize endK ts js who k = x at *
      generalize maxK ts js who k = mk at *
      go_wp2_with (go_at_call 61; refine (p_most _ _ _).mono ?_; rintro e w' ⟨rfl, hw9⟩; rw [hw9]; clear hw9 w')
      go_roundw
      case rel => exact ⟨k + 1, by omega, by go_num, by rw [HS.out], hbr, HRR.out⟩
      case measure => simp [intOf]; omega
    · obtain rfl : k = who.length := by omega
      go_wp2_with (fail)
      go_ret2
      exact ⟨by first | (rw [HV.out]; done) | (rw [HV.out]; rfl), by (repeat' (first | exact Below.refl _ _ | assumption | refine Below.setCell ?_ ?_ _ | refine Below.drew ?_ | refine Below.alloc ?_ ?_ _ | refine Below.trans ?_ (Below.mono (by assumption) ?_) | (simp; done) | (simp; omega) | omega))⟩
set_option maxRecDepth 100000 in
set_option maxHeartbeats 4000000 in
theorem c_spec_l17Waiting (A : Option Addr) (ts : List TugT) (capt : Nat) (B : Option Addr) (js : List JobT) (capj : Nat) (C : Option Addr) (who : List Int) (capw : Nat) (w : World) (hx : Rds cTug 3 w A ts) (hn : ts.length ≤ 9223372036854775807) (hy : Rds cJob 5 w B js) (hm : js.length ≤ 9223372036854775807) (hr : Rds cIn 1 w C who) (hq : who.length ≤ 9223372036854775807) (ht4 : vB tugOk tugLt 4 ts = true) (hj5 : vB jobOk jobLt 5 js = true) (hl2 : who.length ≤ js.length) (hok : ∀ k (hk : k < who.length), 0 ≤ tix ts who[k]) :
    Calls Try.prog 57 #[.slice A ts.length capt, .slice B js.length capj, .slice C who.length capw] w fun e w' => e = .returned (.int .i64 (waitK ts js who who.length)) ∧ Below w.heap.size w w' := by
  have hj6 := vB_len hj5
  have HY := hid hy
  have HLL := hid (begsK_len (ts := ts) (js := js) (who := who) who.length)
  go_enter Try.func57, Try.ntmps57
  go_wp2_with (go_at_call 60; refine (c_spec_l17Run _ ts _ _ js _ _ who _ _ (by first | assumption | exact Rds.below hx (by (repeat' (first | exact Below.refl _ _ | assumption | refine Below.setCell ?_ ?_ _ | refine Below.drew ?_ | refine Below.alloc ?_ ?_ _ | refine Below.trans ?_ (Below.mono (by assumption) ?_) | (simp; done) | (simp; omega) | omega)))) (by omega) (by first | assumption | exact Rds.below hy (by (repeat' (first | exact Below.refl _ _ | assumption | refine Below.setCell ?_ ?_ _ | refine Below.drew ?_ | refine Below.alloc ?_ ?_ _ | refine Below.trans ?_ (Below.mono (by assumption) ?_) | (simp; done) | (simp; omega) | omega)))) (by omega) (by first | assumption | exact Rds.below hr (by (repeat' (first | exact Below.refl _ _ | assumption | refine Below.setCell ?_ ?_ _ | refine Below.drew ?_ | refine Below.alloc ?_ ?_ _ | refine Below.trans ?_ (Below.mono (by assumption) ?_) | (simp; done) | (simp; omega) | omega)))) (by omega) ht4 hj5 hl2 hok).mono ?_; rintro e w' ⟨A9, c9, A8, c8, rfl, hF9, hF8, hb⟩; have HF8 := hid hF8; have HF9 := hid hF9; clear hF8 hF9; have hc := cellOf hb; have hf := frozOf hb; have hz := sizeOf hb; try simp at hz)
  go_loopw [9, 10] (fun m i wr => ∃ k : Nat, k ≤ who.length ∧ i = .int .i64 k ∧ m = .int .i64 (waitK ts js who k) ∧ Below w.heap.size w wr ∧ Rds cIn 1 wr A9 (begsK ts js who who.length)) (fun _ i _ => who.length - (intOf i).toNat)
  case atStart => exact ⟨0, Nat.zero_le _, rfl, rfl, by (repeat' (first | exact Below.refl _ _ | assumption | refine Below.setCell ?_ ?_ _ | refine Below.drew ?_ | refine Below.alloc ?_ ?_ _ | refine Below.trans ?_ (Below.mono (by assumption) ?_) | (simp; done) | (simp; omega) | omega)), HF9.out.rds.below (by (repeat' (first | exact Below.refl _ _ | assumption | refine Below.setCell ?_ ?_ _ | refine Below.drew ?_ | refine Below.alloc ?_ ?_ _ | refine Below.trans ?_ (Below.mono (by assumption) ?_) | (simp; done) | (simp; omega) | omega)))⟩
  case round =>
    obtain ⟨k, hk, rfl, rfl, hbr, hrr⟩ := hrel
    by_cases hlt : k < who.length
    · have hltj : k < js.length := by omega
      obtain ⟨b9, o9, rfl, hb9, hc9⟩ := hrr k (begK ts js who k) (by unfold begsK; rw [List.getElem?_map, List.getElem?_range hlt]; rfl)
      have hx0 := hc9 0 _ rfl
      simp only [Nat.add_zero, Nat.mul_one] at hx0
      obtain ⟨bj, oj, hjA, hbj, hcj⟩ := HY.out k js[k] (List.getElem?_eq_getElem hltj)
      have hj4 := hcj 4 _ rfl
      have hj4r : wr.cell? ⟨bj, oj + k * 5 + 4, none⟩ = some (.int .i64 js[k].2.2.2.2) := (hbr.cell (p := ⟨bj, _, none⟩) hbj).trans hj4
      have HRR := hid hrr
      have HS : Hid (waitK ts js who (k + 1) = waitK ts js who k + (begK ts js who k - js[k].2.2.2.2)) := by
        show waitK ts js who k + (begK ts js who k - (js.getD k j0).2.2.2.2) = _
        rw [List.getD_eq_getElem?_getD, List.getElem?_eq_getElem hltj]; rfl
      have hjb := jobOk_bd (vB_at hj5 k hltj)
      have hmb := waitK_bd (who := who) ht4 hj5 k (by omega)
      have heb := begK_bd (who := who) ht4 hj5 k
      subst hjA
      clear hc9 hrr hcj hc hf hz hb
      generalize begK ts js who k = x at *
      generalize waitK ts js who k = mk at *
      generalize js[k] = j at *
      have hgd := getD_job hj5 k
      have hwr1 := wr_id2 (x := mk + x) (by omega)
      have hwr2 := wr_id2 (x := mk + x - j.2.2.2.2) (by omega)
      go_wp2_with (fail)
      go_region_held3 (fun w' => w'.cell? ⟨b9, o9 + k, none⟩ = some (.int .i64 x) ∧ w'.cell? ⟨bj, oj + k * 5 + 4, none⟩ = some (.int .i64 j.2.2.2.2)) (first | assumption | exact ⟨hx0, hj4r⟩) (fail)
      go_wp2_with (fail)
      go_roundw
      case rel => exact ⟨k + 1, by omega, by go_num, by rw [HS.out]; exact congrArg (Value.int .i64) (by omega), by (repeat' (first | exact Below.refl _ _ | assumption | refine Below.setCell ?_ ?_ _ | refine Below.drew ?_ | refine Below.alloc ?_ ?_ _ | refine Below.trans ?_ (Below.mono (by assumption) ?_) | (simp; done) | (simp; omega) | omega)), HRR.out⟩
      case measure => simp [intOf]; omega
    · obtain rfl : k = who.length := by omega
      go_wp2_with (fail)
      go_ret
      exact ⟨rfl, by (repeat' (first | exact Below.refl _ _ | assumption | refine Below.setCell ?_ ?_ _ | refine Below.drew ?_ | refine Below.alloc ?_ ?_ _ | refine Below.trans ?_ (Below.mono (by assumption) ?_) | (simp; done) | (simp; omega) | omega))⟩
set_option maxRecDepth 100000 in
set_option maxHeartbeats 4000000 in
theorem c_spec_WaitingTicks (A : Option Addr) (ts : List TugT) (capt : Nat) (B : Option Addr) (js : List JobT) (capj : Nat) (C : Option Addr) (who : List Int) (capw : Nat) (w : World) (hx : Rds cTug 3 w A ts) (hn : ts.length ≤ 9223372036854775807) (hy : Rds cJob 5 w B js) (hm : js.length ≤ 9223372036854775807) (hr : Rds cIn 1 w C who) (hq : who.length ≤ 9223372036854775807) :
    Calls Try.prog 31 #[.slice A ts.length capt, .slice B js.length capj, .slice C who.length capw] w fun e w' => e = .returned (.tuple #[.int .i64 (waitsV ts js who).1, .bool (waitsV ts js who).2]) ∧ Below w.heap.size w w' := by
  by_cases hs0 : tplanB ts js who = true
  rotate_left
  · have hn0 : tplanB ts js who = false := Bool.eq_false_iff.2 hs0
    have HV := hid (show waitsV ts js who = (0, false) by simp [waitsV, hn0])
    clear hs0
    go_enter Try.func31, Try.ntmps31
    go_wp2_with (go_at_call 56; refine (c_spec_l17Asked _ _ _ _ _ _ _ _ _ _ (by first | assumption | exact Rds.below hx (by (repeat' (first | exact Below.refl _ _ | assumption | refine Below.setCell ?_ ?_ _ | refine Below.drew ?_ | refine Below.alloc ?_ ?_ _ | refine Below.trans ?_ (Below.mono (by assumption) ?_) | (simp; done) | (simp; omega) | omega)))) (by omega) (by first | assumption | exact Rds.below hy (by (repeat' (first | exact Below.refl _ _ | assumption | refine Below.setCell ?_ ?_ _ | refine Below.drew ?_ | refine Below.alloc ?_ ?_ _ | refine Below.trans ?_ (Below.mono (by assumption) ?_) | (simp; done) | (simp; omega) | omega)))) (by omega) (by first | assumption | exact Rds.below hr (by (repeat' (first | exact Below.refl _ _ | assumption | refine Below.setCell ?_ ?_ _ | refine Below.drew ?_ | refine Below.alloc ?_ ?_ _ | refine Below.trans ?_ (Below.mono (by assumption) ?_) | (simp; done) | (simp; omega) | omega)))) (by omega)).mono ?_; rintro e w' ⟨rfl, hb⟩; have hc := cellOf hb; have hf := frozOf hb; have hz := sizeOf hb; try simp at hz)
    go_ret2
    exact ⟨by first | (rw [HV.out]; done) | (rw [HV.out]; rfl), by (repeat' (first | exact Below.refl _ _ | assumption | refine Below.setCell ?_ ?_ _ | refine Below.drew ?_ | refine Below.alloc ?_ ?_ _ | refine Below.trans ?_ (Below.mono (by assumption) ?_) | (simp; done) | (simp; omega) | omega))⟩
  obtain ⟨ht4, hj5, hle, hok, hwb⟩ := tplan_facts hs0
  have HV := hid (show waitsV ts js who = (waitK ts js who who.length, true) by simp [waitsV, hs0])
  have hl2 : who.length ≤ js.length := by omega
  clear hle hwb
  go_enter Try.func31, Try.ntmps31
  go_wp2_with (first | (go_at_call 56; refine (c_spec_l17Asked _ _ _ _ _ _ _ _ _ _ (by first | assumption | exact Rds.below hx (by (repeat' (first | exact Below.refl _ _ | assumption | refine Below.setCell ?_ ?_ _ | refine Below.drew ?_ | refine Below.alloc ?_ ?_ _ | refine Below.trans ?_ (Below.mono (by assumption) ?_) | (simp; done) | (simp; omega) | omega)))) (by omega) (by first | assumption | exact Rds.below hy (by (repeat' (first | exact Below.refl _ _ | assumption | refine Below.setCell ?_ ?_ _ | refine Below.drew ?_ | refine Below.alloc ?_ ?_ _ | refine Below.trans ?_ (Below.mono (by assumption) ?_) | (simp; done) | (simp; omega) | omega)))) (by omega) (by first | assumption | exact Rds.below hr (by (repeat' (first | exact Below.refl _ _ | assumption | refine Below.setCell ?_ ?_ _ | refine Below.drew ?_ | refine Below.alloc ?_ ?_ _ | refine Below.trans ?_ (Below.mono (by assumption) ?_) | (simp; done) | (simp; omega) | omega)))) (by omega)).mono ?_; rintro e w' ⟨rfl, hb⟩; have hc := cellOf hb; have hf := frozOf hb; have hz := sizeOf hb; try simp at hz) | (go_at_call 57; refine (c_spec_l17Waiting _ ts _ _ js _ _ who _ _ (by first | assumption | exact Rds.below hx (by (repeat' (first | exact Below.refl _ _ | assumption | refine Below.setCell ?_ ?_ _ | refine Below.drew ?_ | refine Below.alloc ?_ ?_ _ | refine Below.trans ?_ (Below.mono (by assumption) ?_) | (simp; done) | (simp; omega) | omega)))) (by omega) (by first | assumption | exact Rds.below hy (by (repeat' (first | exact Below.refl _ _ | assumption | refine Below.setCell ?_ ?_ _ | refine Below.drew ?_ | refine Below.alloc ?_ ?_ _ | refine Below.trans ?_ (Below.mono (by assumption) ?_) | (simp; done) | (simp; omega) | omega)))) (by omega) (by first | assumption | exact Rds.below hr (by (repeat' (first | exact Below.refl _ _ | assumption | refine Below.setCell ?_ ?_ _ | refine Below.drew ?_ | refine Below.alloc ?_ ?_ _ | refine Below.trans ?_ (Below.mono (by assumption) ?_) | (simp; done) | (simp; omega) | omega)))) (by omega) ht4 hj5 hl2 hok).mono ?_; rintro e w' ⟨rfl, hb⟩; have hc := cellOf hb; have hf := frozOf hb; have hz := sizeOf hb; try simp at hz))
  go_ret2
  exact ⟨by first | (rw [HV.out]; done) | (rw [HV.out]; rfl), by (repeat' (first | exact Below.refl _ _ | assumption | refine Below.setCell ?_ ?_ _ | refine Below.drew ?_ | refine Below.alloc ?_ ?_ _ | refine Below.trans ?_ (Below.mono (by assumption) ?_) | (simp; done) | (simp; omega) | omega))⟩

end Go.Proofs.Ytipipicfkjigdaa
