import Derived.Test.YtipipicfkjigdaaT5
import Derived.Test.YtipipicfkjigdaaT2i
import Derived.Test.YtipipicfkjigdaaM1
namespace Go.Proofs.Ytipipicfkjigdaa
set_option linter.unusedSimpArgs false
set_option linter.unusedVariables false
open Go.RowKit

set_option maxRecDepth 100000 in
set_option maxHeartbeats 4000000 in
theorem c_impl_JobEnds (A : Option Addr) (ts : List TugT) (capt : Nat) (B : Option Addr) (js : List JobT) (capj : Nat) (C : Option Addr) (who : List Int) (capw : Nat) (w : World) (hx : Rds cTug 3 w A ts) (hn : ts.length ≤ 9223372036854775807) (hy : Rds cJob 5 w B js) (hm : js.length ≤ 9223372036854775807) (hr : Rds cIn 1 w C who) (hq : who.length ≤ 9223372036854775807) :
    Calls Try.prog 37 #[.slice A ts.length capt, .slice B js.length capj, .slice C who.length capw] w fun e w' => ∃ A' cap', e = .returned (.tuple #[.slice A' (endsV ts js who).1.length cap', .bool (endsV ts js who).2]) ∧ FreshA cIn 1 3 w.heap.size w' A' cap' (endsV ts js who).1 ∧ Below w.heap.size w w' := by
  have kf0 : ∀ (a0 a1 a2 a3 : Value) (w : World), (Instr.field 76 (.agg #[a0, a1, a2, a3]) 0).run Try.prog w = .ok a0 w := fun _ _ _ _ _ => by kernel_rfl
  have kf1 : ∀ (a0 a1 a2 a3 : Value) (w : World), (Instr.field 76 (.agg #[a0, a1, a2, a3]) 1).run Try.prog w = .ok a1 w := fun _ _ _ _ _ => by kernel_rfl
  have kf2 : ∀ (a0 a1 a2 a3 : Value) (w : World), (Instr.field 76 (.agg #[a0, a1, a2, a3]) 2).run Try.prog w = .ok a2 w := fun _ _ _ _ _ => by kernel_rfl
  have kf3 : ∀ (a0 a1 a2 a3 : Value) (w : World), (Instr.field 76 (.agg #[a0, a1, a2, a3]) 3).run Try.prog w = .ok a3 w := fun _ _ _ _ _ => by kernel_rfl
  by_cases hs0 : tplanB ts js who = true
  rotate_left
  · have hn0 : tplanB ts js who = false := Bool.eq_false_iff.2 hs0
    have HV := hid (show endsV ts js who = ([], false) by simp [endsV, hn0])
    clear hs0
    go_enter Try.func37, Try.ntmps37
    go_wp2_with (go_at_call 58; refine (c_impl_isTugPlan _ _ _ _ _ _ _ _ _ _ (by first | assumption | exact Rds.below hx (by (repeat' (first | exact Below.refl _ _ | assumption | refine Below.setCell ?_ ?_ _ | refine Below.drew ?_ | refine Below.alloc ?_ ?_ _ | refine Below.trans ?_ (Below.mono (by assumption) ?_) | (simp; done) | (simp; omega) | omega)))) (by omega) (by first | assumption | exact Rds.below hy (by (repeat' (first | exact Below.refl _ _ | assumption | refine Below.setCell ?_ ?_ _ | refine Below.drew ?_ | refine Below.alloc ?_ ?_ _ | refine Below.trans ?_ (Below.mono (by assumption) ?_) | (simp; done) | (simp; omega) | omega)))) (by omega) (by first | assumption | exact Rds.below hr (by (repeat' (first | exact Below.refl _ _ | assumption | refine Below.setCell ?_ ?_ _ | refine Below.drew ?_ | refine Below.alloc ?_ ?_ _ | refine Below.trans ?_ (Below.mono (by assumption) ?_) | (simp; done) | (simp; omega) | omega)))) (by omega)).mono ?_; rintro e w' ⟨rfl, hb⟩; have hc := cellOf hb; have hf := frozOf hb; have hz := sizeOf hb; try simp at hz)
    go_ret2
    simp only [HV.out]
    exact ⟨none, 0, rfl, .inl ⟨rfl, rfl, rfl⟩, by (repeat' (first | exact Below.refl _ _ | assumption | refine Below.setCell ?_ ?_ _ | refine Below.drew ?_ | refine Below.alloc ?_ ?_ _ | refine Below.trans ?_ (Below.mono (by assumption) ?_) | (simp; done) | (simp; omega) | omega))⟩
  obtain ⟨ht4, hj5, hle, hok, hwb⟩ := tplan_facts hs0
  have HV := hid (show endsV ts js who = (endsK ts js who js.length, true) by simp [endsV, hs0, hle])
  have hl2 : js.length ≤ who.length := by omega
  have HLL := hid (endsK_len (ts := ts) (js := js) (who := who) js.length)
  clear hle hok
  go_enter Try.func37, Try.ntmps37
  go_wp2_with (first | (go_at_call 58; refine (c_impl_isTugPlan _ _ _ _ _ _ _ _ _ _ (by first | assumption | exact Rds.below hx (by (repeat' (first | exact Below.refl _ _ | assumption | refine Below.setCell ?_ ?_ _ | refine Below.drew ?_ | refine Below.alloc ?_ ?_ _ | refine Below.trans ?_ (Below.mono (by assumption) ?_) | (simp; done) | (simp; omega) | omega)))) (by omega) (by first | assumption | exact Rds.below hy (by (repeat' (first | exact Below.refl _ _ | assumption | refine Below.setCell ?_ ?_ _ | refine Below.drew ?_ | refine Below.alloc ?_ ?_ _ | refine Below.trans ?_ (Below.mono (by assumption) ?_) | (simp; done) | (simp; omega) | omega)))) (by omega) (by first | assumption | exact Rds.below hr (by (repeat' (first | exact Below.refl _ _ | assumption | refine Below.setCell ?_ ?_ _ | refine Below.drew ?_ | refine Below.alloc ?_ ?_ _ | refine Below.trans ?_ (Below.mono (by assumption) ?_) | (simp; done) | (simp; omega) | omega)))) (by omega)).mono ?_; rintro e w' ⟨rfl, hb⟩; have hc := cellOf hb; have hf := frozOf hb; have hz := sizeOf hb; try simp at hz) | (go_at_call 59; refine (c_impl_towAll _ ts _ _ js _ _ who _ _ (by first | assumption | exact Rds.below hx (by (repeat' (first | exact Below.refl _ _ | assumption | refine Below.setCell ?_ ?_ _ | refine Below.drew ?_ | refine Below.alloc ?_ ?_ _ | refine Below.trans ?_ (Below.mono (by assumption) ?_) | (simp; done) | (simp; omega) | omega)))) (by omega) (by first | assumption | exact Rds.below hy (by (repeat' (first | exact Below.refl _ _ | assumption | refine Below.setCell ?_ ?_ _ | refine Below.drew ?_ | refine Below.alloc ?_ ?_ _ | refine Below.trans ?_ (Below.mono (by assumption) ?_) | (simp; done) | (simp; omega) | omega)))) (by omega) (by first | assumption | exact Rds.below hr (by (repeat' (first | exact Below.refl _ _ | assumption | refine Below.setCell ?_ ?_ _ | refine Below.drew ?_ | refine Below.alloc ?_ ?_ _ | refine Below.trans ?_ (Below.mono (by assumption) ?_) | (simp; done) | (simp; omega) | omega)))) (by omega) ht4 hj5 hl2 hwb).mono ?_; rintro e w' ⟨A9, c9, m1, m2, rfl, hF9, hM1, hM2, hb⟩; have HF9 := hid hF9; have HM1 := hid hM1; have HM2 := hid hM2; clear hF9 hM1 hM2; have hc := cellOf hb; have hf := frozOf hb; have hz := sizeOf hb; try simp at hz))
  go_ret2
  simp only [HV.out]
  exact ⟨A9, c9, by first | (rw [HLL.out]; done) | (rw [HLL.out]; rfl), HF9.out.mono (by first | omega | (simp; done) | (simp; omega) | (simp at *; omega)), by (repeat' (first | exact Below.refl _ _ | assumption | refine Below.setCell ?_ ?_ _ | refine Below.drew ?_ | refine Below.alloc ?_ ?_ _ | refine Below.trans ?_ (Below.mono (by assumption) ?_) | (simp; done) | (simp; omega) | omega))⟩
set_option maxRecDepth 100000 in
set_option maxHeartbeats 4000000 in
theorem c_impl_WaitingTicks (A : Option Addr) (ts : List TugT) (capt : Nat) (B : Option Addr) (js : List JobT) (capj : Nat) (C : Option Addr) (who : List Int) (capw : Nat) (w : World) (hx : Rds cTug 3 w A ts) (hn : ts.length ≤ 9223372036854775807) (hy : Rds cJob 5 w B js) (hm : js.length ≤ 9223372036854775807) (hr : Rds cIn 1 w C who) (hq : who.length ≤ 9223372036854775807) :
    Calls Try.prog 33 #[.slice A ts.length capt, .slice B js.length capj, .slice C who.length capw] w fun e w' => e = .returned (.tuple #[.int .i64 (waitsV ts js who).1, .bool (waitsV ts js who).2]) ∧ Below w.heap.size w w' := by
  have kf0 : ∀ (a0 a1 a2 a3 : Value) (w : World), (Instr.field 76 (.agg #[a0, a1, a2, a3]) 0).run Try.prog w = .ok a0 w := fun _ _ _ _ _ => by kernel_rfl
  have kf1 : ∀ (a0 a1 a2 a3 : Value) (w : World), (Instr.field 76 (.agg #[a0, a1, a2, a3]) 1).run Try.prog w = .ok a1 w := fun _ _ _ _ _ => by kernel_rfl
  have kf2 : ∀ (a0 a1 a2 a3 : Value) (w : World), (Instr.field 76 (.agg #[a0, a1, a2, a3]) 2).run Try.prog w = .ok a2 w := fun _ _ _ _ _ => by kernel_rfl
  have kf3 : ∀ (a0 a1 a2 a3 : Value) (w : World), (Instr.field 76 (.agg #[a0, a1, a2, a3]) 3).run Try.prog w = .ok a3 w := fun _ _ _ _ _ => by kernel_rfl
  by_cases hs0 : tplanB ts js who = true
  rotate_left
  · have hn0 : tplanB ts js who = false := Bool.eq_false_iff.2 hs0
    have HV := hid (show waitsV ts js who = (0, false) by simp [waitsV, hn0])
    clear hs0
    go_enter Try.func33, Try.ntmps33
    go_wp2_with (go_at_call 58; refine (c_impl_isTugPlan _ _ _ _ _ _ _ _ _ _ (by first | assumption | exact Rds.below hx (by (repeat' (first | exact Below.refl _ _ | assumption | refine Below.setCell ?_ ?_ _ | refine Below.drew ?_ | refine Below.alloc ?_ ?_ _ | refine Below.trans ?_ (Below.mono (by assumption) ?_) | (simp; done) | (simp; omega) | omega)))) (by omega) (by first | assumption | exact Rds.below hy (by (repeat' (first | exact Below.refl _ _ | assumption | refine Below.setCell ?_ ?_ _ | refine Below.drew ?_ | refine Below.alloc ?_ ?_ _ | refine Below.trans ?_ (Below.mono (by assumption) ?_) | (simp; done) | (simp; omega) | omega)))) (by omega) (by first | assumption | exact Rds.below hr (by (repeat' (first | exact Below.refl _ _ | assumption | refine Below.setCell ?_ ?_ _ | refine Below.drew ?_ | refine Below.alloc ?_ ?_ _ | refine Below.trans ?_ (Below.mono (by assumption) ?_) | (simp; done) | (simp; omega) | omega)))) (by omega)).mono ?_; rintro e w' ⟨rfl, hb⟩; have hc := cellOf hb; have hf := frozOf hb; have hz := sizeOf hb; try simp at hz)
    go_ret2
    exact ⟨by first | (rw [HV.out]; done) | (rw [HV.out]; rfl), by (repeat' (first | exact Below.refl _ _ | assumption | refine Below.setCell ?_ ?_ _ | refine Below.drew ?_ | refine Below.alloc ?_ ?_ _ | refine Below.trans ?_ (Below.mono (by assumption) ?_) | (simp; done) | (simp; omega) | omega))⟩
  obtain ⟨ht4, hj5, hle, hok, hwb⟩ := tplan_facts hs0
  have HV := hid (show waitsV ts js who = (waitK ts js who js.length, true) by simp [waitsV, hs0, hle])
  have hl2 : js.length ≤ who.length := by omega
  clear hle hok
  go_enter Try.func33, Try.ntmps33
  go_wp2_with (first | (go_at_call 58; refine (c_impl_isTugPlan _ _ _ _ _ _ _ _ _ _ (by first | assumption | exact Rds.below hx (by (repeat' (first | exact Below.refl _ _ | assumption | refine Below.setCell ?_ ?_ _ | refine Below.drew ?_ | refine Below.alloc ?_ ?_ _ | refine Below.trans ?_ (Below.mono (by assumption) ?_) | (simp; done) | (simp; omega) | omega)))) (by omega) (by first | assumption | exact Rds.below hy (by (repeat' (first | exact Below.refl _ _ | assumption | refine Below.setCell ?_ ?_ _ | refine Below.drew ?_ | refine Below.alloc ?_ ?_ _ | refine Below.trans ?_ (Below.mono (by assumption) ?_) | (simp; done) | (simp; omega) | omega)))) (by omega) (by first | assumption | exact Rds.below hr (by (repeat' (first | exact Below.refl _ _ | assumption | refine Below.setCell ?_ ?_ _ | refine Below.drew ?_ | refine Below.alloc ?_ ?_ _ | refine Below.trans ?_ (Below.mono (by assumption) ?_) | (simp; done) | (simp; omega) | omega)))) (by omega)).mono ?_; rintro e w' ⟨rfl, hb⟩; have hc := cellOf hb; have hf := frozOf hb; have hz := sizeOf hb; try simp at hz) | (go_at_call 59; refine (c_impl_towAll _ ts _ _ js _ _ who _ _ (by first | assumption | exact Rds.below hx (by (repeat' (first | exact Below.refl _ _ | assumption | refine Below.setCell ?_ ?_ _ | refine Below.drew ?_ | refine Below.alloc ?_ ?_ _ | refine Below.trans ?_ (Below.mono (by assumption) ?_) | (simp; done) | (simp; omega) | omega)))) (by omega) (by first | assumption | exact Rds.below hy (by (repeat' (first | exact Below.refl _ _ | assumption | refine Below.setCell ?_ ?_ _ | refine Below.drew ?_ | refine Below.alloc ?_ ?_ _ | refine Below.trans ?_ (Below.mono (by assumption) ?_) | (simp; done) | (simp; omega) | omega)))) (by omega) (by first | assumption | exact Rds.below hr (by (repeat' (first | exact Below.refl _ _ | assumption | refine Below.setCell ?_ ?_ _ | refine Below.drew ?_ | refine Below.alloc ?_ ?_ _ | refine Below.trans ?_ (Below.mono (by assumption) ?_) | (simp; done) | (simp; omega) | omega)))) (by omega) ht4 hj5 hl2 hwb).mono ?_; rintro e w' ⟨A9, c9, m1, m2, rfl, hF9, hM1, hM2, hb⟩; have HF9 := hid hF9; have HM1 := hid hM1; have HM2 := hid hM2; clear hF9 hM1 hM2; have hc := cellOf hb; have hf := frozOf hb; have hz := sizeOf hb; try simp at hz))
  go_ret2
  exact ⟨by first | (rw [HV.out]; done) | (rw [HV.out]; rfl), by (repeat' (first | exact Below.refl _ _ | assumption | refine Below.setCell ?_ ?_ _ | refine Below.drew ?_ | refine Below.alloc ?_ ?_ _ | refine Below.trans ?_ (Below.mono (by assumption) ?_) | (simp; done) | (simp; omega) | omega))⟩
set_option maxRecDepth 100000 in
set_option maxHeartbeats 4000000 in
theorem c_maxI (A : Option Addr) (xs : List Int) (cap : Nat) (w : World) (hx : Rds cIn 1 w A xs) (hn : xs.length ≤ 9223372036854775807) (h0 : 0 < xs.length) (hp : ∀ k (hk : k < xs.length), 0 ≤ xs[k]) :
    Calls Try.prog 62 #[.slice A xs.length cap] w fun e w' => e = .returned (.int .i64 (mxT xs xs.length)) ∧ Below w.heap.size w w' := by
  obtain ⟨b, off, rfl, hb, hc⟩ := Rds.all hx h0
  have hx0 := hc 0 h0 0 _ rfl
  simp only [Nat.zero_mul, Nat.add_zero] at hx0
  have h1 : mxT xs 1 = xs[0] := by
    have := hp 0 h0
    show max (0 : Int) (xs.getD 0 0) = _
    rw [List.getD_eq_getElem?_getD, List.getElem?_eq_getElem h0]
    show max (0 : Int) xs[0] = _
    omega
  have HC := hid hc
  have H1 := hid h1
  have hnn := hp 0 h0
  clear hx hc h1 hp
  generalize xs[0] = x0 at *
  go_enter Try.func62, Try.ntmps62
  go_wp2_with (fail)
  go_loopw [3, 4] (fun m i wr => ∃ k : Nat, 1 ≤ k ∧ k ≤ xs.length ∧ i = .int .i64 k ∧ m = .int .i64 (mxT xs k) ∧ Below w.heap.size w wr) (fun _ i _ => xs.length - (intOf i).toNat)
  case atStart => exact ⟨1, Nat.le_refl _, h0, rfl, by rw [H1.out], by (repeat' (first | exact Below.refl _ _ | assumption | refine Below.setCell ?_ ?_ _ | refine Below.drew ?_ | refine Below.alloc ?_ ?_ _ | refine Below.trans ?_ (Below.mono (by assumption) ?_) | (simp; done) | (simp; omega) | omega))⟩
  case round =>
    obtain ⟨k, hk1, hk, rfl, rfl, hbr⟩ := hrel
    have hc := cellOf hbr
    have hf := frozOf hbr
    have hz := sizeOf hbr
    by_cases hlt : k < xs.length
    · have hxk := HC.out k hlt 0 _ rfl
      simp only [Nat.add_zero, Nat.mul_one] at hxk
      have HS : Hid (mxT xs (k + 1) = max (mxT xs k) xs[k]) := by
        show max (mxT xs k) (xs.getD k 0) = _
        rw [List.getD_eq_getElem?_getD, List.getElem?_eq_getElem hlt]; rfl
      generalize xs[k] = x at *
      go_wp2_with (fail)
      go_roundw
      case rel => exact ⟨k + 1, by omega, by omega, by go_num, by rw [HS.out], by (repeat' (first | exact Below.refl _ _ | assumption | refine Below.setCell ?_ ?_ _ | refine Below.drew ?_ | refine Below.alloc ?_ ?_ _ | refine Below.trans ?_ (Below.mono (by assumption) ?_) | (simp; done) | (simp; omega) | omega))⟩
      case measure => simp [intOf]; omega
    · obtain rfl : k = xs.length := by omega
      go_wp2_with (fail)
      go_ret
      exact ⟨rfl, by (repeat' (first | exact Below.refl _ _ | assumption | refine Below.setCell ?_ ?_ _ | refine Below.drew ?_ | refine Below.alloc ?_ ?_ _ | refine Below.trans ?_ (Below.mono (by assumption) ?_) | (simp; done) | (simp; omega) | omega))⟩
set_option maxRecDepth 100000 in
set_option maxHeartbeats 4000000 in
theorem c_impl_LastEnd (A : Option Addr) (ts : List TugT) (capt : Nat) (B : Option Addr) (js : List JobT) (capj : Nat) (C : Option Addr) (who : List Int) (capw : Nat) (w : World) (hx : Rds cTug 3 w A ts) (hn : ts.length ≤ 9223372036854775807) (hy : Rds cJob 5 w B js) (hm : js.length ≤ 9223372036854775807) (hr : Rds cIn 1 w C who) (hq : who.length ≤ 9223372036854775807) :
    Calls Try.prog 35 #[.slice A ts.length capt, .slice B js.length capj, .slice C who.length capw] w fun e w' => e = .returned (.tuple #[.int .i64 (lastV ts js who).1, .bool (lastV ts js who).2]) ∧ Below w.heap.size w w' := by
  by_cases hs0 : tplanB ts js who = true
  rotate_left
  · have hn0 : tplanB ts js who = false := Bool.eq_false_iff.2 hs0
    have HV := hid (show lastV ts js who = (0, false) by simp [lastV, hn0])
    have hev : endsV ts js who = ([], false) := by simp [endsV, hn0]
    clear hs0
    go_enter Try.func35, Try.ntmps35
    go_wp2_with (go_at_call 37; refine (c_impl_JobEnds _ ts _ _ js _ _ who _ _ (by first | assumption | exact Rds.below hx (by (repeat' (first | exact Below.refl _ _ | assumption | refine Below.setCell ?_ ?_ _ | refine Below.drew ?_ | refine Below.alloc ?_ ?_ _ | refine Below.trans ?_ (Below.mono (by assumption) ?_) | (simp; done) | (simp; omega) | omega)))) (by omega) (by first | assumption | exact Rds.below hy (by (repeat' (first | exact Below.refl _ _ | assumption | refine Below.setCell ?_ ?_ _ | refine Below.drew ?_ | refine Below.alloc ?_ ?_ _ | refine Below.trans ?_ (Below.mono (by assumption) ?_) | (simp; done) | (simp; omega) | omega)))) (by omega) (by first | assumption | exact Rds.below hr (by (repeat' (first | exact Below.refl _ _ | assumption | refine Below.setCell ?_ ?_ _ | refine Below.drew ?_ | refine Below.alloc ?_ ?_ _ | refine Below.trans ?_ (Below.mono (by assumption) ?_) | (simp; done) | (simp; omega) | omega)))) (by omega)).mono ?_; rintro e w' ⟨A9, c9, rfl, hF9, hb⟩; rw [hev] at hF9; simp only [hev]; have HF9 := hid hF9; clear hF9; have hc := cellOf hb; have hf := frozOf hb; have hz := sizeOf hb; try simp at hz)
    go_ret2
    exact ⟨by first | (rw [HV.out]; done) | (rw [HV.out]; rfl), by (repeat' (first | exact Below.refl _ _ | assumption | refine Below.setCell ?_ ?_ _ | refine Below.drew ?_ | refine Below.alloc ?_ ?_ _ | refine Below.trans ?_ (Below.mono (by assumption) ?_) | (simp; done) | (simp; omega) | omega))⟩
  obtain ⟨ht4, hj5, hle, hok, hwb⟩ := tplan_facts hs0
  have hev : endsV ts js who = (endsK ts js who js.length, true) := by simp [endsV, hs0, hle]
  have HLL := hid (endsK_len (ts := ts) (js := js) (who := who) js.length)
  have hnn := endsK_nn (who := who) ht4 hj5 js.length
  have hV : lastV ts js who = (maxK ts js who js.length, true) := by simp [lastV, hs0, hle]
  rw [← mxT_ends js.length js.length (Nat.le_refl _)] at hV
  have hj6 := vB_len hj5
  have hl5 : (endsK ts js who js.length).length ≤ 5 := by rw [endsK_len]; omega
  clear hle hok hwb
  by_cases h0 : js.length = 0
  · have HV := hid (show lastV ts js who = (0, true) by rw [hV, h0]; rfl)
    have he0 : (endsK ts js who js.length).length = 0 := by rw [endsK_len]; exact h0
    have hnil : endsK ts js who js.length = [] := List.eq_nil_of_length_eq_zero he0
    rw [hnil] at hev
    clear hV h0 he0 hnn hnil hl5
    go_enter Try.func35, Try.ntmps35
    go_wp2_with (go_at_call 37; refine (c_impl_JobEnds _ ts _ _ js _ _ who _ _ (by first | assumption | exact Rds.below hx (by (repeat' (first | exact Below.refl _ _ | assumption | refine Below.setCell ?_ ?_ _ | refine Below.drew ?_ | refine Below.alloc ?_ ?_ _ | refine Below.trans ?_ (Below.mono (by assumption) ?_) | (simp; done) | (simp; omega) | omega)))) (by omega) (by first | assumption | exact Rds.below hy (by (repeat' (first | exact Below.refl _ _ | assumption | refine Below.setCell ?_ ?_ _ | refine Below.drew ?_ | refine Below.alloc ?_ ?_ _ | refine Below.trans ?_ (Below.mono (by assumption) ?_) | (simp; done) | (simp; omega) | omega)))) (by omega) (by first | assumption | exact Rds.below hr (by (repeat' (first | exact Below.refl _ _ | assumption | refine Below.setCell ?_ ?_ _ | refine Below.drew ?_ | refine Below.alloc ?_ ?_ _ | refine Below.trans ?_ (Below.mono (by assumption) ?_) | (simp; done) | (simp; omega) | omega)))) (by omega)).mono ?_; rintro e w' ⟨A9, c9, rfl, hF9, hb⟩; rw [hev] at hF9; simp only [hev]; have HF9 := hid hF9; clear hF9; have hc := cellOf hb; have hf := frozOf hb; have hz := sizeOf hb; try simp at hz)
    go_ret2
    exact ⟨by first | (rw [HV.out]; done) | (rw [HV.out]; rfl), by (repeat' (first | exact Below.refl _ _ | assumption | refine Below.setCell ?_ ?_ _ | refine Below.drew ?_ | refine Below.alloc ?_ ?_ _ | refine Below.trans ?_ (Below.mono (by assumption) ?_) | (simp; done) | (simp; omega) | omega))⟩
  · have HV := hid (show lastV ts js who = (mxT (endsK ts js who js.length) (endsK ts js who js.length).length, true) by rw [hV, endsK_len])
    have hp : 0 < (endsK ts js who js.length).length := by rw [endsK_len]; omega
    clear hV h0
    generalize endsK ts js who js.length = en at *
    have hp2 : ¬ ((en.length : Int) = 0) := by omega
    go_enter Try.func35, Try.ntmps35
    go_wp2_with (first | (go_at_call 37; refine (c_impl_JobEnds _ ts _ _ js _ _ who _ _ (by first | assumption | exact Rds.below hx (by (repeat' (first | exact Below.refl _ _ | assumption | refine Below.setCell ?_ ?_ _ | refine Below.drew ?_ | refine Below.alloc ?_ ?_ _ | refine Below.trans ?_ (Below.mono (by assumption) ?_) | (simp; done) | (simp; omega) | omega)))) (by omega) (by first | assumption | exact Rds.below hy (by (repeat' (first | exact Below.refl _ _ | assumption | refine Below.setCell ?_ ?_ _ | refine Below.drew ?_ | refine Below.alloc ?_ ?_ _ | refine Below.trans ?_ (Below.mono (by assumption) ?_) | (simp; done) | (simp; omega) | omega)))) (by omega) (by first | assumption | exact Rds.below hr (by (repeat' (first | exact Below.refl _ _ | assumption | refine Below.setCell ?_ ?_ _ | refine Below.drew ?_ | refine Below.alloc ?_ ?_ _ | refine Below.trans ?_ (Below.mono (by assumption) ?_) | (simp; done) | (simp; omega) | omega)))) (by omega)).mono ?_; rintro e w' ⟨A9, c9, rfl, hF9, hb⟩; rw [hev] at hF9; simp only [hev]; have HF9 := hid hF9; clear hF9; have hc := cellOf hb; have hf := frozOf hb; have hz := sizeOf hb; try simp at hz) | (go_at_call 62; refine (c_maxI _ en _ _ (HF9.out.rds.below (by (repeat' (first | exact Below.refl _ _ | assumption | refine Below.setCell ?_ ?_ _ | refine Below.drew ?_ | refine Below.alloc ?_ ?_ _ | refine Below.trans ?_ (Below.mono (by assumption) ?_) | (simp; done) | (simp; omega) | omega)))) (by omega) hp hnn).mono ?_; rintro e w' ⟨rfl, hb⟩; have hc := cellOf hb; have hf := frozOf hb; have hz := sizeOf hb; try simp at hz))
    go_ret2
    exact ⟨by first | (rw [HV.out]; done) | (rw [HV.out]; rfl), by (repeat' (first | exact Below.refl _ _ | assumption | refine Below.setCell ?_ ?_ _ | refine Below.drew ?_ | refine Below.alloc ?_ ?_ _ | refine Below.trans ?_ (Below.mono (by assumption) ?_) | (simp; done) | (simp; omega) | omega))⟩

end Go.Proofs.Ytipipicfkjigdaa
