import Derived.Test.YtipipicfkjigdaaT6i
import Derived.OwnWalk
namespace Go.Proofs.Ytipipicfkjigdaa
set_option linter.unusedSimpArgs false
set_option linter.unusedVariables false
open Go.RowKit

set_option maxRecDepth 100000 in
set_option maxHeartbeats 4000000 in
theorem c_impl_TowedKilometers (A : Option Addr) (ts : List TugT) (capt : Nat) (B : Option Addr) (js : List JobT) (capj : Nat) (C : Option Addr) (who : List Int) (capw : Nat) (z : Int) (w : World) (hx : Rds cTug 3 w A ts) (hn : ts.length ≤ 9223372036854775807) (hy : Rds cJob 5 w B js) (hm : js.length ≤ 9223372036854775807) (hr : Rds cIn 1 w C who) (hq : who.length ≤ 9223372036854775807) :
    Calls Try.prog 42 #[.slice A ts.length capt, .slice B js.length capj, .slice C who.length capw, .int .i64 z] w fun e w' => e = .returned (.tuple #[.int .i64 (towdV ts js who z).1, .int .i64 (towdV ts js who z).2.1, .bool (towdV ts js who z).2.2]) ∧ Below w.heap.size w w' := by
  have HXA := hid hx
  by_cases hs0 : tplanB ts js who = true
  rotate_left
  · have hn0 : tplanB ts js who = false := Bool.eq_false_iff.2 hs0
    have HV := hid (show towdV ts js who z = (0, 0, false) by simp [towdV, hn0])
    clear hs0
    go_enter Try.func42, Try.ntmps42
    go_wp2_with (go_at_call 58; refine (c_impl_isTugPlan _ _ _ _ _ _ _ _ _ _ (by first | assumption | exact Rds.below hx (by (repeat' (first | exact Below.refl _ _ | assumption | refine Below.setCell ?_ ?_ _ | refine Below.drew ?_ | refine Below.alloc ?_ ?_ _ | refine Below.trans ?_ (Below.mono (by assumption) ?_) | (simp; done) | (simp; omega) | omega)))) (by omega) (by first | assumption | exact Rds.below hy (by (repeat' (first | exact Below.refl _ _ | assumption | refine Below.setCell ?_ ?_ _ | refine Below.drew ?_ | refine Below.alloc ?_ ?_ _ | refine Below.trans ?_ (Below.mono (by assumption) ?_) | (simp; done) | (simp; omega) | omega)))) (by omega) (by first | assumption | exact Rds.below hr (by (repeat' (first | exact Below.refl _ _ | assumption | refine Below.setCell ?_ ?_ _ | refine Below.drew ?_ | refine Below.alloc ?_ ?_ _ | refine Below.trans ?_ (Below.mono (by assumption) ?_) | (simp; done) | (simp; omega) | omega)))) (by omega)).mono ?_; rintro e w' ⟨rfl, hb⟩; have hc := cellOf hb; have hf := frozOf hb; have hz := sizeOf hb; try simp at hz)
    refine bodyPost_ret (results_tmp3 rfl _ _ _) rfl ?_
    exact ⟨by first | (rw [HV.out]; done) | (rw [HV.out]; rfl), by (repeat' (first | exact Below.refl _ _ | assumption | refine Below.setCell ?_ ?_ _ | refine Below.drew ?_ | refine Below.alloc ?_ ?_ _ | refine Below.trans ?_ (Below.mono (by assumption) ?_) | (simp; done) | (simp; omega) | omega))⟩
  by_cases hi0 : 0 ≤ tix ts z
  rotate_left
  · have HV := hid (show towdV ts js who z = (0, 0, false) by simp [towdV, hi0])
    have hi1 : tix ts z < 0 := by omega
    clear hi0
    go_enter Try.func42, Try.ntmps42
    go_wp2_with (first | (go_at_call 58; refine (c_impl_isTugPlan _ _ _ _ _ _ _ _ _ _ (by first | assumption | exact Rds.below hx (by (repeat' (first | exact Below.refl _ _ | assumption | refine Below.setCell ?_ ?_ _ | refine Below.drew ?_ | refine Below.alloc ?_ ?_ _ | refine Below.trans ?_ (Below.mono (by assumption) ?_) | (simp; done) | (simp; omega) | omega)))) (by omega) (by first | assumption | exact Rds.below hy (by (repeat' (first | exact Below.refl _ _ | assumption | refine Below.setCell ?_ ?_ _ | refine Below.drew ?_ | refine Below.alloc ?_ ?_ _ | refine Below.trans ?_ (Below.mono (by assumption) ?_) | (simp; done) | (simp; omega) | omega)))) (by omega) (by first | assumption | exact Rds.below hr (by (repeat' (first | exact Below.refl _ _ | assumption | refine Below.setCell ?_ ?_ _ | refine Below.drew ?_ | refine Below.alloc ?_ ?_ _ | refine Below.trans ?_ (Below.mono (by assumption) ?_) | (simp; done) | (simp; omega) | omega)))) (by omega)).mono ?_; rintro e w' ⟨rfl, hb⟩; have hc := cellOf hb; have hf := frozOf hb; have hz := sizeOf hb; try simp at hz) | (go_at_call 67; refine (c_impl_tugIndex _ _ _ _ _ (Rds.below HXA.out (by (repeat' (first | exact Below.refl _ _ | assumption | refine Below.setCell ?_ ?_ _ | refine Below.drew ?_ | refine Below.alloc ?_ ?_ _ | refine Below.trans ?_ (Below.mono (by assumption) ?_) | (simp; done) | (simp; omega) | omega)))) (by omega)).mono ?_; rintro e w' ⟨rfl, hb⟩; have hc := cellOf hb; have hf := frozOf hb; have hz := sizeOf hb; try simp at hz))
    refine bodyPost_ret (results_tmp3 rfl _ _ _) rfl ?_
    exact ⟨by first | (rw [HV.out]; done) | (rw [HV.out]; rfl), by (repeat' (first | exact Below.refl _ _ | assumption | refine Below.setCell ?_ ?_ _ | refine Below.drew ?_ | refine Below.alloc ?_ ?_ _ | refine Below.trans ?_ (Below.mono (by assumption) ?_) | (simp; done) | (simp; omega) | omega))⟩
  obtain ⟨ht4, hj5, hle, hok, hwb⟩ := tplan_facts hs0
  have HV := hid (show towdV ts js who z = (towdK ts js who js.length z, othK ts js who js.length z, true) by simp [towdV, hs0, hle, hi0])
  have hl2 : js.length ≤ who.length := by omega
  obtain ⟨kt, hkt, hix, hidk⟩ := tix_hit hi0
  have htb := tugOk_bd (vB_at ht4 kt hkt)
  have hzb : 0 ≤ z ∧ z ≤ 99 := by omega
  clear hle hok hidk htb hi0
  go_enter Try.func42, Try.ntmps42
  go_wp2_with (first | (go_at_call 58; refine (c_impl_isTugPlan _ _ _ _ _ _ _ _ _ _ (by first | assumption | exact Rds.below hx (by (repeat' (first | exact Below.refl _ _ | assumption | refine Below.setCell ?_ ?_ _ | refine Below.drew ?_ | refine Below.alloc ?_ ?_ _ | refine Below.trans ?_ (Below.mono (by assumption) ?_) | (simp; done) | (simp; omega) | omega)))) (by omega) (by first | assumption | exact Rds.below hy (by (repeat' (first | exact Below.refl _ _ | assumption | refine Below.setCell ?_ ?_ _ | refine Below.drew ?_ | refine Below.alloc ?_ ?_ _ | refine Below.trans ?_ (Below.mono (by assumption) ?_) | (simp; done) | (simp; omega) | omega)))) (by omega) (by first | assumption | exact Rds.below hr (by (repeat' (first | exact Below.refl _ _ | assumption | refine Below.setCell ?_ ?_ _ | refine Below.drew ?_ | refine Below.alloc ?_ ?_ _ | refine Below.trans ?_ (Below.mono (by assumption) ?_) | (simp; done) | (simp; omega) | omega)))) (by omega)).mono ?_; rintro e w' ⟨rfl, hb⟩; have hc := cellOf hb; have hf := frozOf hb; have hz := sizeOf hb; try simp at hz) | (go_at_call 67; refine (c_impl_tugIndex _ _ _ _ _ (Rds.below HXA.out (by (repeat' (first | exact Below.refl _ _ | assumption | refine Below.setCell ?_ ?_ _ | refine Below.drew ?_ | refine Below.alloc ?_ ?_ _ | refine Below.trans ?_ (Below.mono (by assumption) ?_) | (simp; done) | (simp; omega) | omega)))) (by omega)).mono ?_; rintro e w' ⟨rfl, hb⟩; have hc := cellOf hb; have hf := frozOf hb; have hz := sizeOf hb; try simp at hz) | (go_at_call 59; refine (c_impl_towAll _ ts _ _ js _ _ who _ _ (by first | assumption | exact Rds.below hx (by (repeat' (first | exact Below.refl _ _ | assumption | refine Below.setCell ?_ ?_ _ | refine Below.drew ?_ | refine Below.alloc ?_ ?_ _ | refine Below.trans ?_ (Below.mono (by assumption) ?_) | (simp; done) | (simp; omega) | omega)))) (by omega) (by first | assumption | exact Rds.below hy (by (repeat' (first | exact Below.refl _ _ | assumption | refine Below.setCell ?_ ?_ _ | refine Below.drew ?_ | refine Below.alloc ?_ ?_ _ | refine Below.trans ?_ (Below.mono (by assumption) ?_) | (simp; done) | (simp; omega) | omega)))) (by omega) (by first | assumption | exact Rds.below hr (by (repeat' (first | exact Below.refl _ _ | assumption | refine Below.setCell ?_ ?_ _ | refine Below.drew ?_ | refine Below.alloc ?_ ?_ _ | refine Below.trans ?_ (Below.mono (by assumption) ?_) | (simp; done) | (simp; omega) | omega)))) (by omega) ht4 hj5 hl2 hwb).mono ?_; rintro e wt ⟨A9, c9, m1, m2, rfl, hF9, hM1, hM2, hb⟩; have HF9 := hid hF9; have HM1 := hid hM1; have HM2 := hid hM2; clear hF9 hM1 hM2; have hc := cellOf hb; have hf := frozOf hb; have hz := sizeOf hb; try simp at hz))
  refine wp_named ?_
  intro W hW
  have hB : Below w.heap.size w W := by rw [hW]; (repeat' (first | exact Below.refl _ _ | assumption | refine Below.setCell ?_ ?_ _ | refine Below.drew ?_ | refine Below.alloc ?_ ?_ _ | refine Below.trans ?_ (Below.mono (by assumption) ?_) | (simp; done) | (simp; omega) | omega))
  have p2 : W.cell? ⟨wt.heap.size, 2, none⟩ = some (.map (some m1)) := by rw [hW]; simp [go_sem, ↓IntWalk.iteOmega]
  have p3 : W.cell? ⟨wt.heap.size, 3, none⟩ = some (.map (some m2)) := by rw [hW]; simp [go_sem, ↓IntWalk.iteOmega]
  have hlk1 := ((HM1.out.alloc (.cells #[.slice A9 js.length c9, .int .i64 (waitK ts js who js.length), .map (some m1), .map (some m2)] 76)).drew).run (i := z) (WalkArith.wf_i64 (by omega))
  have hlk2 := ((HM2.out.alloc (.cells #[.slice A9 js.length c9, .int .i64 (waitK ts js who js.length), .map (some m1), .map (some m2)] 76)).drew).run (i := z) (WalkArith.wf_i64 (by omega))
  rw [← hW] at hlk1 hlk2
  clear hW
  go_region_held3 (fun w' => w' = W.drew) (first | rfl | assumption) (fail)
  all_goals go_wp2_with (fail)
  all_goals refine bodyPost_ret (results_tmp3 rfl _ _ _) rfl ?_
  all_goals exact ⟨by first | (rw [HV.out]; done) | (rw [HV.out]; rfl), by (repeat' (first | exact Below.refl _ _ | assumption | refine Below.setCell ?_ ?_ _ | refine Below.drew ?_ | refine Below.alloc ?_ ?_ _ | refine Below.trans ?_ (Below.mono (by assumption) ?_) | (simp; done) | (simp; omega) | omega))⟩

end Go.Proofs.Ytipipicfkjigdaa
