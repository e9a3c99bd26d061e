import Derived.Test.YtipipicfkjigdaaT5
import Derived.Test.YtipipicfkjigdaaT2s
import Derived.Test.YtipipicfkjigdaaR1
import Derived.OwnWalk
namespace Go.Proofs.Ytipipicfkjigdaa
set_option linter.unusedSimpArgs false
set_option linter.unusedVariables false
open Go.RowKit

set_option maxRecDepth 100000 in
set_option maxHeartbeats 8000000 in
theorem c_spec_TowedKilometers (A : Option Addr) (ts : List TugT) (capt : Nat) (B : Option Addr) (js : List JobT) (capj : Nat) (C : Option Addr) (who : List Int) (capw : Nat) (z : Int) (w : World) (hx : Rds cTug 3 w A ts) (hn : ts.length ≤ 9223372036854775807) (hy : Rds cJob 5 w B js) (hm : js.length ≤ 9223372036854775807) (hr : Rds cIn 1 w C who) (hq : who.length ≤ 9223372036854775807) :
    Calls Try.prog 41 #[.slice A ts.length capt, .slice B js.length capj, .slice C who.length capw, .int .i64 z] w fun e w' => e = .returned (.tuple #[.int .i64 (towdV ts js who z).1, .int .i64 (towdV ts js who z).2.1, .bool (towdV ts js who z).2.2]) ∧ Below w.heap.size w w' := by
  have HXA := hid hx
  have HY := hid hy
  have HR := hid hr
  by_cases hs0 : tplanB ts js who = true
  rotate_left
  · have hn0 : tplanB ts js who = false := Bool.eq_false_iff.2 hs0
    have HV := hid (show towdV ts js who z = (0, 0, false) by simp [towdV, hn0])
    clear hs0
    go_enter Try.func41, Try.ntmps41
    go_wp2_with (first | (go_at_call 56; refine (c_spec_l17Asked _ _ _ _ _ _ _ _ _ _ (by first | assumption | exact Rds.below hx (by (repeat' (first | exact Below.refl _ _ | assumption | refine Below.setCell ?_ ?_ _ | refine Below.drew ?_ | refine Below.alloc ?_ ?_ _ | refine Below.trans ?_ (Below.mono (by assumption) ?_) | (simp; done) | (simp; omega) | omega)))) (by omega) (by first | assumption | exact Rds.below hy (by (repeat' (first | exact Below.refl _ _ | assumption | refine Below.setCell ?_ ?_ _ | refine Below.drew ?_ | refine Below.alloc ?_ ?_ _ | refine Below.trans ?_ (Below.mono (by assumption) ?_) | (simp; done) | (simp; omega) | omega)))) (by omega) (by first | assumption | exact Rds.below hr (by (repeat' (first | exact Below.refl _ _ | assumption | refine Below.setCell ?_ ?_ _ | refine Below.drew ?_ | refine Below.alloc ?_ ?_ _ | refine Below.trans ?_ (Below.mono (by assumption) ?_) | (simp; done) | (simp; omega) | omega)))) (by omega)).mono ?_; rintro e w' ⟨rfl, hb⟩; have hc := cellOf hb; have hf := frozOf hb; have hz := sizeOf hb; try simp at hz) | (go_at_call 66; refine (c_spec_l17Find _ _ _ _ _ (Rds.below HXA.out (by (repeat' (first | exact Below.refl _ _ | assumption | refine Below.setCell ?_ ?_ _ | refine Below.drew ?_ | refine Below.alloc ?_ ?_ _ | refine Below.trans ?_ (Below.mono (by assumption) ?_) | (simp; done) | (simp; omega) | omega)))) (by omega)).mono ?_; rintro e w' ⟨rfl, hw9⟩; rw [hw9]; clear hw9 w'))
    refine bodyPost_ret (results_tmp3 rfl _ _ _) rfl ?_
    exact ⟨by first | (rw [HV.out]; done) | (rw [HV.out]; rfl), by (repeat' (first | exact Below.refl _ _ | assumption | refine Below.setCell ?_ ?_ _ | refine Below.drew ?_ | refine Below.alloc ?_ ?_ _ | refine Below.trans ?_ (Below.mono (by assumption) ?_) | (simp; done) | (simp; omega) | omega))⟩
  by_cases hi0 : 0 ≤ tix ts z
  rotate_left
  · have HV := hid (show towdV ts js who z = (0, 0, false) by simp [towdV, hi0])
    have hi1 : tix ts z < 0 := by omega
    clear hi0
    go_enter Try.func41, Try.ntmps41
    go_wp2_with (first | (go_at_call 56; refine (c_spec_l17Asked _ _ _ _ _ _ _ _ _ _ (by first | assumption | exact Rds.below hx (by (repeat' (first | exact Below.refl _ _ | assumption | refine Below.setCell ?_ ?_ _ | refine Below.drew ?_ | refine Below.alloc ?_ ?_ _ | refine Below.trans ?_ (Below.mono (by assumption) ?_) | (simp; done) | (simp; omega) | omega)))) (by omega) (by first | assumption | exact Rds.below hy (by (repeat' (first | exact Below.refl _ _ | assumption | refine Below.setCell ?_ ?_ _ | refine Below.drew ?_ | refine Below.alloc ?_ ?_ _ | refine Below.trans ?_ (Below.mono (by assumption) ?_) | (simp; done) | (simp; omega) | omega)))) (by omega) (by first | assumption | exact Rds.below hr (by (repeat' (first | exact Below.refl _ _ | assumption | refine Below.setCell ?_ ?_ _ | refine Below.drew ?_ | refine Below.alloc ?_ ?_ _ | refine Below.trans ?_ (Below.mono (by assumption) ?_) | (simp; done) | (simp; omega) | omega)))) (by omega)).mono ?_; rintro e w' ⟨rfl, hb⟩; have hc := cellOf hb; have hf := frozOf hb; have hz := sizeOf hb; try simp at hz) | (go_at_call 66; refine (c_spec_l17Find _ _ _ _ _ (Rds.below HXA.out (by (repeat' (first | exact Below.refl _ _ | assumption | refine Below.setCell ?_ ?_ _ | refine Below.drew ?_ | refine Below.alloc ?_ ?_ _ | refine Below.trans ?_ (Below.mono (by assumption) ?_) | (simp; done) | (simp; omega) | omega)))) (by omega)).mono ?_; rintro e w' ⟨rfl, hw9⟩; rw [hw9]; clear hw9 w'))
    refine bodyPost_ret (results_tmp3 rfl _ _ _) rfl ?_
    exact ⟨by first | (rw [HV.out]; done) | (rw [HV.out]; rfl), by (repeat' (first | exact Below.refl _ _ | assumption | refine Below.setCell ?_ ?_ _ | refine Below.drew ?_ | refine Below.alloc ?_ ?_ _ | refine Below.trans ?_ (Below.mono (by assumption) ?_) | (simp; done) | (simp; omega) | omega))⟩
  obtain ⟨ht4, hj5, hle, hok, hwb⟩ := tplan_facts hs0
  have hj6 := vB_len hj5
  have HV := hid (show towdV ts js who z = (towdK ts js who js.length z, othK ts js who js.length z, true) by simp [towdV, hs0, hle, hi0])
  have hl2 : js.length ≤ who.length := by omega
  obtain ⟨kt, hkt, hix, hidk⟩ := tix_hit hi0
  obtain ⟨bt, ot, hA, hbt, hct⟩ := HXA.out kt ts[kt] (List.getElem?_eq_getElem hkt)
  have ht1 := hct 1 _ rfl
  have hpl : plK ts ts.length z = ts[kt].2.1 := by rw [← hidk]; exact plK_at ht4 kt hkt ts.length hkt (Nat.le_refl _)
  have HPL := hid hpl
  subst hA
  clear hle hok hwb hidk hi0 hct hpl
  generalize ts[kt].2.1 = pt at *
  go_enter Try.func41, Try.ntmps41
  go_wp2_with (first | (go_at_call 56; refine (c_spec_l17Asked _ _ _ _ _ _ _ _ _ _ (by first | assumption | exact Rds.below hx (by (repeat' (first | exact Below.refl _ _ | assumption | refine Below.setCell ?_ ?_ _ | refine Below.drew ?_ | refine Below.alloc ?_ ?_ _ | refine Below.trans ?_ (Below.mono (by assumption) ?_) | (simp; done) | (simp; omega) | omega)))) (by omega) (by first | assumption | exact Rds.below hy (by (repeat' (first | exact Below.refl _ _ | assumption | refine Below.setCell ?_ ?_ _ | refine Below.drew ?_ | refine Below.alloc ?_ ?_ _ | refine Below.trans ?_ (Below.mono (by assumption) ?_) | (simp; done) | (simp; omega) | omega)))) (by omega) (by first | assumption | exact Rds.below hr (by (repeat' (first | exact Below.refl _ _ | assumption | refine Below.setCell ?_ ?_ _ | refine Below.drew ?_ | refine Below.alloc ?_ ?_ _ | refine Below.trans ?_ (Below.mono (by assumption) ?_) | (simp; done) | (simp; omega) | omega)))) (by omega)).mono ?_; rintro e w' ⟨rfl, hb⟩; have hc := cellOf hb; have hf := frozOf hb; have hz := sizeOf hb; try simp at hz) | (go_at_call 66; refine (c_spec_l17Find _ _ _ _ _ (Rds.below HXA.out (by (repeat' (first | exact Below.refl _ _ | assumption | refine Below.setCell ?_ ?_ _ | refine Below.drew ?_ | refine Below.alloc ?_ ?_ _ | refine Below.trans ?_ (Below.mono (by assumption) ?_) | (simp; done) | (simp; omega) | omega)))) (by omega)).mono ?_; rintro e w' ⟨rfl, hw9⟩; rw [hw9]; clear hw9 w'))
  have ht1r : w'.cell? ⟨bt, ot + kt * 3 + 1, none⟩ = some (.int .i64 pt) := (Below.cell (p := ⟨bt, _, none⟩) (show Below w.heap.size w w' by (repeat' (first | exact Below.refl _ _ | assumption | refine Below.setCell ?_ ?_ _ | refine Below.drew ?_ | refine Below.alloc ?_ ?_ _ | refine Below.trans ?_ (Below.mono (by assumption) ?_) | (simp; done) | (simp; omega) | omega))) hbt).trans ht1
  clear hc hf hz
  go_region_held3 (fun q => q.cell? ⟨bt, ot + kt * 3 + 1, none⟩ = some (.int .i64 pt)) (first | assumption | exact ht1r) (fail)
  go_wp2_with (fail)
  go_loopw [12, 13, 14, 15] (fun tw al pc i wr => ∃ k : Nat, k ≤ js.length ∧ i = .int .i64 k ∧ tw = .int .i64 (towdK ts js who k z) ∧ al = .int .i64 (othK ts js who k z) ∧ pc = .int .i64 ((towS ts js who k).1 z) ∧ Below w.heap.size w wr) (fun _ _ _ i _ => js.length - (intOf i).toNat)
  case atStart => exact ⟨0, Nat.zero_le _, rfl, rfl, rfl, by rw [← HPL.out]; rfl, by (repeat' (first | exact Below.refl _ _ | assumption | refine Below.setCell ?_ ?_ _ | refine Below.drew ?_ | refine Below.alloc ?_ ?_ _ | refine Below.trans ?_ (Below.mono (by assumption) ?_) | (simp; done) | (simp; omega) | omega))⟩
  case round =>
    obtain ⟨k, hk, rfl, rfl, rfl, rfl, hbr⟩ := hrel
    clear hb ht1 ht1r
    by_cases hlt : k < js.length
    rotate_left
    · obtain rfl : k = js.length := by omega
      go_wp2_with (fail)
      refine bodyPost_ret (results_tmp3 rfl _ _ _) rfl ?_
      exact ⟨by first | (rw [HV.out]; done) | (rw [HV.out]; rfl), by (repeat' (first | exact Below.refl _ _ | assumption | refine Below.setCell ?_ ?_ _ | refine Below.drew ?_ | refine Below.alloc ?_ ?_ _ | refine Below.trans ?_ (Below.mono (by assumption) ?_) | (simp; done) | (simp; omega) | omega))⟩
    have hltw : k < who.length := by omega
    obtain ⟨_, _, e3, e4, e5, _⟩ := tow_step2 (ts := ts) (js := js) (who := who) k hlt hltw
    obtain ⟨bx, ox, rfl, hbx, hcx⟩ := HR.out k who[k] (List.getElem?_eq_getElem hltw)
    have hx0 := hcx 0 _ rfl
    simp only [Nat.add_zero, Nat.mul_one] at hx0
    obtain ⟨bj, oj, rfl, hbj, hcj⟩ := HY.out k js[k] (List.getElem?_eq_getElem hlt)
    have hj1 := hcj 1 _ rfl
    have hj2 := hcj 2 _ rfl
    have hjb := jobOk_bd (vB_at hj5 k hlt)
    have hps := (towS_bd (who := who) ht4 hj5 k z).1
    have hd1b := towdK_bd (ts := ts) (who := who) hj5 k z
    have hd2b := othK_bd (who := who) ht4 hj5 k z
    have hx0r : wr.cell? ⟨bx, ox + k, none⟩ = some (.int .i64 who[k]) := (hbr.cell (p := ⟨bx, _, none⟩) hbx).trans hx0
    have hj1r : wr.cell? ⟨bj, oj + k * 5 + 1, none⟩ = some (.int .i64 js[k].2.1) := (hbr.cell (p := ⟨bj, _, none⟩) hbj).trans hj1
    have hj2r : wr.cell? ⟨bj, oj + k * 5 + 2, none⟩ = some (.int .i64 js[k].2.2.1) := (hbr.cell (p := ⟨bj, _, none⟩) hbj).trans hj2
    have e3z := congrFun e3 z
    have e4z := congrFun e4 z
    have e5z := congrFun e5 z
    by_cases hxz : who[k] = z
    · rw [if_pos hxz.symm] at e3z e4z e5z
      rw [hxz] at hx0r e3z e4z
      have E3 := hid e3z
      have E4 := hid e4z
      have E5 := hid e5z
      clear hcx hcj e3 e4 e5 e3z e4z e5z hx0 hj1 hj2 hxz
      generalize js[k] = j at *
      generalize towdK ts js who k z = d1 at *
      generalize othK ts js who k z = d2 at *
      generalize (towS ts js who k).1 z = px at *
      have hwy := absI_bd hps ⟨hjb.2.2.1, hjb.2.2.2.1⟩
      have hrn := absI_bd (a := j.2.1) (b := j.2.2.1) (by omega) (by omega)
      have hwr1 := wr_id2 (x := d1 + absI (j.2.1 - j.2.2.1)) (by omega)
      go_wp2_with (go_at_call 53; refine (p_farI _ _ _ (by omega) (by omega)).mono ?_; rintro e w' ⟨rfl, hw9⟩; rw [hw9]; clear hw9 w')
      go_region_held3 (fun q => q = wr.drew) (first | rfl | assumption) (first | (go_at_call 53; refine (p_farI _ _ _ (by omega) (by omega)).mono ?_; rintro e w' ⟨rfl, hw9⟩; rw [hw9]; clear hw9 w'))
      go_wp2_with (fail)
      go_roundw
      case rel => exact ⟨k + 1, by omega, by go_num, by rw [E3.out], by rw [E4.out], by rw [E5.out], by (repeat' (first | exact Below.refl _ _ | assumption | refine Below.setCell ?_ ?_ _ | refine Below.drew ?_ | refine Below.alloc ?_ ?_ _ | refine Below.trans ?_ (Below.mono (by assumption) ?_) | (simp; done) | (simp; omega) | omega))⟩
      case measure => simp [intOf]; omega
    · have hxz2 : ¬ z = who[k] := fun e => hxz e.symm
      rw [if_neg hxz2] at e3z e4z e5z
      have E3 := hid e3z
      have E4 := hid e4z
      have E5 := hid e5z
      clear hcx hcj e3 e4 e5 e3z e4z e5z hx0 hj1 hj2 hxz2
      generalize who[k] = x at *
      go_wp2_with (fail)
      go_roundw
      case rel => exact ⟨k + 1, by omega, by go_num, by rw [E3.out], by rw [E4.out], by rw [E5.out], by (repeat' (first | exact Below.refl _ _ | assumption | refine Below.setCell ?_ ?_ _ | refine Below.drew ?_ | refine Below.alloc ?_ ?_ _ | refine Below.trans ?_ (Below.mono (by assumption) ?_) | (simp; done) | (simp; omega) | omega))⟩
      case measure => simp [intOf]; omega

end Go.Proofs.Ytipipicfkjigdaa
