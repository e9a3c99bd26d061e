import Derived.Test.YtipipicfkjigdaaT1
import Derived.Test.YtipipicfkjigdaaH2s
import Derived.Test.YtipipicfkjigdaaH3s
import Derived.Deep.RegionHeld3
import Derived.BigQuiet
import Derived.Deep.QuietTactic
namespace Go.Proofs.Ytipipicfkjigdaa
set_option linter.unusedSimpArgs false
set_option linter.unusedVariables false
open Go.RowKit

theorem below_drewN2 {B n : Nat} {a w : World} (h : Below B a w) : Below B a (w.drewN n) := ⟨h.os, h.tape, h.output, h.size, h.block⟩

def twhoB (ts : List TugT) (js : List JobT) (who : List Int) : Bool := vB tugOk tugLt 4 ts && vB jobOk jobLt 5 js && decide (who.length ≤ js.length) && whoB ts js who who.length

set_option maxRecDepth 100000 in
set_option maxHeartbeats 8000000 in
theorem c_spec_l17Who (A : Option Addr) (ts : List TugT) (capt : Nat) (B : Option Addr) (js : List JobT) (capj : Nat) (C : Option Addr) (who : List Int) (capw : Nat) (w : World) (hx : Rds cTug 3 w A ts) (hn : ts.length ≤ 9223372036854775807) (hy : Rds cJob 5 w B js) (hm : js.length ≤ 9223372036854775807) (hr : Rds cIn 1 w C who) (hq : who.length ≤ 9223372036854775807) :
    Calls Try.prog 69 #[.slice A ts.length capt, .slice B js.length capj, .slice C who.length capw] w fun e w' => e = .returned (.bool (twhoB ts js who)) ∧ Below w.heap.size w w' := by
  by_cases hs0 : vB tugOk tugLt 4 ts = true
  rotate_left
  · have hn0 : vB tugOk tugLt 4 ts = false := Bool.eq_false_iff.2 hs0
    have HV := hid (show (twhoB ts js who) = false by simp [twhoB, hn0])
    clear hs0
    go_enter Try.func69, Try.ntmps69
    go_wp2_with (first | (go_at_call 43; refine (c_spec_l17Tugs _ _ _ _ (by first | assumption | exact Rds.below hx (by (repeat' (first | exact Below.refl _ _ | assumption | refine Below.setCell ?_ ?_ _ | refine Below.drew ?_ | refine Below.alloc ?_ ?_ _ | refine Below.trans ?_ (Below.mono (by assumption) ?_) | (simp; done) | (simp; omega) | omega)))) (by omega)).mono ?_; rintro e w' ⟨rfl, hb⟩; have hc := cellOf hb; have hf := frozOf hb; have hz := sizeOf hb; try simp at hz) | (go_at_call 49; refine (c_spec_l17Jobs _ _ _ _ (by first | assumption | exact Rds.below hy (by (repeat' (first | exact Below.refl _ _ | assumption | refine Below.setCell ?_ ?_ _ | refine Below.drew ?_ | refine Below.alloc ?_ ?_ _ | refine Below.trans ?_ (Below.mono (by assumption) ?_) | (simp; done) | (simp; omega) | omega)))) (by omega)).mono ?_; rintro e w' ⟨rfl, hb⟩; have hc := cellOf hb; have hf := frozOf hb; have hz := sizeOf hb; try simp at hz))
    go_ret
    exact ⟨ret_bool (by rw [HV.out]), by (repeat' (first | exact Below.refl _ _ | assumption | refine Below.setCell ?_ ?_ _ | refine Below.drew ?_ | refine Below.alloc ?_ ?_ _ | refine Below.trans ?_ (Below.mono (by assumption) ?_) | (simp; done) | (simp; omega) | omega))⟩
  by_cases hs1 : vB jobOk jobLt 5 js = true
  rotate_left
  · have hn1 : vB jobOk jobLt 5 js = false := Bool.eq_false_iff.2 hs1
    have HV := hid (show (twhoB ts js who) = false by simp [twhoB, hn1])
    clear hs1
    go_enter Try.func69, Try.ntmps69
    go_wp2_with (first | (go_at_call 43; refine (c_spec_l17Tugs _ _ _ _ (by first | assumption | exact Rds.below hx (by (repeat' (first | exact Below.refl _ _ | assumption | refine Below.setCell ?_ ?_ _ | refine Below.drew ?_ | refine Below.alloc ?_ ?_ _ | refine Below.trans ?_ (Below.mono (by assumption) ?_) | (simp; done) | (simp; omega) | omega)))) (by omega)).mono ?_; rintro e w' ⟨rfl, hb⟩; have hc := cellOf hb; have hf := frozOf hb; have hz := sizeOf hb; try simp at hz) | (go_at_call 49; refine (c_spec_l17Jobs _ _ _ _ (by first | assumption | exact Rds.below hy (by (repeat' (first | exact Below.refl _ _ | assumption | refine Below.setCell ?_ ?_ _ | refine Below.drew ?_ | refine Below.alloc ?_ ?_ _ | refine Below.trans ?_ (Below.mono (by assumption) ?_) | (simp; done) | (simp; omega) | omega)))) (by omega)).mono ?_; rintro e w' ⟨rfl, hb⟩; have hc := cellOf hb; have hf := frozOf hb; have hz := sizeOf hb; try simp at hz))
    go_ret
    exact ⟨ret_bool (by rw [HV.out]), by (repeat' (first | exact Below.refl _ _ | assumption | refine Below.setCell ?_ ?_ _ | refine Below.drew ?_ | refine Below.alloc ?_ ?_ _ | refine Below.trans ?_ (Below.mono (by assumption) ?_) | (simp; done) | (simp; omega) | omega))⟩
  by_cases hs2 : who.length ≤ js.length
  rotate_left
  · have HV := hid (show (twhoB ts js who) = false by simp [twhoB, hs2])
    have hs3 : (js.length : Int) < (who.length : Int) := by omega
    clear hs2
    go_enter Try.func69, Try.ntmps69
    go_wp2_with (first | (go_at_call 43; refine (c_spec_l17Tugs _ _ _ _ (by first | assumption | exact Rds.below hx (by (repeat' (first | exact Below.refl _ _ | assumption | refine Below.setCell ?_ ?_ _ | refine Below.drew ?_ | refine Below.alloc ?_ ?_ _ | refine Below.trans ?_ (Below.mono (by assumption) ?_) | (simp; done) | (simp; omega) | omega)))) (by omega)).mono ?_; rintro e w' ⟨rfl, hb⟩; have hc := cellOf hb; have hf := frozOf hb; have hz := sizeOf hb; try simp at hz) | (go_at_call 49; refine (c_spec_l17Jobs _ _ _ _ (by first | assumption | exact Rds.below hy (by (repeat' (first | exact Below.refl _ _ | assumption | refine Below.setCell ?_ ?_ _ | refine Below.drew ?_ | refine Below.alloc ?_ ?_ _ | refine Below.trans ?_ (Below.mono (by assumption) ?_) | (simp; done) | (simp; omega) | omega)))) (by omega)).mono ?_; rintro e w' ⟨rfl, hb⟩; have hc := cellOf hb; have hf := frozOf hb; have hz := sizeOf hb; try simp at hz))
    go_ret
    exact ⟨ret_bool (by rw [HV.out]), by (repeat' (first | exact Below.refl _ _ | assumption | refine Below.setCell ?_ ?_ _ | refine Below.drew ?_ | refine Below.alloc ?_ ?_ _ | refine Below.trans ?_ (Below.mono (by assumption) ?_) | (simp; done) | (simp; omega) | omega))⟩
  have HV := hid (show (twhoB ts js who) = whoB ts js who who.length by simp [twhoB, hs0, hs1, hs2])
  have hw5 : who.length ≤ 5 := by have := vB_len hs1; omega
  have hlj : who.length ≤ js.length := by omega
  skip
  have hs3 : ¬ (js.length : Int) < (who.length : Int) := by first | omega | (simp; omega)
  have hs4 : decide (js.length < who.length) = false := by simp; omega
  clear hs2
  go_enter Try.func69, Try.ntmps69
  go_wp2_with (first | (go_at_call 43; refine (c_spec_l17Tugs _ _ _ _ (by first | assumption | exact Rds.below hx (by (repeat' (first | exact Below.refl _ _ | assumption | refine Below.setCell ?_ ?_ _ | refine Below.drew ?_ | refine Below.alloc ?_ ?_ _ | refine Below.trans ?_ (Below.mono (by assumption) ?_) | (simp; done) | (simp; omega) | omega)))) (by omega)).mono ?_; rintro e w' ⟨rfl, hb⟩; have hc := cellOf hb; have hf := frozOf hb; have hz := sizeOf hb; try simp at hz) | (go_at_call 49; refine (c_spec_l17Jobs _ _ _ _ (by first | assumption | exact Rds.below hy (by (repeat' (first | exact Below.refl _ _ | assumption | refine Below.setCell ?_ ?_ _ | refine Below.drew ?_ | refine Below.alloc ?_ ?_ _ | refine Below.trans ?_ (Below.mono (by assumption) ?_) | (simp; done) | (simp; omega) | omega)))) (by omega)).mono ?_; rintro e w' ⟨rfl, hb⟩; have hc := cellOf hb; have hf := frozOf hb; have hz := sizeOf hb; try simp at hz))
  clear hs0 hs1
  go_loopw [7] (fun i wr => ∃ k : Nat, k ≤ who.length ∧ i = .int .i64 k ∧ whoB ts js who k = true ∧ Below w.heap.size w wr) (fun i _ => who.length - (intOf i).toNat)
  case atStart => exact ⟨0, Nat.zero_le _, rfl, rfl, by (repeat' (first | exact Below.refl _ _ | assumption | refine Below.setCell ?_ ?_ _ | refine Below.drew ?_ | refine Below.alloc ?_ ?_ _ | refine Below.trans ?_ (Below.mono (by assumption) ?_) | (simp; done) | (simp; omega) | omega))⟩
  case round =>
    obtain ⟨k, hk, rfl, hl, hbr⟩ := hrel
    have HT := hid hl
    clear hl 
    have hc := cellOf hbr
    have hf := frozOf hbr
    have hz := sizeOf hbr
    by_cases hlt : k < who.length
    rotate_left
    · obtain rfl : k = who.length := by omega
      go_wp2_with (fail)
      go_ret
      exact ⟨ret_bool (by rw [HV.out, HT.out]), by (repeat' (first | exact Below.refl _ _ | assumption | refine Below.setCell ?_ ?_ _ | refine Below.drew ?_ | refine Below.alloc ?_ ?_ _ | refine Below.trans ?_ (Below.mono (by assumption) ?_) | (simp; done) | (simp; omega) | omega))⟩
    have hltj : k < js.length := by omega
    obtain ⟨bx, ox, rfl, hbx, hcx⟩ := hr k who[k] (List.getElem?_eq_getElem hlt)
    have hx0 := hcx 0 _ rfl
    simp only [Nat.add_zero, Nat.mul_one] at hx0
    obtain ⟨bj, oj, rfl, hbj, hcj⟩ := hy k js[k] (List.getElem?_eq_getElem hltj)
    have hj3 := hcj 3 _ rfl
    have HM := hid (fun e => whoB_miss (ts := ts) (js := js) (who := who) hlt e)
    have HS := hid (whoB_succ (ts := ts) (js := js) (who := who) k)
    have hgx : who.getD k 0 = who[k] := by rw [List.getD_eq_getElem?_getD, List.getElem?_eq_getElem hlt]; rfl
    have hgj : js.getD k j0 = js[k] := by rw [List.getD_eq_getElem?_getD, List.getElem?_eq_getElem hltj]; rfl
    rw [hgx, hgj] at HM HS
    have HXA := hid hx
    clear hcx hcj hr hy hgx hgj hx
    generalize who[k] = x at *
    generalize js[k] = j at *
    by_cases hi0 : 0 ≤ tix ts x
    rotate_left
    · have HW : Hid (whoOk ts x j.2.2.2.1 = false) := by show _ = _; simp [whoOk, hi0]
      have hi1 : tix ts x < 0 := by omega
      go_wp2_with (go_at_call 66; refine (c_spec_l17Find _ _ _ _ _ (Rds.below HXA.out (by (repeat' (first | exact Below.refl _ _ | assumption | refine Below.setCell ?_ ?_ _ | refine Below.drew ?_ | refine Below.alloc ?_ ?_ _ | refine Below.trans ?_ (Below.mono (by assumption) ?_) | (simp; done) | (simp; omega) | omega)))) (by omega)).mono ?_; rintro e w' ⟨rfl, rfl⟩)
      go_quiet (fail)
      go_wp2_with (fail)
      go_ret
      exact ⟨ret_bool (by rw [HV.out, HM.out HW.out]), below_drewN2 (by (repeat' (first | exact Below.refl _ _ | assumption | refine Below.setCell ?_ ?_ _ | refine Below.drew ?_ | refine Below.alloc ?_ ?_ _ | refine Below.trans ?_ (Below.mono (by assumption) ?_) | (simp; done) | (simp; omega) | omega)))⟩
    obtain ⟨kt, hkt, hix, hid1⟩ := tix_hit hi0
    obtain ⟨bt, ot, hA, hbt, hct⟩ := HXA.out kt ts[kt] (List.getElem?_eq_getElem hkt)
    have ht2 := hct 2 _ rfl
    have hgt : ts.getD kt t0 = ts[kt] := by rw [List.getD_eq_getElem?_getD, List.getElem?_eq_getElem hkt]; rfl
    have HW := hid (show whoOk ts x j.2.2.2.1 = decide (0 ≤ tix ts x ∧ j.2.2.2.1 ≤ ts[kt].2.2) by unfold whoOk; rw [hix, Int.toNat_natCast, hgt])
    clear hgt hct hid1
    subst hA
    generalize ts[kt] = t at *
    by_cases hp : j.2.2.2.1 ≤ t.2.2
    · have HW2 : Hid (whoOk ts x j.2.2.2.1 = true) := HW.out.trans (by simp [hi0, hp])
      clear HW hi0
      go_wp2_with (go_at_call 66; refine (c_spec_l17Find _ _ _ _ _ (Rds.below HXA.out (by (repeat' (first | exact Below.refl _ _ | assumption | refine Below.setCell ?_ ?_ _ | refine Below.drew ?_ | refine Below.alloc ?_ ?_ _ | refine Below.trans ?_ (Below.mono (by assumption) ?_) | (simp; done) | (simp; omega) | omega)))) (by omega)).mono ?_; rintro e w' ⟨rfl, rfl⟩)
      go_region_held3 (fun w' => w'.cell? ⟨bt, ot + kt * 3 + 2, none⟩ = some (.int .i64 t.2.2) ∧ w'.cell? ⟨bj, oj + k * 5 + 3, none⟩ = some (.int .i64 j.2.2.2.1)) (first | assumption | (refine ⟨?_, ?_⟩ <;> simp [go_sem, ↓IntWalk.iteOmega, *])) (fail)
      go_wp2_with (fail)
      go_roundw
      case rel => exact ⟨k + 1, by omega, by go_num, by rw [HS.out, HT.out, HW2.out]; rfl, by (repeat' (first | exact Below.refl _ _ | assumption | refine Below.setCell ?_ ?_ _ | refine Below.drew ?_ | refine Below.alloc ?_ ?_ _ | refine Below.trans ?_ (Below.mono (by assumption) ?_) | (simp; done) | (simp; omega) | omega))⟩
      case measure => simp [intOf]; omega
    · have HW2 : Hid (whoOk ts x j.2.2.2.1 = false) := HW.out.trans (by simp [hp])
      have hp2 : t.2.2 < j.2.2.2.1 := by omega
      clear HW hi0
      go_wp2_with (go_at_call 66; refine (c_spec_l17Find _ _ _ _ _ (Rds.below HXA.out (by (repeat' (first | exact Below.refl _ _ | assumption | refine Below.setCell ?_ ?_ _ | refine Below.drew ?_ | refine Below.alloc ?_ ?_ _ | refine Below.trans ?_ (Below.mono (by assumption) ?_) | (simp; done) | (simp; omega) | omega)))) (by omega)).mono ?_; rintro e w' ⟨rfl, rfl⟩)
      go_region_held3 (fun w' => w'.cell? ⟨bt, ot + kt * 3 + 2, none⟩ = some (.int .i64 t.2.2) ∧ w'.cell? ⟨bj, oj + k * 5 + 3, none⟩ = some (.int .i64 j.2.2.2.1)) (first | assumption | (refine ⟨?_, ?_⟩ <;> simp [go_sem, ↓IntWalk.iteOmega, *])) (fail)
      go_wp2_with (fail)
      go_ret
      exact ⟨ret_bool (by rw [HV.out, HM.out HW2.out]), by (repeat' (first | exact Below.refl _ _ | assumption | refine Below.setCell ?_ ?_ _ | refine Below.drew ?_ | refine Below.alloc ?_ ?_ _ | refine Below.trans ?_ (Below.mono (by assumption) ?_) | (simp; done) | (simp; omega) | omega))⟩

theorem tplan_who (ts : List TugT) (js : List JobT) (who : List Int) : tplanB ts js who = (twhoB ts js who && decide (who.length = js.length)) := by
  unfold tplanB twhoB
  by_cases h : who.length = js.length
  · simp [h]
  · simp [h]

set_option maxHeartbeats 2000000 in
theorem c_spec_l17Asked (A : Option Addr) (ts : List TugT) (capt : Nat) (B : Option Addr) (js : List JobT) (capj : Nat) (C : Option Addr) (who : List Int) (capw : Nat) (w : World) (hx : Rds cTug 3 w A ts) (hn : ts.length ≤ 9223372036854775807) (hy : Rds cJob 5 w B js) (hm : js.length ≤ 9223372036854775807) (hr : Rds cIn 1 w C who) (hq : who.length ≤ 9223372036854775807) :
    Calls Try.prog 56 #[.slice A ts.length capt, .slice B js.length capj, .slice C who.length capw] w fun e w' => e = .returned (.bool (tplanB ts js who)) ∧ Below w.heap.size w w' := by
  have HV := hid (tplan_who ts js who)
  by_cases h1 : twhoB ts js who = true
  · by_cases h2 : who.length = js.length
    · have HV2 : Hid (tplanB ts js who = true) := HV.out.trans (by simp [h1, h2])
      have h3 : (who.length : Int) = (js.length : Int) := by omega
      clear h2
      go_enter Try.func56, Try.ntmps56
      go_wp2_with (go_at_call 69; refine (c_spec_l17Who _ _ _ _ _ _ _ _ _ _ (by first | assumption | exact Rds.below hx (by (repeat' (first | exact Below.refl _ _ | assumption | refine Below.setCell ?_ ?_ _ | refine Below.drew ?_ | refine Below.alloc ?_ ?_ _ | refine Below.trans ?_ (Below.mono (by assumption) ?_) | (simp; done) | (simp; omega) | omega)))) (by omega) (by first | assumption | exact Rds.below hy (by (repeat' (first | exact Below.refl _ _ | assumption | refine Below.setCell ?_ ?_ _ | refine Below.drew ?_ | refine Below.alloc ?_ ?_ _ | refine Below.trans ?_ (Below.mono (by assumption) ?_) | (simp; done) | (simp; omega) | omega)))) (by omega) (by first | assumption | exact Rds.below hr (by (repeat' (first | exact Below.refl _ _ | assumption | refine Below.setCell ?_ ?_ _ | refine Below.drew ?_ | refine Below.alloc ?_ ?_ _ | refine Below.trans ?_ (Below.mono (by assumption) ?_) | (simp; done) | (simp; omega) | omega)))) (by omega)).mono ?_; rintro e w' ⟨rfl, hb⟩; have hc := cellOf hb; have hf := frozOf hb; have hz := sizeOf hb; try simp at hz)
      go_ret
      exact ⟨ret_bool (by rw [HV2.out]; try simp [h3]), by (repeat' (first | exact Below.refl _ _ | assumption | refine Below.setCell ?_ ?_ _ | refine Below.drew ?_ | refine Below.alloc ?_ ?_ _ | refine Below.trans ?_ (Below.mono (by assumption) ?_) | (simp; done) | (simp; omega) | omega))⟩
    · have HV2 : Hid (tplanB ts js who = false) := HV.out.trans (by simp [h2])
      have h3 : ¬ (who.length : Int) = (js.length : Int) := by omega
      go_enter Try.func56, Try.ntmps56
      go_wp2_with (go_at_call 69; refine (c_spec_l17Who _ _ _ _ _ _ _ _ _ _ (by first | assumption | exact Rds.below hx (by (repeat' (first | exact Below.refl _ _ | assumption | refine Below.setCell ?_ ?_ _ | refine Below.drew ?_ | refine Below.alloc ?_ ?_ _ | refine Below.trans ?_ (Below.mono (by assumption) ?_) | (simp; done) | (simp; omega) | omega)))) (by omega) (by first | assumption | exact Rds.below hy (by (repeat' (first | exact Below.refl _ _ | assumption | refine Below.setCell ?_ ?_ _ | refine Below.drew ?_ | refine Below.alloc ?_ ?_ _ | refine Below.trans ?_ (Below.mono (by assumption) ?_) | (simp; done) | (simp; omega) | omega)))) (by omega) (by first | assumption | exact Rds.below hr (by (repeat' (first | exact Below.refl _ _ | assumption | refine Below.setCell ?_ ?_ _ | refine Below.drew ?_ | refine Below.alloc ?_ ?_ _ | refine Below.trans ?_ (Below.mono (by assumption) ?_) | (simp; done) | (simp; omega) | omega)))) (by omega)).mono ?_; rintro e w' ⟨rfl, hb⟩; have hc := cellOf hb; have hf := frozOf hb; have hz := sizeOf hb; try simp at hz)
      go_ret
      exact ⟨ret_bool (by rw [HV2.out]; try simp [h3]), by (repeat' (first | exact Below.refl _ _ | assumption | refine Below.setCell ?_ ?_ _ | refine Below.drew ?_ | refine Below.alloc ?_ ?_ _ | refine Below.trans ?_ (Below.mono (by assumption) ?_) | (simp; done) | (simp; omega) | omega))⟩
  · have h1f : twhoB ts js who = false := Bool.eq_false_iff.2 h1
    have HV2 : Hid (tplanB ts js who = false) := HV.out.trans (by simp [h1f])
    clear h1
    go_enter Try.func56, Try.ntmps56
    go_wp2_with (go_at_call 69; refine (c_spec_l17Who _ _ _ _ _ _ _ _ _ _ (by first | assumption | exact Rds.below hx (by (repeat' (first | exact Below.refl _ _ | assumption | refine Below.setCell ?_ ?_ _ | refine Below.drew ?_ | refine Below.alloc ?_ ?_ _ | refine Below.trans ?_ (Below.mono (by assumption) ?_) | (simp; done) | (simp; omega) | omega)))) (by omega) (by first | assumption | exact Rds.below hy (by (repeat' (first | exact Below.refl _ _ | assumption | refine Below.setCell ?_ ?_ _ | refine Below.drew ?_ | refine Below.alloc ?_ ?_ _ | refine Below.trans ?_ (Below.mono (by assumption) ?_) | (simp; done) | (simp; omega) | omega)))) (by omega) (by first | assumption | exact Rds.below hr (by (repeat' (first | exact Below.refl _ _ | assumption | refine Below.setCell ?_ ?_ _ | refine Below.drew ?_ | refine Below.alloc ?_ ?_ _ | refine Below.trans ?_ (Below.mono (by assumption) ?_) | (simp; done) | (simp; omega) | omega)))) (by omega)).mono ?_; rintro e w' ⟨rfl, hb⟩; have hc := cellOf hb; have hf := frozOf hb; have hz := sizeOf hb; try simp at hz)
    go_ret
    exact ⟨ret_bool (by rw [HV2.out]), by (repeat' (first | exact Below.refl _ _ | assumption | refine Below.setCell ?_ ?_ _ | refine Below.drew ?_ | refine Below.alloc ?_ ?_ _ | refine Below.trans ?_ (Below.mono (by assumption) ?_) | (simp; done) | (simp; omega) | omega))⟩

end Go.Proofs.Ytipipicfkjigdaa
