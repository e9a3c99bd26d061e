import Derived.Test.YteciijnpfapmhaaG1i
import Derived.Test.YteciijnpfapmhaaG2i
import Derived.Test.YteciijnpfapmhaaG6
namespace Go.Proofs.Yteciijnpfapmhaa
set_option linter.unusedSimpArgs false
set_option linter.unusedVariables false
open Go.RowKit

set_option maxRecDepth 100000 in
set_option maxHeartbeats 4000000 in
theorem c_impl_lastOpening (d : Int) (A : Option Addr) (xs : List (Int × Int)) (n cap : Nat) (f t : Int) (w : World) (hx : Rds cIv 2 w A xs) (hxl : xs.length = n) (hn : xs.length ≤ 9223372036854775807) (hok : ∀ k (hk : k < xs.length), ivP xs[k]) (hd : 1 ≤ d ∧ d ≤ 30) (hft : 0 ≤ f ∧ f ≤ 99999 ∧ -1 ≤ t ∧ t ≤ 99999) :
    Calls Try.prog 60 #[.agg #[.int .i64 d, .slice A n cap], .int .i64 f, .int .i64 t] w fun e w' => e = .returned (.tuple #[.int .i64 (lastR (lastF d xs f t)).1, .bool (lastR (lastF d xs f t)).2]) ∧ Below w.heap.size w w' := by
  subst hxl
  go_enter Try.func60, Try.ntmps60
  go_wp2_with (fail)
  go_loopw [8] (fun p wr => ∃ j : Nat, p = .int .i64 (t - (j : Int)) ∧ -1 ≤ t - (j : Int) ∧ (∀ v : Int, t - (j : Int) < v → v ≤ t → mayB d xs v = false) ∧ wr.cell? ⟨w.heap.size, 0, none⟩ = some (.int .i64 d) ∧ wr.cell? ⟨w.heap.size, 1, none⟩ = some (.slice A xs.length cap) ∧ w.heap.size + 1 ≤ wr.heap.size ∧ Below w.heap.size w wr) (fun p _ => (intOf p - f + 1).toNat)
  case atStart =>
    refine ⟨0, by simp, by omega, fun v h1 h2 => absurd h1 (by omega), ?_, ?_, ?_, by (repeat' (first | exact Below.refl _ _ | assumption | refine Below.setCell ?_ ?_ _ | refine Below.drew ?_ | refine Below.alloc ?_ ?_ _ | refine Below.trans ?_ (Below.mono (by assumption) ?_) | (simp; done) | (simp; omega) | omega))⟩
    all_goals first | (simp [go_sem, ↓IntWalk.iteOmega, *]; done) | (simp at *; omega)
  case round =>
    obtain ⟨j, rfl, hj, hl, hp0, hp1, hzz, hbr⟩ := hrel
    have hc := cellOf hbr
    have hf := frozOf hbr
    have hz := sizeOf hbr
    have hp0' : far wr w.heap.size 0 = _ := hp0
    have hp1' : far wr w.heap.size 1 = _ := hp1
    have HL := hid hl
    clear hl
    by_cases hlt : f ≤ t - (j : Int)
    rotate_left
    · have HE := hid (lastF_none (d := d) (xs := xs) (f := f) (t := t) (fun v h1 h2 => HL.out v (by omega) h2))
      go_wp2_with (fail)
      go_ret2
      exact ⟨by first | (rw [HE.out]; done) | (rw [HE.out]; rfl), by (repeat' (first | exact Below.refl _ _ | assumption | refine Below.setCell ?_ ?_ _ | refine Below.drew ?_ | refine Below.alloc ?_ ?_ _ | refine Below.trans ?_ (Below.mono (by assumption) ?_) | (simp; done) | (simp; omega) | omega))⟩
    by_cases hm : mayB d xs (t - (j : Int)) = true
    · have HE := hid (lastF_hit (f := f) hlt (by omega) HL.out hm)
      go_wp2_with (first | (go_at_call 58; refine (c_impl_mayOpen _ _ _ _ _ _ _ (by first | assumption | exact Rds.below hx (by (repeat' (first | exact Below.refl _ _ | assumption | refine Below.setCell ?_ ?_ _ | refine Below.drew ?_ | refine Below.alloc ?_ ?_ _ | refine Below.trans ?_ (Below.mono (by assumption) ?_) | (simp; done) | (simp; omega) | omega)))) rfl (by omega) hok (by omega) (by omega)).mono ?_; rintro e w' ⟨rfl, hb⟩; have hc := cellOf hb; have hf := frozOf hb; have hz := sizeOf hb; try simp at hz))
      go_ret2
      exact ⟨by first | (rw [HE.out]; done) | (rw [HE.out]; rfl), by (repeat' (first | exact Below.refl _ _ | assumption | refine Below.setCell ?_ ?_ _ | refine Below.drew ?_ | refine Below.alloc ?_ ?_ _ | refine Below.trans ?_ (Below.mono (by assumption) ?_) | (simp; done) | (simp; omega) | omega))⟩
    · have hmf : mayB d xs (t - (j : Int)) = false := by simpa using hm
      have HM := hid hmf
      clear hm
      go_wp2_with (first | (go_at_call 58; refine (c_impl_mayOpen _ _ _ _ _ _ _ (by first | assumption | exact Rds.below hx (by (repeat' (first | exact Below.refl _ _ | assumption | refine Below.setCell ?_ ?_ _ | refine Below.drew ?_ | refine Below.alloc ?_ ?_ _ | refine Below.trans ?_ (Below.mono (by assumption) ?_) | (simp; done) | (simp; omega) | omega)))) rfl (by omega) hok (by omega) (by omega)).mono ?_; rintro e w' ⟨rfl, hb⟩; have hc := cellOf hb; have hf := frozOf hb; have hz := sizeOf hb; try simp at hz))
      go_roundw
      case rel =>
        refine ⟨j + 1, by go_num, by omega, fun v h1 h2 => ?_, ?_, ?_, ?_, by (repeat' (first | exact Below.refl _ _ | assumption | refine Below.setCell ?_ ?_ _ | refine Below.drew ?_ | refine Below.alloc ?_ ?_ _ | refine Below.trans ?_ (Below.mono (by assumption) ?_) | (simp; done) | (simp; omega) | omega))⟩
        · by_cases hyj : t - (j : Int) < v
          · exact HL.out v hyj h2
          · obtain rfl : v = t - (j : Int) := by omega
            exact HM.out
        all_goals first | (simp [go_sem, ↓IntWalk.iteOmega, *]; done) | omega | (simp [go_sem, ↓IntWalk.iteOmega, *]; omega)
      case measure => simp [intOf]; omega

set_option maxRecDepth 100000 in
set_option maxHeartbeats 4000000 in
theorem c_impl_LastOpening (d : Int) (A : Option Addr) (xs : List (Int × Int)) (cap : Nat) (f t : Int) (w : World) (hx : Rds cIv 2 w A xs) (hn : xs.length ≤ 9223372036854775807) :
    Calls Try.prog 24 #[.agg #[.int .i64 d, .slice A xs.length cap], .int .i64 f, .int .i64 t] w fun e w' => e = .returned (.tuple #[.int .i64 (lastV d xs f t).1, .bool (lastV d xs f t).2]) ∧ Below w.heap.size w w' := by
  by_cases hs0 : brB d xs = true
  rotate_left
  · have hn0 : brB d xs = false := Bool.eq_false_iff.2 hs0
    have HV := hid (show lastV d xs f t = (0, false) by simp [lastV, hn0])
    clear hs0
    go_enter Try.func24, Try.ntmps24
    go_wp2_with (first | (go_at_call 17; refine (c_impl_IsValidBridge _ _ _ _ _ (by first | assumption | exact Rds.below hx (by (repeat' (first | exact Below.refl _ _ | assumption | refine Below.setCell ?_ ?_ _ | refine Below.drew ?_ | refine Below.alloc ?_ ?_ _ | refine Below.trans ?_ (Below.mono (by assumption) ?_) | (simp; done) | (simp; omega) | omega)))) (by omega)).mono ?_; rintro e w' ⟨rfl, hb⟩; have hc := cellOf hb; have hf := frozOf hb; have hz := sizeOf hb; try simp at hz) | (go_at_call 57; refine (c_impl_isMinute _ _ ).mono ?_; rintro e w' ⟨rfl, hb⟩; have hc := cellOf hb; have hf := frozOf hb; have hz := sizeOf hb; try simp at hz))
    all_goals go_ret2
    all_goals exact ⟨by first | (rw [HV.out]; done) | (rw [HV.out]; rfl), by (repeat' (first | exact Below.refl _ _ | assumption | refine Below.setCell ?_ ?_ _ | refine Below.drew ?_ | refine Below.alloc ?_ ?_ _ | refine Below.trans ?_ (Below.mono (by assumption) ?_) | (simp; done) | (simp; omega) | omega))⟩
  by_cases hs1 : minB f = true
  rotate_left
  · have hn1 : minB f = false := Bool.eq_false_iff.2 hs1
    have HV := hid (show lastV d xs f t = (0, false) by simp [lastV, hn1])
    clear hs1
    go_enter Try.func24, Try.ntmps24
    go_wp2_with (first | (go_at_call 17; refine (c_impl_IsValidBridge _ _ _ _ _ (by first | assumption | exact Rds.below hx (by (repeat' (first | exact Below.refl _ _ | assumption | refine Below.setCell ?_ ?_ _ | refine Below.drew ?_ | refine Below.alloc ?_ ?_ _ | refine Below.trans ?_ (Below.mono (by assumption) ?_) | (simp; done) | (simp; omega) | omega)))) (by omega)).mono ?_; rintro e w' ⟨rfl, hb⟩; have hc := cellOf hb; have hf := frozOf hb; have hz := sizeOf hb; try simp at hz) | (go_at_call 57; refine (c_impl_isMinute _ _ ).mono ?_; rintro e w' ⟨rfl, hb⟩; have hc := cellOf hb; have hf := frozOf hb; have hz := sizeOf hb; try simp at hz))
    all_goals go_ret2
    all_goals exact ⟨by first | (rw [HV.out]; done) | (rw [HV.out]; rfl), by (repeat' (first | exact Below.refl _ _ | assumption | refine Below.setCell ?_ ?_ _ | refine Below.drew ?_ | refine Below.alloc ?_ ?_ _ | refine Below.trans ?_ (Below.mono (by assumption) ?_) | (simp; done) | (simp; omega) | omega))⟩
  by_cases hs2 : minB t = true
  rotate_left
  · have hn2 : minB t = false := Bool.eq_false_iff.2 hs2
    have HV := hid (show lastV d xs f t = (0, false) by simp [lastV, hn2])
    clear hs2
    go_enter Try.func24, Try.ntmps24
    go_wp2_with (first | (go_at_call 17; refine (c_impl_IsValidBridge _ _ _ _ _ (by first | assumption | exact Rds.below hx (by (repeat' (first | exact Below.refl _ _ | assumption | refine Below.setCell ?_ ?_ _ | refine Below.drew ?_ | refine Below.alloc ?_ ?_ _ | refine Below.trans ?_ (Below.mono (by assumption) ?_) | (simp; done) | (simp; omega) | omega)))) (by omega)).mono ?_; rintro e w' ⟨rfl, hb⟩; have hc := cellOf hb; have hf := frozOf hb; have hz := sizeOf hb; try simp at hz) | (go_at_call 57; refine (c_impl_isMinute _ _ ).mono ?_; rintro e w' ⟨rfl, hb⟩; have hc := cellOf hb; have hf := frozOf hb; have hz := sizeOf hb; try simp at hz))
    all_goals go_ret2
    all_goals exact ⟨by first | (rw [HV.out]; done) | (rw [HV.out]; rfl), by (repeat' (first | exact Below.refl _ _ | assumption | refine Below.setCell ?_ ?_ _ | refine Below.drew ?_ | refine Below.alloc ?_ ?_ _ | refine Below.trans ?_ (Below.mono (by assumption) ?_) | (simp; done) | (simp; omega) | omega))⟩
  have hfb := minB_bd hs1
  have htb := minB_bd hs2
  have hdb := brB_dur hs0
  have hok := brB_P hs0
  have HV := hid (show lastV d xs f t = lastR (lastF d xs f t) by simp [lastV, hs0, hs1, hs2])
  cases hlf : lastF d xs f t with
  | none =>
    rw [hlf] at HV
    go_enter Try.func24, Try.ntmps24
    go_wp2_with (first | (first | (go_at_call 17; refine (c_impl_IsValidBridge _ _ _ _ _ (by first | assumption | exact Rds.below hx (by (repeat' (first | exact Below.refl _ _ | assumption | refine Below.setCell ?_ ?_ _ | refine Below.drew ?_ | refine Below.alloc ?_ ?_ _ | refine Below.trans ?_ (Below.mono (by assumption) ?_) | (simp; done) | (simp; omega) | omega)))) (by omega)).mono ?_; rintro e w' ⟨rfl, hb⟩; have hc := cellOf hb; have hf := frozOf hb; have hz := sizeOf hb; try simp at hz) | (go_at_call 57; refine (c_impl_isMinute _ _ ).mono ?_; rintro e w' ⟨rfl, hb⟩; have hc := cellOf hb; have hf := frozOf hb; have hz := sizeOf hb; try simp at hz)) | (go_at_call 60; refine (c_impl_lastOpening _ _ _ _ _ _ _ _ (by first | assumption | exact Rds.below hx (by (repeat' (first | exact Below.refl _ _ | assumption | refine Below.setCell ?_ ?_ _ | refine Below.drew ?_ | refine Below.alloc ?_ ?_ _ | refine Below.trans ?_ (Below.mono (by assumption) ?_) | (simp; done) | (simp; omega) | omega)))) rfl (by omega) hok (by omega) (by omega)).mono ?_; simp only [hlf, lastR, lastI]; rintro e w' ⟨rfl, hb⟩; have hc := cellOf hb; have hf := frozOf hb; have hz := sizeOf hb; try simp at hz))
    go_ret2
    exact ⟨by first | (rw [HV.out]; done) | (rw [HV.out]; rfl), by (repeat' (first | exact Below.refl _ _ | assumption | refine Below.setCell ?_ ?_ _ | refine Below.drew ?_ | refine Below.alloc ?_ ?_ _ | refine Below.trans ?_ (Below.mono (by assumption) ?_) | (simp; done) | (simp; omega) | omega))⟩
  | some u =>
    have hub := lastF_some hlf
    have hu0 : 0 ≤ u := by omega
    clear hub
    rw [hlf] at HV
    go_enter Try.func24, Try.ntmps24
    go_wp2_with (first | (first | (go_at_call 17; refine (c_impl_IsValidBridge _ _ _ _ _ (by first | assumption | exact Rds.below hx (by (repeat' (first | exact Below.refl _ _ | assumption | refine Below.setCell ?_ ?_ _ | refine Below.drew ?_ | refine Below.alloc ?_ ?_ _ | refine Below.trans ?_ (Below.mono (by assumption) ?_) | (simp; done) | (simp; omega) | omega)))) (by omega)).mono ?_; rintro e w' ⟨rfl, hb⟩; have hc := cellOf hb; have hf := frozOf hb; have hz := sizeOf hb; try simp at hz) | (go_at_call 57; refine (c_impl_isMinute _ _ ).mono ?_; rintro e w' ⟨rfl, hb⟩; have hc := cellOf hb; have hf := frozOf hb; have hz := sizeOf hb; try simp at hz)) | (go_at_call 60; refine (c_impl_lastOpening _ _ _ _ _ _ _ _ (by first | assumption | exact Rds.below hx (by (repeat' (first | exact Below.refl _ _ | assumption | refine Below.setCell ?_ ?_ _ | refine Below.drew ?_ | refine Below.alloc ?_ ?_ _ | refine Below.trans ?_ (Below.mono (by assumption) ?_) | (simp; done) | (simp; omega) | omega)))) rfl (by omega) hok (by omega) (by omega)).mono ?_; simp only [hlf, lastR, lastI]; rintro e w' ⟨rfl, hb⟩; have hc := cellOf hb; have hf := frozOf hb; have hz := sizeOf hb; try simp at hz))
    go_ret2
    exact ⟨by first | (rw [HV.out]; done) | (rw [HV.out]; rfl), by (repeat' (first | exact Below.refl _ _ | assumption | refine Below.setCell ?_ ?_ _ | refine Below.drew ?_ | refine Below.alloc ?_ ?_ _ | refine Below.trans ?_ (Below.mono (by assumption) ?_) | (simp; done) | (simp; omega) | omega))⟩

end Go.Proofs.Yteciijnpfapmhaa
