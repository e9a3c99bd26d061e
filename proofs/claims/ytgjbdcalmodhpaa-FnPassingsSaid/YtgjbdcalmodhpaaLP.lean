import Derived.Test.YtgjbdcalmodhpaaV3
import Derived.Test.YtgjbdcalmodhpaaQ4
import Derived.Test.YtgjbdcalmodhpaaPL
import Derived.Test.YtgjbdcalmodhpaaDp3
import Derived.Test.YtgjbdcalmodhpaaD8i
import Derived.Test.YtgjbdcalmodhpaaD8s
import Derived.Test.YtgjbdcalmodhpaaE2
import Derived.Test.YtgjbdcalmodhpaaP2
import Derived.Test.YtgjbdcalmodhpaaP3
import Derived.Test.YtgjbdcalmodhpaaP4i
import Derived.Test.YtgjbdcalmodhpaaP4s
import Derived.Test.YtgjbdcalmodhpaaD6i
import Derived.Test.YtgjbdcalmodhpaaD6s
namespace Go.Proofs.Ytgjbdcalmodhpaa
set_option linter.unusedSimpArgs false
set_option linter.unusedVariables false
open Go.RowKit

set_option maxRecDepth 100000 in
set_option maxHeartbeats 16000000 in
theorem c_laws_FnPassings (A : Option Addr) (cs : List Int) (cap : Nat) (w : World) (hr : Rds cB 1 w A cs) (hby : Bytes cs) (hn : cs.length ≤ 9223372036854775807) :
    Calls Try.prog 11 #[.slice A cs.length cap] w fun e w' => e = .returned (.bool true) ∧ Below w.heap.size w w' := by
  by_cases hbig : 65536 < cs.length
  · go_enter Try.func11, Try.ntmps11
    go_wp2_with (fail)
    refine (c_laws_vBig _ _ _ _ (by omega)).mono ?_
    rintro e W1 ⟨rfl, hb1⟩
    simp only [show decide (65536 < cs.length) = true by simp; omega]
    go_wp2_with (fail)
    go_ret
    exact ⟨rfl, by (repeat' (first | exact Below.refl _ _ | assumption | refine Below.setCell ?_ ?_ _ | refine Below.drew ?_ | refine Below.alloc ?_ ?_ _ | refine Below.trans ?_ (Below.mono (by assumption) ?_) | (simp; done) | (simp; omega) | omega))⟩
  go_enter Try.func11, Try.ntmps11
  go_wp2_with (fail)
  refine (c_laws_vBig _ _ _ _ (by omega)).mono ?_
  rintro e W1 ⟨rfl, hb1⟩
  have hc1 := cellOf hb1; have hf1 := frozOf hb1; have hz1 := sizeOf hb1; (try simp at hz1)
  simp only [show decide (65536 < cs.length) = false by simp; omega]
  go_wp2_with (fail)
  refine (c_spec_DrawDelayInTurn A cs cap _ (hr.below (by (repeat' (first | exact Below.refl _ _ | assumption | refine Below.setCell ?_ ?_ _ | refine Below.drew ?_ | refine Below.alloc ?_ ?_ _ | refine Below.trans ?_ (Below.mono (by assumption) ?_) | (simp; done) | (simp; omega) | omega)))) hby (by omega)).mono ?_
  rintro e W2 ⟨A2, cp2, xs, g, rfl, hF2, hxl, hg, hb2⟩
  have hc2 := cellOf hb2; have hf2 := frozOf hb2; have hz2 := sizeOf hb2; (try simp at hz2); have hr2 := hF2.rds; have hlo2 := hF2.lo; have hhi2 := hF2.hi; have HF2 := hid hF2; clear hF2; (try simp at hlo2)
  obtain ⟨out, ok, hT⟩ : ∃ out ok, turnV xs g = (out, ok) := ⟨_, _, rfl⟩
  have hol := turnV_len xs g
  simp only [hT] at hol
  go_wp2_with (fail)
  refine (c_impl_DelayInTurn _ _ _ _ _ (by first | exact hr2 | exact Rds.below hr2 (by (repeat' (first | exact Below.refl _ _ | assumption | refine Below.setCell ?_ ?_ _ | refine Below.drew ?_ | refine Below.alloc ?_ ?_ _ | refine Below.trans ?_ (Below.mono (by assumption) ?_) | (simp; done) | (simp; omega) | omega)))) (by omega)).mono ?_
  rintro e W3 ⟨A3, cp3, rfl, hF3, hb3⟩
  simp only [hT] at hF3 ⊢
  have hc3 := cellOf hb3; have hf3 := frozOf hb3; have hz3 := sizeOf hb3; (try simp at hz3); have hr3 := hF3.rds; have hlo3 := hF3.lo; have hhi3 := hF3.hi; have HF3 := hid hF3; clear hF3; (try simp at hlo3)
  go_wp2_with (fail)
  refine (c_spec_DelayInTurn _ _ _ _ _ (by first | exact hr2 | exact Rds.below hr2 (by (repeat' (first | exact Below.refl _ _ | assumption | refine Below.setCell ?_ ?_ _ | refine Below.drew ?_ | refine Below.alloc ?_ ?_ _ | refine Below.trans ?_ (Below.mono (by assumption) ?_) | (simp; done) | (simp; omega) | omega)))) (by omega)).mono ?_
  rintro e W4 ⟨A4, cp4, rfl, hF4, hb4⟩
  simp only [hT] at hF4 ⊢
  have hc4 := cellOf hb4; have hf4 := frozOf hb4; have hz4 := sizeOf hb4; (try simp at hz4); have hr4 := hF4.rds; have hlo4 := hF4.lo; have hhi4 := hF4.hi; have HF4 := hid hF4; clear hF4; (try simp at hlo4)
  have HT := hid hT
  clear hT
  cases ok
  all_goals
    go_wp2_with (fail)
    refine (c_laws_vPassages _ _ _ _ _ _ (by first | exact hr3 | exact Rds.below hr3 (by (repeat' (first | exact Below.refl _ _ | assumption | refine Below.setCell ?_ ?_ _ | refine Below.drew ?_ | refine Below.alloc ?_ ?_ _ | refine Below.trans ?_ (Below.mono (by assumption) ?_) | (simp; done) | (simp; omega) | omega)))) (by first | exact hr4 | exact Rds.below hr4 (by (repeat' (first | exact Below.refl _ _ | assumption | refine Below.setCell ?_ ?_ _ | refine Below.drew ?_ | refine Below.alloc ?_ ?_ _ | refine Below.trans ?_ (Below.mono (by assumption) ?_) | (simp; done) | (simp; omega) | omega)))) (by omega)).mono ?_
    rintro e W5 ⟨rfl, hb5⟩
    have hc5 := cellOf hb5; have hf5 := frozOf hb5; have hz5 := sizeOf hb5; (try simp at hz5)
    go_wp2_with (fail)
    refine (c_impl_ArePassages _ _ _ _ (by first | exact hr2 | exact Rds.below hr2 (by (repeat' (first | exact Below.refl _ _ | assumption | refine Below.setCell ?_ ?_ _ | refine Below.drew ?_ | refine Below.alloc ?_ ?_ _ | refine Below.trans ?_ (Below.mono (by assumption) ?_) | (simp; done) | (simp; omega) | omega)))) (by omega)).mono ?_
    rintro e W6 ⟨rfl, hb6⟩
    have hc6 := cellOf hb6; have hf6 := frozOf hb6; have hz6 := sizeOf hb6; (try simp at hz6)
    go_wp2_with (fail)
    refine (c_spec_ArePassages _ _ _ _ (by first | exact hr2 | exact Rds.below hr2 (by (repeat' (first | exact Below.refl _ _ | assumption | refine Below.setCell ?_ ?_ _ | refine Below.drew ?_ | refine Below.alloc ?_ ?_ _ | refine Below.trans ?_ (Below.mono (by assumption) ?_) | (simp; done) | (simp; omega) | omega)))) (by omega)).mono ?_
    rintro e W7 ⟨rfl, hb7⟩
    have hc7 := cellOf hb7; have hf7 := frozOf hb7; have hz7 := sizeOf hb7; (try simp at hz7)
    generalize vB pOk pLt 6 xs = vv
    go_wp2_with (fail)
    have hbW : Below w.heap.size w W7 := by (repeat' (first | exact Below.refl _ _ | assumption | refine Below.setCell ?_ ?_ _ | refine Below.drew ?_ | refine Below.alloc ?_ ?_ _ | refine Below.trans ?_ (Below.mono (by assumption) ?_) | (simp; done) | (simp; omega) | omega))
  · have hzW := hbW.size
    clear hb1 hc1 hf1 hz1 hb2 hc2 hf2 hz2 hb3 hc3 hf3 hz3 hb4 hc4 hf4 hz4 hb5 hc5 hf5 hz5 hb6 hc6 hf6 hz6 hb7 hf7 hz7 HF2 hr2 hlo2 hhi2 HF3 hr3 hlo3 hhi3 HF4 hr4 hlo4 hhi4
    clear hc7
    go_wp2_with (fail)
    refine (c_spec_DrawDoClash A cs cap _ (hr.below (by (repeat' (first | exact Below.refl _ _ | assumption | refine Below.setCell ?_ ?_ _ | refine Below.drew ?_ | refine Below.alloc ?_ ?_ _ | refine Below.trans ?_ (Below.mono (by assumption) ?_) | (simp; done) | (simp; omega) | omega)))) hby (by omega)).mono ?_
    rintro e X1 ⟨pi, pd, pa, pb, qi, qd, qa, qb, n, rfl, hbx1⟩
    have hcx1 := cellOf hbx1; have hfx1 := frozOf hbx1; have hzx1 := sizeOf hbx1; (try simp at hzx1)
    obtain ⟨yes, told, hD⟩ : ∃ yes told, doClashV pi pd pa pb qi qd qa qb n = (yes, told) := ⟨_, _, rfl⟩
    have hD2 := doClashV_symm pi pa pb qi qa qb n pd qd
    rw [hD] at hD2
    go_wp2_with (fail)
    refine (c_impl_DoClash _ _ _ _ _ _ _ _ _ _).mono ?_
    rintro e X2 ⟨rfl, hbx2⟩
    have hcx2 := cellOf hbx2; have hfx2 := frozOf hbx2; have hzx2 := sizeOf hbx2; (try simp at hzx2)
    simp only [hD]
    go_wp2_with (fail)
    refine (c_impl_DoClash _ _ _ _ _ _ _ _ _ _).mono ?_
    rintro e X3 ⟨rfl, hbx3⟩
    have hcx3 := cellOf hbx3; have hfx3 := frozOf hbx3; have hzx3 := sizeOf hbx3; (try simp at hzx3)
    simp only [hD2]
    go_wp2_with (fail)
    refine (c_spec_DoClash _ _ _ _ _ _ _ _ _ _).mono ?_
    rintro e X4 ⟨rfl, hbx4⟩
    have hcx4 := cellOf hbx4; have hfx4 := frozOf hbx4; have hzx4 := sizeOf hbx4; (try simp at hzx4)
    simp only [hD]
    go_wp2_with (fail)
    refine (c_spec_DrawSmallestDelay A cs cap _ (hr.below (by (repeat' (first | exact Below.refl _ _ | assumption | refine Below.setCell ?_ ?_ _ | refine Below.drew ?_ | refine Below.alloc ?_ ?_ _ | refine Below.trans ?_ (Below.mono (by assumption) ?_) | (simp; done) | (simp; omega) | omega)))) hby (by omega)).mono ?_
    rintro e X5 ⟨AX, cpx, ys, ri, rd, ra, rb, m, rfl, hFX, hyl, hm, hbx5⟩
    have hcx5 := cellOf hbx5; have hfx5 := frozOf hbx5; have hzx5 := sizeOf hbx5; (try simp at hzx5); have hrX := hFX.rds; have hloX := hFX.lo; have hhiX := hFX.hi; have HFX := hid hFX; clear hFX; (try simp at hloX)
    clear hD hD2
    obtain ⟨by_, fine, hS⟩ : ∃ by_ fine, delayV ys ri rd ra rb m = (by_, fine) := ⟨_, _, rfl⟩
    go_wp2_with (fail)
    refine (c_impl_SmallestDelay _ _ _ _ _ _ _ _ _ (by first | exact hrX | exact Rds.below hrX (by (repeat' (first | exact Below.refl _ _ | assumption | refine Below.setCell ?_ ?_ _ | refine Below.drew ?_ | refine Below.alloc ?_ ?_ _ | refine Below.trans ?_ (Below.mono (by assumption) ?_) | (simp; done) | (simp; omega) | omega)))) (by omega)).mono ?_
    rintro e X6 ⟨rfl, hbx6⟩
    have hcx6 := cellOf hbx6; have hfx6 := frozOf hbx6; have hzx6 := sizeOf hbx6; (try simp at hzx6)
    simp only [hS]
    go_wp2_with (fail)
    refine (c_spec_SmallestDelay _ _ _ _ _ _ _ _ _ (by first | exact hrX | exact Rds.below hrX (by (repeat' (first | exact Below.refl _ _ | assumption | refine Below.setCell ?_ ?_ _ | refine Below.drew ?_ | refine Below.alloc ?_ ?_ _ | refine Below.trans ?_ (Below.mono (by assumption) ?_) | (simp; done) | (simp; omega) | omega)))) (by omega)).mono ?_
    rintro e X7 ⟨rfl, hbx7⟩
    have hcx7 := cellOf hbx7; have hfx7 := frozOf hbx7; have hzx7 := sizeOf hbx7; (try simp at hzx7)
    simp only [hS]
    cases fine
    · go_wp2_with (fail)
      go_ret
      exact ⟨ret_bool (by simp), by (repeat' (first | exact Below.refl _ _ | assumption | refine Below.setCell ?_ ?_ _ | refine Below.drew ?_ | refine Below.alloc ?_ ?_ _ | refine Below.trans ?_ (Below.mono (by assumption) ?_) | (simp; done) | (simp; omega) | omega))⟩
    have HS := hid (delay_law hS)
    clear hS
    go_wp2_with (fail)
    have hp0 : X7.cell? ⟨X5.heap.size, 0, none⟩ = some (.int .i64 ri) := by first | (simp [hcx7, hcx6, go_sem, ↓IntWalk.iteOmega]; done) | (simp [hcx7, hcx6, go_sem, ↓IntWalk.iteOmega]; intros; omega)
    have hp1 : X7.cell? ⟨X5.heap.size, 1, none⟩ = some (.bool rd) := by first | (simp [hcx7, hcx6, go_sem, ↓IntWalk.iteOmega]; done) | (simp [hcx7, hcx6, go_sem, ↓IntWalk.iteOmega]; intros; omega)
    have hp2 : X7.cell? ⟨X5.heap.size, 2, none⟩ = some (.int .i64 ra) := by first | (simp [hcx7, hcx6, go_sem, ↓IntWalk.iteOmega]; done) | (simp [hcx7, hcx6, go_sem, ↓IntWalk.iteOmega]; intros; omega)
    have hp3 : X7.cell? ⟨X5.heap.size, 3, none⟩ = some (.int .i64 rb) := by first | (simp [hcx7, hcx6, go_sem, ↓IntWalk.iteOmega]; done) | (simp [hcx7, hcx6, go_sem, ↓IntWalk.iteOmega]; intros; omega)
    have hlp : X5.heap.size < X7.heap.size := by omega
    have hbZ : Below X5.heap.size X5 X7 := by (repeat' (first | exact Below.refl _ _ | assumption | refine Below.setCell ?_ ?_ _ | refine Below.drew ?_ | refine Below.alloc ?_ ?_ _ | refine Below.trans ?_ (Below.mono (by assumption) ?_) | (simp; done) | (simp; omega) | omega))
    have hbY : Below w.heap.size w X7 := by (repeat' (first | exact Below.refl _ _ | assumption | refine Below.setCell ?_ ?_ _ | refine Below.drew ?_ | refine Below.alloc ?_ ?_ _ | refine Below.trans ?_ (Below.mono (by assumption) ?_) | (simp; done) | (simp; omega) | omega))
    have hzY := hbY.size
    have hzZ := hbZ.size
    clear hbx1 hcx1 hfx1 hzx1 hbx2 hcx2 hfx2 hzx2 hbx3 hcx3 hfx3 hzx3 hbx4 hcx4 hfx4 hzx4 hbx5 hcx5 hfx5 hzx5 hbx6 hcx6 hfx6 hzx6 hbx7 hcx7 hfx7 hzx7 hloX hhiX HFX hbW hzW
    generalize hc0 : decide (0 < by_) = c0
    have HC0 := hid hc0
    clear hc0
    go_loopw [28, 29] (fun c i wr => ∃ (k : Nat) (cl : Bool), k ≤ ys.length ∧ c = .bool cl ∧ i = .int .i64 k ∧ (cl = true → 0 < by_ ∧ ∀ q (hq : q < ys.length), q < k → (doClashV ys[q].1 ys[q].2.1 ys[q].2.2.1 ys[q].2.2.2 ri rd (ra + by_ - 1) (rb + by_ - 1) m).1 = false) ∧ Below X7.heap.size X7 wr) (fun _ i _ => ys.length - (intOf i).toNat)
    case atStart => exact ⟨0, _, Nat.zero_le _, rfl, rfl, fun h => ⟨by have := HC0.out; rw [h] at this; simpa using this, fun q hq hk => absurd hk (Nat.not_lt_zero q)⟩, Below.refl _ _⟩
    case round =>
      obtain ⟨k, cl, hk, rfl, rfl, hcl, hbr⟩ := hrel
      have HCL := hid hcl
      clear hcl
      by_cases hlt : k < ys.length
      rotate_left
      · obtain rfl : k = ys.length := by omega
        have hcf : cl = false := by
          cases cl with
          | false => rfl
          | true => exact absurd (fun q hq => (HCL.out rfl).2 q hq hq) (HS.out.2.2.2.2.2.2.2 (HCL.out rfl).1)
        subst hcf
        go_wp2_with (fail)
        go_ret
        exact ⟨ret_bool (by simp), by (repeat' (first | exact Below.refl _ _ | assumption | refine Below.setCell ?_ ?_ _ | refine Below.drew ?_ | refine Below.alloc ?_ ?_ _ | refine Below.trans ?_ (Below.mono (by assumption) ?_) | (simp; done) | (simp; omega) | omega))⟩
      obtain ⟨hs1, hs2, hs3, hs4, hs5, hs6, hs7, _⟩ := HS.out
      have hD := hs6 k hlt
      have hbt : Below X5.heap.size X5 wr := by (repeat' (first | exact Below.refl _ _ | assumption | refine Below.setCell ?_ ?_ _ | refine Below.drew ?_ | refine Below.alloc ?_ ?_ _ | refine Below.trans ?_ (Below.mono (by assumption) ?_) | (simp; done) | (simp; omega) | omega))
      obtain ⟨bx, ox, hAX, hbx, hcx⟩ := hrX k ys[k] (List.getElem?_eq_getElem hlt)
      subst hAX
      have hx0 := (hbt.cell (p := ⟨bx, _, none⟩) hbx).trans (hcx 0 _ rfl)
      have hx1 := (hbt.cell (p := ⟨bx, _, none⟩) hbx).trans (hcx 1 _ rfl)
      have hx2 := (hbt.cell (p := ⟨bx, _, none⟩) hbx).trans (hcx 2 _ rfl)
      have hx3 := (hbt.cell (p := ⟨bx, _, none⟩) hbx).trans (hcx 3 _ rfl)
      have hbw : bx < wr.heap.size := Nat.lt_of_lt_of_le hbx hbt.size
      have hu0 := (hbr.cell (p := ⟨X5.heap.size, 0, none⟩) hlp).trans hp0
      have hu1 := (hbr.cell (p := ⟨X5.heap.size, 1, none⟩) hlp).trans hp1
      have hu2 := (hbr.cell (p := ⟨X5.heap.size, 2, none⟩) hlp).trans hp2
      have hu3 := (hbr.cell (p := ⟨X5.heap.size, 3, none⟩) hlp).trans hp3
      have hlw : X5.heap.size < wr.heap.size := Nat.lt_of_lt_of_le hlp hbr.size
      simp only [Nat.add_zero] at hx0
      clear hcx hp0 hp1 hp2 hp3
      have hzr := hbr.size
      obtain ⟨bf, tw, hE⟩ : ∃ bf tw, doClashV ys[k].1 ys[k].2.1 ys[k].2.2.1 ys[k].2.2.2 ri rd (ra + by_ - 1) (rb + by_ - 1) m = (bf, tw) := ⟨_, _, rfl⟩
      have HTW : Hid (0 < by_ → tw = true) := fun h => by
        have := hs7 h k hlt
        rw [hE] at this
        exact this
      have HBF : Hid ((doClashV ys[k].1 ys[k].2.1 ys[k].2.2.1 ys[k].2.2.2 ri rd (ra + by_ - 1) (rb + by_ - 1) m).1 = bf) := by
        show _ = _
        rw [hE]
      clear hs6 hs7
      obtain ⟨x, hxk⟩ : ∃ x, x = ys[k] := ⟨_, rfl⟩
      simp only [← hxk] at hx0 hx1 hx2 hx3 hD hE
      have HX := hid hxk
      clear hxk
      have hw1 := wr_id2 (x := ra + by_) (by omega)
      have hw2 := wr_id2 (x := rb + by_) (by omega)
      have hw3 := wr_id2 (x := ra + by_ - 1) (by omega)
      have hw4 := wr_id2 (x := rb + by_ - 1) (by omega)
      have HKQ : Hid (∀ w' : World, Below wr.heap.size wr w' → w'.cell? ⟨bx, ox + k * 4, none⟩ = some (.int .i64 x.1) ∧ w'.cell? ⟨bx, ox + k * 4 + 1, none⟩ = some (.bool x.2.1) ∧ w'.cell? ⟨bx, ox + k * 4 + 2, none⟩ = some (.int .i64 x.2.2.1) ∧ w'.cell? ⟨bx, ox + k * 4 + 3, none⟩ = some (.int .i64 x.2.2.2) ∧ w'.cell? ⟨X5.heap.size, 0, none⟩ = some (.int .i64 ri) ∧ w'.cell? ⟨X5.heap.size, 1, none⟩ = some (.bool rd) ∧ w'.cell? ⟨X5.heap.size, 2, none⟩ = some (.int .i64 ra) ∧ w'.cell? ⟨X5.heap.size, 3, none⟩ = some (.int .i64 rb)) := fun w' hbv => by
        have hc9 : ∀ o, w'.cell? ⟨bx, o, none⟩ = wr.cell? ⟨bx, o, none⟩ := fun o => hbv.cell (p := ⟨bx, o, none⟩) hbw
        have hc8 : ∀ o, w'.cell? ⟨X5.heap.size, o, none⟩ = wr.cell? ⟨X5.heap.size, o, none⟩ := fun o => hbv.cell (p := ⟨X5.heap.size, o, none⟩) hlw
        exact ⟨(hc9 _).trans hx0, (hc9 _).trans hx1, (hc9 _).trans hx2, (hc9 _).trans hx3, (hc8 _).trans hu0, (hc8 _).trans hu1, (hc8 _).trans hu2, (hc8 _).trans hu3⟩
      have hbq : Below wr.heap.size wr wr := Below.refl _ _
      go_wp2_with (fail)
      go_region_held3 (fun w' => w'.cell? ⟨bx, ox + k * 4, none⟩ = some (.int .i64 x.1) ∧ w'.cell? ⟨bx, ox + k * 4 + 1, none⟩ = some (.bool x.2.1) ∧ w'.cell? ⟨bx, ox + k * 4 + 2, none⟩ = some (.int .i64 x.2.2.1) ∧ w'.cell? ⟨bx, ox + k * 4 + 3, none⟩ = some (.int .i64 x.2.2.2) ∧ w'.cell? ⟨X5.heap.size, 0, none⟩ = some (.int .i64 ri) ∧ w'.cell? ⟨X5.heap.size, 1, none⟩ = some (.bool rd) ∧ w'.cell? ⟨X5.heap.size, 2, none⟩ = some (.int .i64 ra) ∧ w'.cell? ⟨X5.heap.size, 3, none⟩ = some (.int .i64 rb)) (first | assumption | exact HKQ.out _ (by (repeat' (first | exact Below.refl _ _ | assumption | refine Below.setCell ?_ ?_ _ | refine Below.drew ?_ | refine Below.alloc ?_ ?_ _ | refine Below.trans ?_ (Below.mono (by assumption) ?_) | (simp; done) | (simp; omega) | omega)))) (first | (go_at_call 15; refine (c_impl_DoClash _ _ _ _ _ _ _ _ _ _).mono ?_; rintro e w' ⟨rfl, hb⟩; have hz := hb.size; (try simp at hz)))
      try simp only [hw1, hw2, hD]
      by_cases hpos : 0 < by_
      · obtain rfl := HTW.out hpos
        go_wp2_with (fail)
        go_region_held3 (fun w' => w'.cell? ⟨bx, ox + k * 4, none⟩ = some (.int .i64 x.1) ∧ w'.cell? ⟨bx, ox + k * 4 + 1, none⟩ = some (.bool x.2.1) ∧ w'.cell? ⟨bx, ox + k * 4 + 2, none⟩ = some (.int .i64 x.2.2.1) ∧ w'.cell? ⟨bx, ox + k * 4 + 3, none⟩ = some (.int .i64 x.2.2.2) ∧ w'.cell? ⟨X5.heap.size, 0, none⟩ = some (.int .i64 ri) ∧ w'.cell? ⟨X5.heap.size, 1, none⟩ = some (.bool rd) ∧ w'.cell? ⟨X5.heap.size, 2, none⟩ = some (.int .i64 ra) ∧ w'.cell? ⟨X5.heap.size, 3, none⟩ = some (.int .i64 rb)) (first | assumption | exact HKQ.out _ (by (repeat' (first | exact Below.refl _ _ | assumption | refine Below.setCell ?_ ?_ _ | refine Below.drew ?_ | refine Below.alloc ?_ ?_ _ | refine Below.trans ?_ (Below.mono (by assumption) ?_) | (simp; done) | (simp; omega) | omega)))) (first | (go_at_call 15; refine (c_impl_DoClash _ _ _ _ _ _ _ _ _ _).mono ?_; rintro e w' ⟨rfl, hb⟩; have hz := hb.size; (try simp at hz)))
        try simp only [hw1, hw2, hw3, hw4, hE]
        cases cl
        · go_wp2_with (fail)
          go_roundw
          case rel => exact ⟨k + 1, false, by omega, by first | rfl | go_num, by go_num, fun e => by simp at e, by (repeat' (first | exact Below.refl _ _ | assumption | refine Below.setCell ?_ ?_ _ | refine Below.drew ?_ | refine Below.alloc ?_ ?_ _ | refine Below.trans ?_ (Below.mono (by assumption) ?_) | (simp; done) | (simp; omega) | omega))⟩
          case measure => simp [intOf]; omega
        · go_wp2_with (fail)
          go_roundw
          case rel => exact ⟨k + 1, !bf, by omega, by first | rfl | simp, by go_num, fun e => ⟨hpos, fun q hq hk1 => by
            by_cases hqk : q < k
            · exact (HCL.out rfl).2 q hq hqk
            · have hqq : q = k := by omega
              subst hqq
              have := HBF.out
              rw [this]
              simpa using e⟩, by (repeat' (first | exact Below.refl _ _ | assumption | refine Below.setCell ?_ ?_ _ | refine Below.drew ?_ | refine Below.alloc ?_ ?_ _ | refine Below.trans ?_ (Below.mono (by assumption) ?_) | (simp; done) | (simp; omega) | omega))⟩
          case measure => simp [intOf]; omega
      · have hcf : cl = false := by
          cases cl with
          | false => rfl
          | true => exact absurd (HCL.out rfl).1 hpos
        subst hcf
        go_wp2_with (fail)
        go_roundw
        case rel => exact ⟨k + 1, false, by omega, by first | rfl | go_num, by go_num, fun e => by simp at e, by (repeat' (first | exact Below.refl _ _ | assumption | refine Below.setCell ?_ ?_ _ | refine Below.drew ?_ | refine Below.alloc ?_ ?_ _ | refine Below.trans ?_ (Below.mono (by assumption) ?_) | (simp; done) | (simp; omega) | omega))⟩
        case measure => simp [intOf]; omega
  · have hCl := turn_law HT.out
    obtain ⟨hC1, hC2, hC3, hC4⟩ := hCl
    have HCL4 := hid hC4
    clear hC4
    clear hbW
    have hcap := HF3.out.le_cap
    have hmax := HF3.out.cap_max
    go_wp2_with (fail)
    refine (c_impl_ClashPairs _ _ _ _ _ (by first | exact hr3 | exact Rds.below hr3 (by (repeat' (first | exact Below.refl _ _ | assumption | refine Below.setCell ?_ ?_ _ | refine Below.drew ?_ | refine Below.alloc ?_ ?_ _ | refine Below.trans ?_ (Below.mono (by assumption) ?_) | (simp; done) | (simp; omega) | omega)))) (by omega) hcap hmax).mono ?_
    rintro e W8 ⟨A8, cp8, rfl, hF8, hb8⟩
    have hc8 := cellOf hb8; have hf8 := frozOf hb8; have hz8 := sizeOf hb8; (try simp at hz8)
    simp only [hC1, List.length_nil]
    have hxo : ¬ out.length < xs.length := by omega
    have HC2 := hid hC2
    clear hC1 hC2 hF8
    have hbV : Below W3.heap.size W3 W8 := by (repeat' (first | exact Below.refl _ _ | assumption | refine Below.setCell ?_ ?_ _ | refine Below.drew ?_ | refine Below.alloc ?_ ?_ _ | refine Below.trans ?_ (Below.mono (by assumption) ?_) | (simp; done) | (simp; omega) | omega))
    have hbT : Below W2.heap.size W2 W8 := by (repeat' (first | exact Below.refl _ _ | assumption | refine Below.setCell ?_ ?_ _ | refine Below.drew ?_ | refine Below.alloc ?_ ?_ _ | refine Below.trans ?_ (Below.mono (by assumption) ?_) | (simp; done) | (simp; omega) | omega))
    have hbW : Below w.heap.size w W8 := by (repeat' (first | exact Below.refl _ _ | assumption | refine Below.setCell ?_ ?_ _ | refine Below.drew ?_ | refine Below.alloc ?_ ?_ _ | refine Below.trans ?_ (Below.mono (by assumption) ?_) | (simp; done) | (simp; omega) | omega))
    have hle : out.length ≤ xs.length := by rw [HC2.out]; exact Nat.le_refl _
    have hzT := hbT.size
    have hzV := hbV.size
    have hzW := hbW.size
    have hee : (((out.length : Int) != (xs.length : Int)) = false) := by rw [HC2.out]; simp
    clear hb1 hc1 hf1 hz1 hb2 hc2 hf2 hz2 hb3 hc3 hf3 hz3 hb4 hc4 hf4 hz4 hb5 hc5 hf5 hz5 hb6 hc6 hf6 hz6 hb7 hc7 hf7 hz7 hb8 hc8 hf8 hz8 HF2 hlo2 hhi2 HF3 hlo3 hhi3 HF4 hlo4 hhi4 hr4
    go_wp2_with (fail)
    go_loopw [11] (fun i wr => ∃ k : Nat, k ≤ out.length ∧ i = .int .i64 k ∧ Below W8.heap.size W8 wr) (fun i _ => out.length - (intOf i).toNat)
    case atStart => exact ⟨0, Nat.zero_le _, rfl, Below.refl _ _⟩
    case round =>
      obtain ⟨k, hk, rfl, hbr⟩ := hrel
      rename World => wo
      have hzr := hbr.size
      by_cases hlt : k < out.length
      · have hlx : k < xs.length := by omega
        obtain ⟨y, hy1, hy2, hy3⟩ := HCL4.out k hlt hlx
        have hb2o : Below W2.heap.size W2 wo := Below.trans hbT (Below.mono hbr (by omega))
        have hb3o : Below W3.heap.size W3 wo := Below.trans hbV (Below.mono hbr (by omega))
        obtain ⟨bz, oz, hA3, hbz, hcz⟩ := hr3 k out[k] (List.getElem?_eq_getElem hlt)
        subst hA3
        obtain ⟨bx, ox, hA2, hbx, hcx⟩ := hr2 k xs[k] (List.getElem?_eq_getElem hlx)
        subst hA2
        have hz2 := (hb3o.cell (p := ⟨bz, _, none⟩) hbz).trans (hcz 2 _ rfl)
        have hz3 := (hb3o.cell (p := ⟨bz, _, none⟩) hbz).trans (hcz 3 _ rfl)
        have hx2 := (hb2o.cell (p := ⟨bx, _, none⟩) hbx).trans (hcx 2 _ rfl)
        have hx3 := (hb2o.cell (p := ⟨bx, _, none⟩) hbx).trans (hcx 3 _ rfl)
        rw [hy1] at hz2
        rw [hy2] at hz3
        clear hcz hcx hy1 hy2
        generalize xs[k].2.2.1 = p at *
        generalize xs[k].2.2.2 = q at *
        have hd1 : decide (p + (y : Int) < p) = false := by simp only [decide_eq_false_iff_not]; omega
        have hw1 : IntKind.i64.wrap (q + (y : Int) - (p + (y : Int))) = q - p := by rw [wr_id2 (by omega)]; omega
        have hw2 : IntKind.i64.wrap (q - p) = q - p := wr_id2 (by omega)
        clear hy3
        go_wp2_with (fail)
        go_region_held3 (fun w' => w'.cell? ⟨bz, oz + k * 4 + 2, none⟩ = some (.int .i64 (p + (y : Int))) ∧ w'.cell? ⟨bz, oz + k * 4 + 3, none⟩ = some (.int .i64 (q + (y : Int))) ∧ w'.cell? ⟨bx, ox + k * 4 + 2, none⟩ = some (.int .i64 p) ∧ w'.cell? ⟨bx, ox + k * 4 + 3, none⟩ = some (.int .i64 q)) (first | assumption | exact ⟨hz2, hz3, hx2, hx3⟩) (fail)
        try simp only [hd1, hw1, hw2]
        go_wp2_with (fail)
        go_roundw
        case rel => exact ⟨k + 1, by omega, by go_num, by (repeat' (first | exact Below.refl _ _ | assumption | refine Below.setCell ?_ ?_ _ | refine Below.drew ?_ | refine Below.alloc ?_ ?_ _ | refine Below.trans ?_ (Below.mono (by assumption) ?_) | (simp; done) | (simp; omega) | omega))⟩
        case measure => simp [intOf]; omega
      obtain rfl : k = out.length := by omega
      have hbW2 : Below w.heap.size w wo := by (repeat' (first | exact Below.refl _ _ | assumption | refine Below.setCell ?_ ?_ _ | refine Below.drew ?_ | refine Below.alloc ?_ ?_ _ | refine Below.trans ?_ (Below.mono (by assumption) ?_) | (simp; done) | (simp; omega) | omega))
      clear hbW hbV hbT hzT hzV hzW HCL4 hr2 hr3 hee hle HC2 hxo hbr
      have hbW := hbW2
      clear hbW2
      have hzW := hbW.size
      go_wp2_with (fail)
      refine (c_spec_DrawDoClash A cs cap _ (hr.below (by (repeat' (first | exact Below.refl _ _ | assumption | refine Below.setCell ?_ ?_ _ | refine Below.drew ?_ | refine Below.alloc ?_ ?_ _ | refine Below.trans ?_ (Below.mono (by assumption) ?_) | (simp; done) | (simp; omega) | omega)))) hby (by omega)).mono ?_
      rintro e X1 ⟨pi, pd, pa, pb, qi, qd, qa, qb, n, rfl, hbx1⟩
      have hcx1 := cellOf hbx1; have hfx1 := frozOf hbx1; have hzx1 := sizeOf hbx1; (try simp at hzx1)
      obtain ⟨yes, told, hD⟩ : ∃ yes told, doClashV pi pd pa pb qi qd qa qb n = (yes, told) := ⟨_, _, rfl⟩
      have hD2 := doClashV_symm pi pa pb qi qa qb n pd qd
      rw [hD] at hD2
      go_wp2_with (fail)
      refine (c_impl_DoClash _ _ _ _ _ _ _ _ _ _).mono ?_
      rintro e X2 ⟨rfl, hbx2⟩
      have hcx2 := cellOf hbx2; have hfx2 := frozOf hbx2; have hzx2 := sizeOf hbx2; (try simp at hzx2)
      simp only [hD]
      go_wp2_with (fail)
      refine (c_impl_DoClash _ _ _ _ _ _ _ _ _ _).mono ?_
      rintro e X3 ⟨rfl, hbx3⟩
      have hcx3 := cellOf hbx3; have hfx3 := frozOf hbx3; have hzx3 := sizeOf hbx3; (try simp at hzx3)
      simp only [hD2]
      go_wp2_with (fail)
      refine (c_spec_DoClash _ _ _ _ _ _ _ _ _ _).mono ?_
      rintro e X4 ⟨rfl, hbx4⟩
      have hcx4 := cellOf hbx4; have hfx4 := frozOf hbx4; have hzx4 := sizeOf hbx4; (try simp at hzx4)
      simp only [hD]
      go_wp2_with (fail)
      refine (c_spec_DrawSmallestDelay A cs cap _ (hr.below (by (repeat' (first | exact Below.refl _ _ | assumption | refine Below.setCell ?_ ?_ _ | refine Below.drew ?_ | refine Below.alloc ?_ ?_ _ | refine Below.trans ?_ (Below.mono (by assumption) ?_) | (simp; done) | (simp; omega) | omega)))) hby (by omega)).mono ?_
      rintro e X5 ⟨AX, cpx, ys, ri, rd, ra, rb, m, rfl, hFX, hyl, hm, hbx5⟩
      have hcx5 := cellOf hbx5; have hfx5 := frozOf hbx5; have hzx5 := sizeOf hbx5; (try simp at hzx5); have hrX := hFX.rds; have hloX := hFX.lo; have hhiX := hFX.hi; have HFX := hid hFX; clear hFX; (try simp at hloX)
      clear hD hD2
      obtain ⟨by_, fine, hS⟩ : ∃ by_ fine, delayV ys ri rd ra rb m = (by_, fine) := ⟨_, _, rfl⟩
      go_wp2_with (fail)
      refine (c_impl_SmallestDelay _ _ _ _ _ _ _ _ _ (by first | exact hrX | exact Rds.below hrX (by (repeat' (first | exact Below.refl _ _ | assumption | refine Below.setCell ?_ ?_ _ | refine Below.drew ?_ | refine Below.alloc ?_ ?_ _ | refine Below.trans ?_ (Below.mono (by assumption) ?_) | (simp; done) | (simp; omega) | omega)))) (by omega)).mono ?_
      rintro e X6 ⟨rfl, hbx6⟩
      have hcx6 := cellOf hbx6; have hfx6 := frozOf hbx6; have hzx6 := sizeOf hbx6; (try simp at hzx6)
      simp only [hS]
      go_wp2_with (fail)
      refine (c_spec_SmallestDelay _ _ _ _ _ _ _ _ _ (by first | exact hrX | exact Rds.below hrX (by (repeat' (first | exact Below.refl _ _ | assumption | refine Below.setCell ?_ ?_ _ | refine Below.drew ?_ | refine Below.alloc ?_ ?_ _ | refine Below.trans ?_ (Below.mono (by assumption) ?_) | (simp; done) | (simp; omega) | omega)))) (by omega)).mono ?_
      rintro e X7 ⟨rfl, hbx7⟩
      have hcx7 := cellOf hbx7; have hfx7 := frozOf hbx7; have hzx7 := sizeOf hbx7; (try simp at hzx7)
      simp only [hS]
      cases fine
      · go_wp2_with (fail)
        go_ret
        exact ⟨ret_bool (by simp), by (repeat' (first | exact Below.refl _ _ | assumption | refine Below.setCell ?_ ?_ _ | refine Below.drew ?_ | refine Below.alloc ?_ ?_ _ | refine Below.trans ?_ (Below.mono (by assumption) ?_) | (simp; done) | (simp; omega) | omega))⟩
      have HS := hid (delay_law hS)
      clear hS
      go_wp2_with (fail)
      have hp0 : X7.cell? ⟨X5.heap.size, 0, none⟩ = some (.int .i64 ri) := by first | (simp [hcx7, hcx6, go_sem, ↓IntWalk.iteOmega]; done) | (simp [hcx7, hcx6, go_sem, ↓IntWalk.iteOmega]; intros; omega)
      have hp1 : X7.cell? ⟨X5.heap.size, 1, none⟩ = some (.bool rd) := by first | (simp [hcx7, hcx6, go_sem, ↓IntWalk.iteOmega]; done) | (simp [hcx7, hcx6, go_sem, ↓IntWalk.iteOmega]; intros; omega)
      have hp2 : X7.cell? ⟨X5.heap.size, 2, none⟩ = some (.int .i64 ra) := by first | (simp [hcx7, hcx6, go_sem, ↓IntWalk.iteOmega]; done) | (simp [hcx7, hcx6, go_sem, ↓IntWalk.iteOmega]; intros; omega)
      have hp3 : X7.cell? ⟨X5.heap.size, 3, none⟩ = some (.int .i64 rb) := by first | (simp [hcx7, hcx6, go_sem, ↓IntWalk.iteOmega]; done) | (simp [hcx7, hcx6, go_sem, ↓IntWalk.iteOmega]; intros; omega)
      have hlp : X5.heap.size < X7.heap.size := by omega
      have hbZ : Below X5.heap.size X5 X7 := by (repeat' (first | exact Below.refl _ _ | assumption | refine Below.setCell ?_ ?_ _ | refine Below.drew ?_ | refine Below.alloc ?_ ?_ _ | refine Below.trans ?_ (Below.mono (by assumption) ?_) | (simp; done) | (simp; omega) | omega))
      have hbY : Below w.heap.size w X7 := by (repeat' (first | exact Below.refl _ _ | assumption | refine Below.setCell ?_ ?_ _ | refine Below.drew ?_ | refine Below.alloc ?_ ?_ _ | refine Below.trans ?_ (Below.mono (by assumption) ?_) | (simp; done) | (simp; omega) | omega))
      have hzY := hbY.size
      have hzZ := hbZ.size
      clear hbx1 hcx1 hfx1 hzx1 hbx2 hcx2 hfx2 hzx2 hbx3 hcx3 hfx3 hzx3 hbx4 hcx4 hfx4 hzx4 hbx5 hcx5 hfx5 hzx5 hbx6 hcx6 hfx6 hzx6 hbx7 hcx7 hfx7 hzx7 hloX hhiX HFX hbW hzW
      generalize hc0 : decide (0 < by_) = c0
      have HC0 := hid hc0
      clear hc0
      go_loopw [28, 29] (fun c i wr => ∃ (k : Nat) (cl : Bool), k ≤ ys.length ∧ c = .bool cl ∧ i = .int .i64 k ∧ (cl = true → 0 < by_ ∧ ∀ q (hq : q < ys.length), q < k → (doClashV ys[q].1 ys[q].2.1 ys[q].2.2.1 ys[q].2.2.2 ri rd (ra + by_ - 1) (rb + by_ - 1) m).1 = false) ∧ Below X7.heap.size X7 wr) (fun _ i _ => ys.length - (intOf i).toNat)
      case atStart => exact ⟨0, _, Nat.zero_le _, rfl, rfl, fun h => ⟨by have := HC0.out; rw [h] at this; simpa using this, fun q hq hk => absurd hk (Nat.not_lt_zero q)⟩, Below.refl _ _⟩
      case round =>
        obtain ⟨k, cl, hk, rfl, rfl, hcl, hbr⟩ := hrel
        have HCL := hid hcl
        clear hcl
        by_cases hlt : k < ys.length
        rotate_left
        · obtain rfl : k = ys.length := by omega
          have hcf : cl = false := by
            cases cl with
            | false => rfl
            | true => exact absurd (fun q hq => (HCL.out rfl).2 q hq hq) (HS.out.2.2.2.2.2.2.2 (HCL.out rfl).1)
          subst hcf
          go_wp2_with (fail)
          go_ret
          exact ⟨ret_bool (by simp), by (repeat' (first | exact Below.refl _ _ | assumption | refine Below.setCell ?_ ?_ _ | refine Below.drew ?_ | refine Below.alloc ?_ ?_ _ | refine Below.trans ?_ (Below.mono (by assumption) ?_) | (simp; done) | (simp; omega) | omega))⟩
        obtain ⟨hs1, hs2, hs3, hs4, hs5, hs6, hs7, _⟩ := HS.out
        have hD := hs6 k hlt
        have hbt : Below X5.heap.size X5 wr := by (repeat' (first | exact Below.refl _ _ | assumption | refine Below.setCell ?_ ?_ _ | refine Below.drew ?_ | refine Below.alloc ?_ ?_ _ | refine Below.trans ?_ (Below.mono (by assumption) ?_) | (simp; done) | (simp; omega) | omega))
        obtain ⟨bx, ox, hAX, hbx, hcx⟩ := hrX k ys[k] (List.getElem?_eq_getElem hlt)
        subst hAX
        have hx0 := (hbt.cell (p := ⟨bx, _, none⟩) hbx).trans (hcx 0 _ rfl)
        have hx1 := (hbt.cell (p := ⟨bx, _, none⟩) hbx).trans (hcx 1 _ rfl)
        have hx2 := (hbt.cell (p := ⟨bx, _, none⟩) hbx).trans (hcx 2 _ rfl)
        have hx3 := (hbt.cell (p := ⟨bx, _, none⟩) hbx).trans (hcx 3 _ rfl)
        have hbw : bx < wr.heap.size := Nat.lt_of_lt_of_le hbx hbt.size
        have hu0 := (hbr.cell (p := ⟨X5.heap.size, 0, none⟩) hlp).trans hp0
        have hu1 := (hbr.cell (p := ⟨X5.heap.size, 1, none⟩) hlp).trans hp1
        have hu2 := (hbr.cell (p := ⟨X5.heap.size, 2, none⟩) hlp).trans hp2
        have hu3 := (hbr.cell (p := ⟨X5.heap.size, 3, none⟩) hlp).trans hp3
        have hlw : X5.heap.size < wr.heap.size := Nat.lt_of_lt_of_le hlp hbr.size
        simp only [Nat.add_zero] at hx0
        clear hcx hp0 hp1 hp2 hp3
        have hzr := hbr.size
        obtain ⟨bf, tw, hE⟩ : ∃ bf tw, doClashV ys[k].1 ys[k].2.1 ys[k].2.2.1 ys[k].2.2.2 ri rd (ra + by_ - 1) (rb + by_ - 1) m = (bf, tw) := ⟨_, _, rfl⟩
        have HTW : Hid (0 < by_ → tw = true) := fun h => by
          have := hs7 h k hlt
          rw [hE] at this
          exact this
        have HBF : Hid ((doClashV ys[k].1 ys[k].2.1 ys[k].2.2.1 ys[k].2.2.2 ri rd (ra + by_ - 1) (rb + by_ - 1) m).1 = bf) := by
          show _ = _
          rw [hE]
        clear hs6 hs7
        obtain ⟨x, hxk⟩ : ∃ x, x = ys[k] := ⟨_, rfl⟩
        simp only [← hxk] at hx0 hx1 hx2 hx3 hD hE
        have HX := hid hxk
        clear hxk
        have hw1 := wr_id2 (x := ra + by_) (by omega)
        have hw2 := wr_id2 (x := rb + by_) (by omega)
        have hw3 := wr_id2 (x := ra + by_ - 1) (by omega)
        have hw4 := wr_id2 (x := rb + by_ - 1) (by omega)
        have HKQ : Hid (∀ w' : World, Below wr.heap.size wr w' → w'.cell? ⟨bx, ox + k * 4, none⟩ = some (.int .i64 x.1) ∧ w'.cell? ⟨bx, ox + k * 4 + 1, none⟩ = some (.bool x.2.1) ∧ w'.cell? ⟨bx, ox + k * 4 + 2, none⟩ = some (.int .i64 x.2.2.1) ∧ w'.cell? ⟨bx, ox + k * 4 + 3, none⟩ = some (.int .i64 x.2.2.2) ∧ w'.cell? ⟨X5.heap.size, 0, none⟩ = some (.int .i64 ri) ∧ w'.cell? ⟨X5.heap.size, 1, none⟩ = some (.bool rd) ∧ w'.cell? ⟨X5.heap.size, 2, none⟩ = some (.int .i64 ra) ∧ w'.cell? ⟨X5.heap.size, 3, none⟩ = some (.int .i64 rb)) := fun w' hbv => by
          have hc9 : ∀ o, w'.cell? ⟨bx, o, none⟩ = wr.cell? ⟨bx, o, none⟩ := fun o => hbv.cell (p := ⟨bx, o, none⟩) hbw
          have hc8 : ∀ o, w'.cell? ⟨X5.heap.size, o, none⟩ = wr.cell? ⟨X5.heap.size, o, none⟩ := fun o => hbv.cell (p := ⟨X5.heap.size, o, none⟩) hlw
          exact ⟨(hc9 _).trans hx0, (hc9 _).trans hx1, (hc9 _).trans hx2, (hc9 _).trans hx3, (hc8 _).trans hu0, (hc8 _).trans hu1, (hc8 _).trans hu2, (hc8 _).trans hu3⟩
        have hbq : Below wr.heap.size wr wr := Below.refl _ _
        go_wp2_with (fail)
        go_region_held3 (fun w' => w'.cell? ⟨bx, ox + k * 4, none⟩ = some (.int .i64 x.1) ∧ w'.cell? ⟨bx, ox + k * 4 + 1, none⟩ = some (.bool x.2.1) ∧ w'.cell? ⟨bx, ox + k * 4 + 2, none⟩ = some (.int .i64 x.2.2.1) ∧ w'.cell? ⟨bx, ox + k * 4 + 3, none⟩ = some (.int .i64 x.2.2.2) ∧ w'.cell? ⟨X5.heap.size, 0, none⟩ = some (.int .i64 ri) ∧ w'.cell? ⟨X5.heap.size, 1, none⟩ = some (.bool rd) ∧ w'.cell? ⟨X5.heap.size, 2, none⟩ = some (.int .i64 ra) ∧ w'.cell? ⟨X5.heap.size, 3, none⟩ = some (.int .i64 rb)) (first | assumption | exact HKQ.out _ (by (repeat' (first | exact Below.refl _ _ | assumption | refine Below.setCell ?_ ?_ _ | refine Below.drew ?_ | refine Below.alloc ?_ ?_ _ | refine Below.trans ?_ (Below.mono (by assumption) ?_) | (simp; done) | (simp; omega) | omega)))) (first | (go_at_call 15; refine (c_impl_DoClash _ _ _ _ _ _ _ _ _ _).mono ?_; rintro e w' ⟨rfl, hb⟩; have hz := hb.size; (try simp at hz)))
        try simp only [hw1, hw2, hD]
        by_cases hpos : 0 < by_
        · obtain rfl := HTW.out hpos
          go_wp2_with (fail)
          go_region_held3 (fun w' => w'.cell? ⟨bx, ox + k * 4, none⟩ = some (.int .i64 x.1) ∧ w'.cell? ⟨bx, ox + k * 4 + 1, none⟩ = some (.bool x.2.1) ∧ w'.cell? ⟨bx, ox + k * 4 + 2, none⟩ = some (.int .i64 x.2.2.1) ∧ w'.cell? ⟨bx, ox + k * 4 + 3, none⟩ = some (.int .i64 x.2.2.2) ∧ w'.cell? ⟨X5.heap.size, 0, none⟩ = some (.int .i64 ri) ∧ w'.cell? ⟨X5.heap.size, 1, none⟩ = some (.bool rd) ∧ w'.cell? ⟨X5.heap.size, 2, none⟩ = some (.int .i64 ra) ∧ w'.cell? ⟨X5.heap.size, 3, none⟩ = some (.int .i64 rb)) (first | assumption | exact HKQ.out _ (by (repeat' (first | exact Below.refl _ _ | assumption | refine Below.setCell ?_ ?_ _ | refine Below.drew ?_ | refine Below.alloc ?_ ?_ _ | refine Below.trans ?_ (Below.mono (by assumption) ?_) | (simp; done) | (simp; omega) | omega)))) (first | (go_at_call 15; refine (c_impl_DoClash _ _ _ _ _ _ _ _ _ _).mono ?_; rintro e w' ⟨rfl, hb⟩; have hz := hb.size; (try simp at hz)))
          try simp only [hw1, hw2, hw3, hw4, hE]
          cases cl
          · go_wp2_with (fail)
            go_roundw
            case rel => exact ⟨k + 1, false, by omega, by first | rfl | go_num, by go_num, fun e => by simp at e, by (repeat' (first | exact Below.refl _ _ | assumption | refine Below.setCell ?_ ?_ _ | refine Below.drew ?_ | refine Below.alloc ?_ ?_ _ | refine Below.trans ?_ (Below.mono (by assumption) ?_) | (simp; done) | (simp; omega) | omega))⟩
            case measure => simp [intOf]; omega
          · go_wp2_with (fail)
            go_roundw
            case rel => exact ⟨k + 1, !bf, by omega, by first | rfl | simp, by go_num, fun e => ⟨hpos, fun q hq hk1 => by
              by_cases hqk : q < k
              · exact (HCL.out rfl).2 q hq hqk
              · have hqq : q = k := by omega
                subst hqq
                have := HBF.out
                rw [this]
                simpa using e⟩, by (repeat' (first | exact Below.refl _ _ | assumption | refine Below.setCell ?_ ?_ _ | refine Below.drew ?_ | refine Below.alloc ?_ ?_ _ | refine Below.trans ?_ (Below.mono (by assumption) ?_) | (simp; done) | (simp; omega) | omega))⟩
            case measure => simp [intOf]; omega
        · have hcf : cl = false := by
            cases cl with
            | false => rfl
            | true => exact absurd (HCL.out rfl).1 hpos
          subst hcf
          go_wp2_with (fail)
          go_roundw
          case rel => exact ⟨k + 1, false, by omega, by first | rfl | go_num, by go_num, fun e => by simp at e, by (repeat' (first | exact Below.refl _ _ | assumption | refine Below.setCell ?_ ?_ _ | refine Below.drew ?_ | refine Below.alloc ?_ ?_ _ | refine Below.trans ?_ (Below.mono (by assumption) ?_) | (simp; done) | (simp; omega) | omega))⟩
          case measure => simp [intOf]; omega

end Go.Proofs.Ytgjbdcalmodhpaa
