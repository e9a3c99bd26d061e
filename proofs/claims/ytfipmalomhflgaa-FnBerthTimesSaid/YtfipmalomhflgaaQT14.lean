import Derived.Test.YtfipmalomhflgaaQT05
import Derived.Test.YtfipmalomhflgaaQT06
import Derived.Test.YtfipmalomhflgaaQT10
import Derived.Test.YtfipmalomhflgaaQT12
import Derived.Test.YtfipmalomhflgaaQT11
import Derived.Test.YtfipmalomhflgaaQT13
import Derived.Deep.Cut
import Derived.Deep.DeepCutAuto
namespace Go.Proofs.Ytfipmalomhflgaa
set_option linter.unusedSimpArgs false
set_option linter.unusedVariables false
open Go.RowKit

set_option maxRecDepth 100000 in
set_option maxHeartbeats 16000000 in
theorem c_laws_FnBerthTimes (A : Option Addr) (cs : List Int) (cap : Nat) (w : World) (hr : Rds cB 1 w A cs) (hby : Bytes cs) (hn : cs.length ≤ 9223372036854775807) :
    Calls Try.prog 12 #[.slice A cs.length cap] w fun e w' => e = .returned (.bool true) ∧ Below w.heap.size w w' := by
  by_cases hbig : 65536 < cs.length
  · go_enter Try.func12, Try.ntmps12
    go_wp2_with (fail)
    refine (c_laws_rBig _ _ _ _ (by omega)).mono ?_
    rintro e W1 ⟨rfl, hb1⟩
    simp only [show decide (65536 < cs.length) = true by simp; omega]
    go_wp2_with (fail)
    go_ret
    exact ⟨rfl, by (repeat' (first | exact Below.refl _ _ | assumption | refine Below.setCell ?_ ?_ _ | refine Below.drew ?_ | refine Below.alloc ?_ ?_ _ | refine Below.trans ?_ (Below.mono (by assumption) ?_) | (simp; done) | (simp; omega) | omega))⟩
  go_enter Try.func12, Try.ntmps12
  go_wp2_with (fail)
  refine (c_laws_rBig _ _ _ _ (by omega)).mono ?_
  rintro e W1 ⟨rfl, hw⟩
  simp only [show decide (65536 < cs.length) = false by simp; omega]
  have hwz := hw.size
  go_wp2_with (fail)
  refine calls_named ?_
  intro V1 hV
  have hk : Below W1.heap.size W1 V1 := by rw [hV]; (repeat' (first | with_reducible exact Below.refl _ _ | with_reducible assumption | with_reducible refine Below.setCell ?_ ?_ _ | with_reducible refine Below.drew ?_ | with_reducible refine Below.alloc ?_ ?_ _ | with_reducible refine Below.trans ?_ (Below.mono (by assumption) ?_) | (dsimp only; omega) | (simp; done) | (simp; omega) | omega))
  have hkz1 := hk.size
  have hw1 : Below w.heap.size w V1 := Below.trans hw (Below.mono hk (by have := hw.size; omega))
  clear hw hk
  have hw := hw1
  clear hw1
  have hwz := hw.size
  clear hV
  refine (c_spec_DrawEarliestBerth A cs cap _ (Rds.below hr hw) hby (by omega)).mono ?_
  rintro e W2 ⟨q, Af, cf, xs, l, s, f, rfl, hFf, hxl, hlsf, hb⟩
  have hk : Below V1.heap.size V1 W2 := hb
  have hkz2 := hk.size
  have hw2 : Below w.heap.size w W2 := Below.trans hw (Below.mono hk (by have := hw.size; omega))
  clear hw hk
  have hw := hw2
  clear hw2
  have hwz := hw.size
  clear hb
  have S2_0 : Hid (FreshA cBer 5 48 V1.heap.size W2 Af cf xs) := hid (hFf)
  have loS2_0 := S2_0.out.lo
  have hiS2_0 := S2_0.out.hi
  clear hFf
  have hcaAf := (S2_0.out).capLe; have hmaAf := (S2_0.out).capMax; unfold maxLen at hmaAf
  obtain ⟨hh, ce, ok, hE⟩ : ∃ hh ce ok, earlyV q xs l s f = (hh, ce, ok) := ⟨_, _, _, rfl⟩
  have HE := hid hE; clear hE
  go_wp2_with (fail)
  refine calls_named ?_
  intro V3 hV
  have hk : Below W2.heap.size W2 V3 := by rw [hV]; (repeat' (first | with_reducible exact Below.refl _ _ | with_reducible assumption | with_reducible refine Below.setCell ?_ ?_ _ | with_reducible refine Below.drew ?_ | with_reducible refine Below.alloc ?_ ?_ _ | with_reducible refine Below.trans ?_ (Below.mono (by assumption) ?_) | (dsimp only; omega) | (simp; done) | (simp; omega) | omega))
  have hkz3 := hk.size
  have R3_0 := hid (FreshA.below (cf := cBer) (sz := 5) (T := 48) (B := V1.heap.size) S2_0.out hk)
  have hw3 : Below w.heap.size w V3 := Below.trans hw (Below.mono hk (by have := hw.size; omega))
  clear hw hk
  have hw := hw3
  clear hw3
  have hwz := hw.size
  clear S2_0
  clear hV
  refine (c_impl_EarliestBerth q Af xs cf l s f _ R3_0.out.rds (by omega) (by omega) (by omega) (by omega) (by omega)).mono ?_
  simp only [HE.out]
  rintro e W4 ⟨rfl, hb⟩
  have hk : Below V3.heap.size V3 W4 := hb
  have hkz4 := hk.size
  have R4_0 := hid (FreshA.below (cf := cBer) (sz := 5) (T := 48) (B := V1.heap.size) R3_0.out hk)
  have hw4 : Below w.heap.size w W4 := Below.trans hw (Below.mono hk (by have := hw.size; omega))
  clear hw hk
  have hw := hw4
  clear hw4
  have hwz := hw.size
  clear R3_0
  clear hb
  go_wp2_with (fail)
  refine calls_named ?_
  intro V5 hV
  have hk : Below W4.heap.size W4 V5 := by rw [hV]; (repeat' (first | with_reducible exact Below.refl _ _ | with_reducible assumption | with_reducible refine Below.setCell ?_ ?_ _ | with_reducible refine Below.drew ?_ | with_reducible refine Below.alloc ?_ ?_ _ | with_reducible refine Below.trans ?_ (Below.mono (by assumption) ?_) | (dsimp only; omega) | (simp; done) | (simp; omega) | omega))
  have hkz5 := hk.size
  have R5_0 := hid (FreshA.below (cf := cBer) (sz := 5) (T := 48) (B := V1.heap.size) R4_0.out hk)
  have hw5 : Below w.heap.size w V5 := Below.trans hw (Below.mono hk (by have := hw.size; omega))
  clear hw hk
  have hw := hw5
  clear hw5
  have hwz := hw.size
  clear R4_0
  clear hV
  refine (c_spec_EarliestBerth q Af xs cf l s f _ R5_0.out.rds (by omega) (by omega) (by omega)).mono ?_
  simp only [HE.out]
  rintro e W6 ⟨rfl, hb⟩
  have hk : Below V5.heap.size V5 W6 := hb
  have hkz6 := hk.size
  have R6_0 := hid (FreshA.below (cf := cBer) (sz := 5) (T := 48) (B := V1.heap.size) R5_0.out hk)
  have hw6 : Below w.heap.size w W6 := Below.trans hw (Below.mono hk (by have := hw.size; omega))
  clear hw hk
  have hw := hw6
  clear hw6
  have hwz := hw.size
  clear R5_0
  clear hb
  go_upto_region 8 with (fail)
  go_cut [103] (fun s103 wx => ∃ bb : Bool, s103 = .bool bb ∧ wx = W6 ∧ Hid (bb = true → ok = true ∧ xs.length < 10 ∧ ∀ x ∈ xs, x.1 < 99))
  case first =>
    as_aux_lemma =>
      cases ok
      · (go_wp2_with (fail); go_meet; exact ⟨false, rfl, rfl, hid (fun h => by cases h)⟩)
      by_cases h10 : xs.length < 10
      rotate_left
      · (go_wp2_with (fail); go_meet; exact ⟨false, rfl, rfl, hid (fun h => by cases h)⟩)
      by_cases h0 : 0 < xs.length
      rotate_left
      · have hb0 : ((xs.length : Int) == 0) = true := by rw [beq_iff_eq]; omega
        (go_wp2_with (fail); go_meet; exact ⟨true, rfl, rfl, hid (fun _ => ⟨rfl, h10, fun x hx => absurd (List.length_pos_of_mem hx) h0⟩)⟩)
      obtain ⟨gp, rfl, hBp, hOp⟩ := FreshA.row R6_0.out h0
      clear hOp
      obtain ⟨m, hm1, hm2⟩ : ∃ m, m < xs.length ∧ xs.length ≤ m + 1 := ⟨xs.length - 1, by omega, by omega⟩
      obtain ⟨b9, o9, hge9, hb9, hc9⟩ := R6_0.out.rds m xs[m] (List.getElem?_eq_getElem hm1)
      cases hge9
      have hy := hc9 0 _ rfl
      simp only [Nat.add_zero, Nat.zero_add] at hy
      clear hc9
      have hlm : (xs.length : Int) - 1 = (m : Int) := by omega
      have hids : Hid (berV q xs = true → xs[m].1 < 99 → ∀ x ∈ xs, x.1 < 99) := hid (fun hv h => ids_lt hv hm1 hm2 h)
      generalize xs[m] = y at hy hids
      have hb0 : ((xs.length : Int) == 0) = false := by rw [beq_eq_false_iff_ne]; omega
      by_cases h99 : y.1 < 99
      rotate_left
      · (go_wp2_with (fail); go_meet; exact ⟨false, rfl, rfl, hid (fun h => by cases h)⟩)
      · (go_wp2_with (fail); go_meet; exact ⟨true, rfl, rfl, hid (fun _ => ⟨rfl, h10, hids.out (early_law HE.out).1 h99⟩)⟩)
  case rest =>
  obtain ⟨bb, rfl, hwc, HBB⟩ := hcut
  have hwc2 := hwc.symm; clear hwc; subst hwc2
  go_upto_if 103 with (fail)
  go_cut [] (fun wx => Below w.heap.size w wx)
  case first =>
    as_aux_lemma =>
      cases bb
      · (go_wp2_with (fail); go_meet; exact hw)
      obtain ⟨rfl, h10, hids⟩ := HBB.out rfl
      obtain ⟨⟨L, hL⟩, hfh, hno, hf0, hl1, hs1, hhs, hce, hcl, hq20⟩ := bt_add HE.out h10 hids
      have HL := hid hL; have HNO := hid hno; clear hL hno hids HBB HE
      go_wp2_with (fail)
      refine calls_named ?_
      intro V7 hV
      have hk : Below W6.heap.size W6 V7 := by rw [hV]; (repeat' (first | with_reducible exact Below.refl _ _ | with_reducible assumption | with_reducible refine Below.setCell ?_ ?_ _ | with_reducible refine Below.drew ?_ | with_reducible refine Below.alloc ?_ ?_ _ | with_reducible refine Below.trans ?_ (Below.mono (by assumption) ?_) | (dsimp only; omega) | (simp; done) | (simp; omega) | omega))
      have hkz7 := hk.size
      have R7_0 := hid (FreshA.below (cf := cBer) (sz := 5) (T := 48) (B := V1.heap.size) R6_0.out hk)
      have hw7 : Below w.heap.size w V7 := Below.trans hw (Below.mono hk (by have := hw.size; omega))
      clear hw hk
      have hw := hw7
      clear hw7
      have hwz := hw.size
      clear R6_0
      have d7_0 : V7.cell? ⟨W6.heap.size, 0, none⟩ = some (.int .i64 99) := by rw [hV]; first | (simp [go_sem, ↓IntWalk.iteOmega, *]; done) | (simp [go_sem, ↓IntWalk.iteOmega, *]; intros; omega)
      have d7_1 : V7.cell? ⟨W6.heap.size, 1, none⟩ = some (.int .i64 ce) := by rw [hV]; first | (simp [go_sem, ↓IntWalk.iteOmega, *]; done) | (simp [go_sem, ↓IntWalk.iteOmega, *]; intros; omega)
      have d7_2 : V7.cell? ⟨W6.heap.size, 2, none⟩ = some (.int .i64 l) := by rw [hV]; first | (simp [go_sem, ↓IntWalk.iteOmega, *]; done) | (simp [go_sem, ↓IntWalk.iteOmega, *]; intros; omega)
      have d7_3 : V7.cell? ⟨W6.heap.size, 3, none⟩ = some (.int .i64 hh) := by rw [hV]; first | (simp [go_sem, ↓IntWalk.iteOmega, *]; done) | (simp [go_sem, ↓IntWalk.iteOmega, *]; intros; omega)
      have d7_4 : V7.cell? ⟨W6.heap.size, 4, none⟩ = some (.int .i64 (hh + s)) := by rw [hV]; first | (simp [go_sem, ↓IntWalk.iteOmega, *]; done) | (simp [go_sem, ↓IntWalk.iteOmega, *]; intros; omega)
      have hzb : ∀ o, V7.frozen? ⟨W6.heap.size, o, none⟩ = false := by rw [hV]; intro o; first | (simp [go_sem, ↓IntWalk.iteOmega, *]; done) | (simp [go_sem, ↓IntWalk.iteOmega, *]; intros; omega)
      have e7_0 : W6.heap.size < V7.heap.size := by rw [hV]; first | (simp; done) | (simp; omega)
      clear hV
      generalize htbtb : W6.heap.size = tb at *
      have hap : ∀ a, Af = some a → a.block ≠ tb := fun a ha => by have := hiS2_0 a ha; omega
      refine (c_impl_AddBerth q Af xs cf 99 ce l hh (hh + s) _ R7_0.out.rds (by omega) (by omega) (by omega)).mono ?_
      simp only [HL.out]
      rintro e W8 ⟨A8, c8, rfl, hF8, hb⟩
      have hzb2 : ∀ o, W8.frozen? ⟨tb, o, none⟩ = false := fun o => (hb.frozen (p := ⟨tb, o, none⟩) (by show tb < _; omega)).trans (hzb o)
      clear hzb
      have hzb := hzb2; clear hzb2
      have hk : Below V7.heap.size V7 W8 := hb
      have hkz8 := hk.size
      have c8_0 : W8.cell? ⟨tb, 0, none⟩ = some (.int .i64 99) := (hb.cell (p := ⟨tb, 0, none⟩) (by show tb < _; omega)).trans d7_0
      have c8_1 : W8.cell? ⟨tb, 1, none⟩ = some (.int .i64 ce) := (hb.cell (p := ⟨tb, 1, none⟩) (by show tb < _; omega)).trans d7_1
      have c8_2 : W8.cell? ⟨tb, 2, none⟩ = some (.int .i64 l) := (hb.cell (p := ⟨tb, 2, none⟩) (by show tb < _; omega)).trans d7_2
      have c8_3 : W8.cell? ⟨tb, 3, none⟩ = some (.int .i64 hh) := (hb.cell (p := ⟨tb, 3, none⟩) (by show tb < _; omega)).trans d7_3
      have c8_4 : W8.cell? ⟨tb, 4, none⟩ = some (.int .i64 (hh + s)) := (hb.cell (p := ⟨tb, 4, none⟩) (by show tb < _; omega)).trans d7_4
      have b8_0 : tb < W8.heap.size := by omega
      have R8_0 := hid (FreshA.below (cf := cBer) (sz := 5) (T := 48) (B := V1.heap.size) R7_0.out hk)
      have hw8 : Below w.heap.size w W8 := Below.trans hw (Below.mono hk (by have := hw.size; omega))
      clear hw hk
      have hw := hw8
      clear hw8
      have hwz := hw.size
      clear d7_0 d7_1 d7_2 d7_3 d7_4 R7_0
      clear hb
      clear hF8
      by_cases hlt : f < hh
      rotate_left
      · (go_wp2_with (fail); go_meet; exact hw)
      go_wp2_with (fail)
      have HRF := hid (R8_0.out)
      go_loopw [] (fun wr => ∃ cc : Int, 0 ≤ cc ∧ cc + l ≤ q + 1 ∧ wr.cell? ⟨tb, 0, none⟩ = some (.int .i64 99) ∧ wr.cell? ⟨tb, 1, none⟩ = some (.int .i64 cc) ∧ wr.cell? ⟨tb, 2, none⟩ = some (.int .i64 l) ∧ wr.cell? ⟨tb, 3, none⟩ = some (.int .i64 (hh - 1)) ∧ wr.cell? ⟨tb, 4, none⟩ = some (.int .i64 (hh + s - 1)) ∧ (∀ o, wr.frozen? ⟨tb, o, none⟩ = false) ∧ tb < wr.heap.size ∧ Hid (FreshA cBer 5 48 V1.heap.size wr Af cf xs) ∧ Below w.heap.size w wr) (fun wr => (q + 1 - intOf ((wr.cell? ⟨tb, 1, none⟩).getD (.int .i64 0))).toNat)
      case atStart =>
        refine ⟨0, by omega, by omega, ?_, ?_, ?_, ?_, ?_, ?_, ?_, hid ?_, ?_⟩
        all_goals first | (first | (simp [go_sem, ↓IntWalk.iteOmega, *]; done) | (simp [go_sem, ↓IntWalk.iteOmega, *]; intros; omega); done) | (intro o; first | (simp [go_sem, ↓IntWalk.iteOmega, *]; done) | (simp [go_sem, ↓IntWalk.iteOmega, *]; intros; omega); done) | ((repeat' (first | with_reducible exact HRF.out | with_reducible refine FreshA.set_at ?_ hap _ | (dsimp only; omega))); done) | skip
        (repeat' (first | with_reducible exact Below.refl _ _ | with_reducible assumption | with_reducible refine Below.setCell ?_ ?_ _ | with_reducible refine Below.drew ?_ | with_reducible refine Below.alloc ?_ ?_ _ | with_reducible refine Below.trans ?_ (Below.mono (by assumption) ?_) | (dsimp only; omega) | (simp; done) | (simp; omega) | omega))
      case round =>
        obtain ⟨cc, hc1, hc2, k0, k1, k2, k3, k4, hzr, htr, HRW, hbr⟩ := hrel
        clear c8_0
        clear c8_1
        clear c8_2
        clear c8_3
        clear c8_4
        have HK1 := hid k1
        clear hzb HRF R8_0
        have hzb := hzr; clear hzr
        clear hw
        have hw := hbr; clear hbr
        have hwz := hw.size
        by_cases hcq : cc + l ≤ q
        rotate_left
        · (go_wp2_with (fail); go_meet; exact hw)
        have HN := hid (HNO.out hlt cc hc1 hcq)
        go_wp2_with (fail)
        refine (c_impl_AddBerth q Af xs cf 99 cc l (hh - 1) (hh + s - 1) _ HRW.out.rds (by omega) (by omega) (by omega)).mono ?_
        simp only [HN.out]
        rintro e W9 ⟨A9, c9, rfl, hF9, hb⟩
        have hzb2 : ∀ o, W9.frozen? ⟨tb, o, none⟩ = false := fun o => (hb.frozen (p := ⟨tb, o, none⟩) (by show tb < _; omega)).trans (hzb o)
        clear hzb
        have hzb := hzb2; clear hzb2
        have hk : Below wr.heap.size wr W9 := hb
        have hkz9 := hk.size
        have c9_0 : W9.cell? ⟨tb, 0, none⟩ = some (.int .i64 99) := (hb.cell (p := ⟨tb, 0, none⟩) (by show tb < _; omega)).trans k0
        have c9_1 : W9.cell? ⟨tb, 1, none⟩ = some (.int .i64 cc) := (hb.cell (p := ⟨tb, 1, none⟩) (by show tb < _; omega)).trans k1
        have c9_2 : W9.cell? ⟨tb, 2, none⟩ = some (.int .i64 l) := (hb.cell (p := ⟨tb, 2, none⟩) (by show tb < _; omega)).trans k2
        have c9_3 : W9.cell? ⟨tb, 3, none⟩ = some (.int .i64 (hh - 1)) := (hb.cell (p := ⟨tb, 3, none⟩) (by show tb < _; omega)).trans k3
        have c9_4 : W9.cell? ⟨tb, 4, none⟩ = some (.int .i64 (hh + s - 1)) := (hb.cell (p := ⟨tb, 4, none⟩) (by show tb < _; omega)).trans k4
        have b9_0 : tb < W9.heap.size := by omega
        have R9_0 := hid (FreshA.below (cf := cBer) (sz := 5) (T := 48) (B := V1.heap.size) HRW.out hk)
        have hw9 : Below w.heap.size w W9 := Below.trans hw (Below.mono hk (by have := hw.size; omega))
        clear hw hk
        have hw := hw9
        clear hw9
        have hwz := hw.size
        clear k0 k1 k2 k3 k4 HRW
        clear hb
        clear hF9
        go_wp2_with (fail)
        go_roundw
        case rel =>
          refine ⟨cc + 1, by omega, by omega, ?_, ?_, ?_, ?_, ?_, ?_, ?_, hid ?_, ?_⟩
          all_goals first | (first | (simp [go_sem, ↓IntWalk.iteOmega, *]; done) | (simp [go_sem, ↓IntWalk.iteOmega, *]; intros; omega); done) | (intro o; first | (simp [go_sem, ↓IntWalk.iteOmega, *]; done) | (simp [go_sem, ↓IntWalk.iteOmega, *]; intros; omega); done) | ((repeat' (first | with_reducible exact R9_0.out | with_reducible refine FreshA.set_at ?_ hap _ | (dsimp only; omega))); done) | skip
          (repeat' (first | with_reducible exact Below.refl _ _ | with_reducible assumption | with_reducible refine Below.setCell ?_ ?_ _ | with_reducible refine Below.drew ?_ | with_reducible refine Below.alloc ?_ ?_ _ | with_reducible refine Below.trans ?_ (Below.mono (by assumption) ?_) | (dsimp only; omega) | (simp; done) | (simp; omega) | omega))
        case measure =>
          have hm0 : (wr.cell? ⟨tb, 1, none⟩).getD (.int .i64 0) = .int .i64 cc := by rw [HK1.out]; rfl
          rw [hm0]
          trace_state; simp [go_sem, ↓IntWalk.iteOmega, intOf, *]; omega
  case rest =>
  clear R6_0
  clear hw
  have hw := hcut; clear hcut; generalize wc = wq7 at *
  have hwz := hw.size
  as_aux_lemma =>
    go_wp2_with (fail)
    refine calls_named ?_
    intro V8 hV
    have hk : Below wq7.heap.size wq7 V8 := by rw [hV]; (repeat' (first | with_reducible exact Below.refl _ _ | with_reducible assumption | with_reducible refine Below.setCell ?_ ?_ _ | with_reducible refine Below.drew ?_ | with_reducible refine Below.alloc ?_ ?_ _ | with_reducible refine Below.trans ?_ (Below.mono (by assumption) ?_) | (dsimp only; omega) | (simp; done) | (simp; omega) | omega))
    have hkz8 := hk.size
    have hw8 : Below w.heap.size w V8 := Below.trans hw (Below.mono hk (by have := hw.size; omega))
    clear hw hk
    have hw := hw8
    clear hw8
    have hwz := hw.size
    clear hV
    refine (c_spec_DrawFullHours A cs cap _ (Rds.below hr hw) hby (by omega)).mono ?_
    rintro e W9 ⟨q2, Bf, bf, ys, rfl, hFf, hyl, hb⟩
    have hk : Below V8.heap.size V8 W9 := hb
    have hkz9 := hk.size
    have hw9 : Below w.heap.size w W9 := Below.trans hw (Below.mono hk (by have := hw.size; omega))
    clear hw hk
    have hw := hw9
    clear hw9
    have hwz := hw.size
    clear hb
    have S9_0 : Hid (FreshA cBer 5 48 V8.heap.size W9 Bf bf ys) := hid (hFf)
    have loS9_0 := S9_0.out.lo
    have hiS9_0 := S9_0.out.hi
    clear hFf
    have hcaBf := (S9_0.out).capLe; have hmaBf := (S9_0.out).capMax; unfold maxLen at hmaBf
    obtain ⟨fu, fine, hFU⟩ : ∃ fu fine, fullV q2 ys = (fu, fine) := ⟨_, _, rfl⟩
    have HFU := hid hFU; clear hFU
    go_wp2_with (fail)
    refine calls_named ?_
    intro V10 hV
    have hk : Below W9.heap.size W9 V10 := by rw [hV]; (repeat' (first | with_reducible exact Below.refl _ _ | with_reducible assumption | with_reducible refine Below.setCell ?_ ?_ _ | with_reducible refine Below.drew ?_ | with_reducible refine Below.alloc ?_ ?_ _ | with_reducible refine Below.trans ?_ (Below.mono (by assumption) ?_) | (dsimp only; omega) | (simp; done) | (simp; omega) | omega))
    have hkz10 := hk.size
    have R10_0 := hid (FreshA.below (cf := cBer) (sz := 5) (T := 48) (B := V8.heap.size) S9_0.out hk)
    have hw10 : Below w.heap.size w V10 := Below.trans hw (Below.mono hk (by have := hw.size; omega))
    clear hw hk
    have hw := hw10
    clear hw10
    have hwz := hw.size
    clear S9_0
    clear hV
    refine (c_impl_FullHours q2 Bf ys bf _ R10_0.out.rds (by omega) (by omega) (by omega)).mono ?_
    simp only [HFU.out]
    rintro e W11 ⟨rfl, hb⟩
    have hk : Below V10.heap.size V10 W11 := hb
    have hkz11 := hk.size
    have R11_0 := hid (FreshA.below (cf := cBer) (sz := 5) (T := 48) (B := V8.heap.size) R10_0.out hk)
    have hw11 : Below w.heap.size w W11 := Below.trans hw (Below.mono hk (by have := hw.size; omega))
    clear hw hk
    have hw := hw11
    clear hw11
    have hwz := hw.size
    clear R10_0
    clear hb
    go_wp2_with (fail)
    refine calls_named ?_
    intro V12 hV
    have hk : Below W11.heap.size W11 V12 := by rw [hV]; (repeat' (first | with_reducible exact Below.refl _ _ | with_reducible assumption | with_reducible refine Below.setCell ?_ ?_ _ | with_reducible refine Below.drew ?_ | with_reducible refine Below.alloc ?_ ?_ _ | with_reducible refine Below.trans ?_ (Below.mono (by assumption) ?_) | (dsimp only; omega) | (simp; done) | (simp; omega) | omega))
    have hkz12 := hk.size
    have R12_0 := hid (FreshA.below (cf := cBer) (sz := 5) (T := 48) (B := V8.heap.size) R11_0.out hk)
    have hw12 : Below w.heap.size w V12 := Below.trans hw (Below.mono hk (by have := hw.size; omega))
    clear hw hk
    have hw := hw12
    clear hw12
    have hwz := hw.size
    clear R11_0
    clear hV
    refine (c_spec_FullHours q2 Bf ys bf _ R12_0.out.rds (by omega)).mono ?_
    simp only [HFU.out]
    rintro e W13 ⟨rfl, hb⟩
    have hk : Below V12.heap.size V12 W13 := hb
    have hkz13 := hk.size
    have R13_0 := hid (FreshA.below (cf := cBer) (sz := 5) (T := 48) (B := V8.heap.size) R12_0.out hk)
    have hw13 : Below w.heap.size w W13 := Below.trans hw (Below.mono hk (by have := hw.size; omega))
    clear hw hk
    have hw := hw13
    clear hw13
    have hwz := hw.size
    clear R12_0
    clear hb
    clear R13_0
    go_wp2_with (fail)
    refine calls_named ?_
    intro V14 hV
    have hk : Below W13.heap.size W13 V14 := by rw [hV]; (repeat' (first | with_reducible exact Below.refl _ _ | with_reducible assumption | with_reducible refine Below.setCell ?_ ?_ _ | with_reducible refine Below.drew ?_ | with_reducible refine Below.alloc ?_ ?_ _ | with_reducible refine Below.trans ?_ (Below.mono (by assumption) ?_) | (dsimp only; omega) | (simp; done) | (simp; omega) | omega))
    have hkz14 := hk.size
    have hw14 : Below w.heap.size w V14 := Below.trans hw (Below.mono hk (by have := hw.size; omega))
    clear hw hk
    have hw := hw14
    clear hw14
    have hwz := hw.size
    clear hV
    refine (c_spec_DrawLongestFree A cs cap _ (Rds.below hr hw) hby (by omega)).mono ?_
    rintro e W15 ⟨q3, Cf, df, zs, c, rfl, hFf, hzl, hb⟩
    have hk : Below V14.heap.size V14 W15 := hb
    have hkz15 := hk.size
    have hw15 : Below w.heap.size w W15 := Below.trans hw (Below.mono hk (by have := hw.size; omega))
    clear hw hk
    have hw := hw15
    clear hw15
    have hwz := hw.size
    clear hb
    have S15_0 : Hid (FreshA cBer 5 48 V14.heap.size W15 Cf df zs) := hid (hFf)
    have loS15_0 := S15_0.out.lo
    have hiS15_0 := S15_0.out.hi
    clear hFf
    have hcaCf := (S15_0.out).capLe; have hmaCf := (S15_0.out).capMax; unfold maxLen at hmaCf
    obtain ⟨fi, n, told, hLO⟩ : ∃ fi n told, longV q3 zs c = (fi, n, told) := ⟨_, _, _, rfl⟩
    have HLO := hid hLO; clear hLO
    go_wp2_with (fail)
    refine calls_named ?_
    intro V16 hV
    have hk : Below W15.heap.size W15 V16 := by rw [hV]; (repeat' (first | with_reducible exact Below.refl _ _ | with_reducible assumption | with_reducible refine Below.setCell ?_ ?_ _ | with_reducible refine Below.drew ?_ | with_reducible refine Below.alloc ?_ ?_ _ | with_reducible refine Below.trans ?_ (Below.mono (by assumption) ?_) | (dsimp only; omega) | (simp; done) | (simp; omega) | omega))
    have hkz16 := hk.size
    have R16_0 := hid (FreshA.below (cf := cBer) (sz := 5) (T := 48) (B := V14.heap.size) S15_0.out hk)
    have hw16 : Below w.heap.size w V16 := Below.trans hw (Below.mono hk (by have := hw.size; omega))
    clear hw hk
    have hw := hw16
    clear hw16
    have hwz := hw.size
    clear S15_0
    clear hV
    refine (c_impl_LongestFree q3 Cf zs df c _ R16_0.out.rds (by omega) (by omega) (by omega)).mono ?_
    simp only [HLO.out]
    rintro e W17 ⟨rfl, hb⟩
    have hk : Below V16.heap.size V16 W17 := hb
    have hkz17 := hk.size
    have R17_0 := hid (FreshA.below (cf := cBer) (sz := 5) (T := 48) (B := V14.heap.size) R16_0.out hk)
    have hw17 : Below w.heap.size w W17 := Below.trans hw (Below.mono hk (by have := hw.size; omega))
    clear hw hk
    have hw := hw17
    clear hw17
    have hwz := hw.size
    clear R16_0
    clear hb
    go_wp2_with (fail)
    refine calls_named ?_
    intro V18 hV
    have hk : Below W17.heap.size W17 V18 := by rw [hV]; (repeat' (first | with_reducible exact Below.refl _ _ | with_reducible assumption | with_reducible refine Below.setCell ?_ ?_ _ | with_reducible refine Below.drew ?_ | with_reducible refine Below.alloc ?_ ?_ _ | with_reducible refine Below.trans ?_ (Below.mono (by assumption) ?_) | (dsimp only; omega) | (simp; done) | (simp; omega) | omega))
    have hkz18 := hk.size
    have R18_0 := hid (FreshA.below (cf := cBer) (sz := 5) (T := 48) (B := V14.heap.size) R17_0.out hk)
    have hw18 : Below w.heap.size w V18 := Below.trans hw (Below.mono hk (by have := hw.size; omega))
    clear hw hk
    have hw := hw18
    clear hw18
    have hwz := hw.size
    clear R17_0
    clear hV
    refine (c_spec_LongestFree q3 Cf zs df c _ R18_0.out.rds (by omega)).mono ?_
    simp only [HLO.out]
    rintro e W19 ⟨rfl, hb⟩
    have hk : Below V18.heap.size V18 W19 := hb
    have hkz19 := hk.size
    have R19_0 := hid (FreshA.below (cf := cBer) (sz := 5) (T := 48) (B := V14.heap.size) R18_0.out hk)
    have hw19 : Below w.heap.size w W19 := Below.trans hw (Below.mono hk (by have := hw.size; omega))
    clear hw hk
    have hw := hw19
    clear hw19
    have hwz := hw.size
    clear R18_0
    clear hb
    cases told
    · go_wp2_with (fail)
      go_ret
      exact ⟨by first | rfl | exact ret_bool (by simp), by first | exact hw | (repeat' (first | with_reducible exact Below.refl _ _ | with_reducible assumption | with_reducible refine Below.setCell ?_ ?_ _ | with_reducible refine Below.drew ?_ | with_reducible refine Below.alloc ?_ ?_ _ | with_reducible refine Below.trans ?_ (Below.mono (by assumption) ?_) | (dsimp only; omega) | (simp; done) | (simp; omega) | omega))⟩
    obtain ⟨⟨L1, e1, l1, m1⟩, ⟨L2, e2, l2, m2⟩, hne, hfi, hn1, hfn⟩ := bt_long HLO.out
    have E1 := hid e1; have E2 := hid e2; have M1 := hid m1; have M2 := hid m2; have HNE := hid hne; clear e1 e2 m1 m2 hne HLO
    go_wp2_with (fail)
    refine calls_named ?_
    intro V20 hV
    have hk : Below W19.heap.size W19 V20 := by rw [hV]; (repeat' (first | with_reducible exact Below.refl _ _ | with_reducible assumption | with_reducible refine Below.setCell ?_ ?_ _ | with_reducible refine Below.drew ?_ | with_reducible refine Below.alloc ?_ ?_ _ | with_reducible refine Below.trans ?_ (Below.mono (by assumption) ?_) | (dsimp only; omega) | (simp; done) | (simp; omega) | omega))
    have hkz20 := hk.size
    have R20_0 := hid (FreshA.below (cf := cBer) (sz := 5) (T := 48) (B := V14.heap.size) R19_0.out hk)
    have hw20 : Below w.heap.size w V20 := Below.trans hw (Below.mono hk (by have := hw.size; omega))
    clear hw hk
    have hw := hw20
    clear hw20
    have hwz := hw.size
    clear R19_0
    clear hV
    refine (c_impl_FreeCells q3 Cf zs df fi _ R20_0.out.rds (by omega) (by omega) (by omega)).mono ?_
    simp only [E1.out]
    rintro e W21 ⟨G1, g1, rfl, hG, hb⟩
    have hk : Below V20.heap.size V20 W21 := hb
    have hkz21 := hk.size
    have R21_0 := hid (FreshA.below (cf := cBer) (sz := 5) (T := 48) (B := V14.heap.size) R20_0.out hk)
    have hw21 : Below w.heap.size w W21 := Below.trans hw (Below.mono hk (by have := hw.size; omega))
    clear hw hk
    have hw := hw21
    clear hw21
    have hwz := hw.size
    clear R20_0
    clear hb
    have S21_1 : Hid (FreshA cIn 1 3 V20.heap.size W21 G1 g1 L1) := hid (hG)
    have loS21_1 := S21_1.out.lo
    have hiS21_1 := S21_1.out.hi
    clear hG
    go_wp2_with (fail)
    refine calls_named ?_
    intro V22 hV
    have hk : Below W21.heap.size W21 V22 := by rw [hV]; (repeat' (first | with_reducible exact Below.refl _ _ | with_reducible assumption | with_reducible refine Below.setCell ?_ ?_ _ | with_reducible refine Below.drew ?_ | with_reducible refine Below.alloc ?_ ?_ _ | with_reducible refine Below.trans ?_ (Below.mono (by assumption) ?_) | (dsimp only; omega) | (simp; done) | (simp; omega) | omega))
    have hkz22 := hk.size
    have R22_0 := hid (FreshA.below (cf := cBer) (sz := 5) (T := 48) (B := V14.heap.size) R21_0.out hk)
    have R22_1 := hid (FreshA.below (cf := cIn) (sz := 1) (T := 3) (B := V20.heap.size) S21_1.out hk)
    have hw22 : Below w.heap.size w V22 := Below.trans hw (Below.mono hk (by have := hw.size; omega))
    clear hw hk
    have hw := hw22
    clear hw22
    have hwz := hw.size
    clear R21_0 S21_1
    clear hV
    refine (c_impl_FreeCells q3 Cf zs df (fi + n - 1) _ R22_0.out.rds (by omega) (by omega) (by omega)).mono ?_
    simp only [E2.out]
    rintro e W23 ⟨G2, g2, rfl, hG, hb⟩
    have hk : Below V22.heap.size V22 W23 := hb
    have hkz23 := hk.size
    have R23_0 := hid (FreshA.below (cf := cBer) (sz := 5) (T := 48) (B := V14.heap.size) R22_0.out hk)
    have R23_1 := hid (FreshA.below (cf := cIn) (sz := 1) (T := 3) (B := V20.heap.size) R22_1.out hk)
    have hw23 : Below w.heap.size w W23 := Below.trans hw (Below.mono hk (by have := hw.size; omega))
    clear hw hk
    have hw := hw23
    clear hw23
    have hwz := hw.size
    clear R22_0 R22_1
    clear hb
    have S23_2 : Hid (FreshA cIn 1 3 V22.heap.size W23 G2 g2 L2) := hid (hG)
    have loS23_2 := S23_2.out.lo
    have hiS23_2 := S23_2.out.hi
    clear hG
    go_wp2_with (fail)
    refine calls_named ?_
    intro V24 hV
    have hk : Below W23.heap.size W23 V24 := by rw [hV]; (repeat' (first | with_reducible exact Below.refl _ _ | with_reducible assumption | with_reducible refine Below.setCell ?_ ?_ _ | with_reducible refine Below.drew ?_ | with_reducible refine Below.alloc ?_ ?_ _ | with_reducible refine Below.trans ?_ (Below.mono (by assumption) ?_) | (dsimp only; omega) | (simp; done) | (simp; omega) | omega))
    have hkz24 := hk.size
    have R24_0 := hid (FreshA.below (cf := cBer) (sz := 5) (T := 48) (B := V14.heap.size) R23_0.out hk)
    have R24_1 := hid (FreshA.below (cf := cIn) (sz := 1) (T := 3) (B := V20.heap.size) R23_1.out hk)
    have R24_2 := hid (FreshA.below (cf := cIn) (sz := 1) (T := 3) (B := V22.heap.size) S23_2.out hk)
    have hw24 : Below w.heap.size w V24 := Below.trans hw (Below.mono hk (by have := hw.size; omega))
    clear hw hk
    have hw := hw24
    clear hw24
    have hwz := hw.size
    clear R23_0 R23_1 S23_2
    clear hV
    refine (c_laws_rHas G1 L1 g1 c _ R24_1.out.rds (by omega)).mono ?_
    simp only [M1.out]
    rintro e W25 ⟨rfl, hb⟩
    have hk : Below V24.heap.size V24 W25 := hb
    have hkz25 := hk.size
    have R25_0 := hid (FreshA.below (cf := cBer) (sz := 5) (T := 48) (B := V14.heap.size) R24_0.out hk)
    have R25_1 := hid (FreshA.below (cf := cIn) (sz := 1) (T := 3) (B := V20.heap.size) R24_1.out hk)
    have R25_2 := hid (FreshA.below (cf := cIn) (sz := 1) (T := 3) (B := V22.heap.size) R24_2.out hk)
    have hw25 : Below w.heap.size w W25 := Below.trans hw (Below.mono hk (by have := hw.size; omega))
    clear hw hk
    have hw := hw25
    clear hw25
    have hwz := hw.size
    clear R24_0 R24_1 R24_2
    clear hb
    go_wp2_with (fail)
    refine calls_named ?_
    intro V26 hV
    have hk : Below W25.heap.size W25 V26 := by rw [hV]; (repeat' (first | with_reducible exact Below.refl _ _ | with_reducible assumption | with_reducible refine Below.setCell ?_ ?_ _ | with_reducible refine Below.drew ?_ | with_reducible refine Below.alloc ?_ ?_ _ | with_reducible refine Below.trans ?_ (Below.mono (by assumption) ?_) | (dsimp only; omega) | (simp; done) | (simp; omega) | omega))
    have hkz26 := hk.size
    have R26_0 := hid (FreshA.below (cf := cBer) (sz := 5) (T := 48) (B := V14.heap.size) R25_0.out hk)
    have R26_1 := hid (FreshA.below (cf := cIn) (sz := 1) (T := 3) (B := V20.heap.size) R25_1.out hk)
    have R26_2 := hid (FreshA.below (cf := cIn) (sz := 1) (T := 3) (B := V22.heap.size) R25_2.out hk)
    have hw26 : Below w.heap.size w V26 := Below.trans hw (Below.mono hk (by have := hw.size; omega))
    clear hw hk
    have hw := hw26
    clear hw26
    have hwz := hw.size
    clear R25_0 R25_1 R25_2
    clear hV
    refine (c_laws_rHas G2 L2 g2 c _ R26_2.out.rds (by omega)).mono ?_
    simp only [M2.out]
    rintro e W27 ⟨rfl, hb⟩
    have hk : Below V26.heap.size V26 W27 := hb
    have hkz27 := hk.size
    have R27_0 := hid (FreshA.below (cf := cBer) (sz := 5) (T := 48) (B := V14.heap.size) R26_0.out hk)
    have R27_1 := hid (FreshA.below (cf := cIn) (sz := 1) (T := 3) (B := V20.heap.size) R26_1.out hk)
    have R27_2 := hid (FreshA.below (cf := cIn) (sz := 1) (T := 3) (B := V22.heap.size) R26_2.out hk)
    have hw27 : Below w.heap.size w W27 := Below.trans hw (Below.mono hk (by have := hw.size; omega))
    clear hw hk
    have hw := hw27
    clear hw27
    have hwz := hw.size
    clear R26_0 R26_1 R26_2
    clear hb
    clear R27_1
    clear R27_2
    by_cases hf0 : 0 < fi
    rotate_left
    · go_wp2_with (fail)
      go_ret
      exact ⟨by first | rfl | exact ret_bool (by simp), by first | exact hw | (repeat' (first | with_reducible exact Below.refl _ _ | with_reducible assumption | with_reducible refine Below.setCell ?_ ?_ _ | with_reducible refine Below.drew ?_ | with_reducible refine Below.alloc ?_ ?_ _ | with_reducible refine Below.trans ?_ (Below.mono (by assumption) ?_) | (dsimp only; omega) | (simp; done) | (simp; omega) | omega))⟩
    obtain ⟨L3, e3, l3, m3⟩ := HNE.out hf0
    have E3 := hid e3; have M3 := hid m3; clear e3 m3
    go_wp2_with (fail)
    refine calls_named ?_
    intro V28 hV
    have hk : Below W27.heap.size W27 V28 := by rw [hV]; (repeat' (first | with_reducible exact Below.refl _ _ | with_reducible assumption | with_reducible refine Below.setCell ?_ ?_ _ | with_reducible refine Below.drew ?_ | with_reducible refine Below.alloc ?_ ?_ _ | with_reducible refine Below.trans ?_ (Below.mono (by assumption) ?_) | (dsimp only; omega) | (simp; done) | (simp; omega) | omega))
    have hkz28 := hk.size
    have R28_0 := hid (FreshA.below (cf := cBer) (sz := 5) (T := 48) (B := V14.heap.size) R27_0.out hk)
    have hw28 : Below w.heap.size w V28 := Below.trans hw (Below.mono hk (by have := hw.size; omega))
    clear hw hk
    have hw := hw28
    clear hw28
    have hwz := hw.size
    clear R27_0
    clear hV
    refine (c_impl_FreeCells q3 Cf zs df (fi - 1) _ R28_0.out.rds (by omega) (by omega) (by omega)).mono ?_
    simp only [E3.out]
    rintro e W29 ⟨G3, g3, rfl, hG, hb⟩
    have hk : Below V28.heap.size V28 W29 := hb
    have hkz29 := hk.size
    have R29_0 := hid (FreshA.below (cf := cBer) (sz := 5) (T := 48) (B := V14.heap.size) R28_0.out hk)
    have hw29 : Below w.heap.size w W29 := Below.trans hw (Below.mono hk (by have := hw.size; omega))
    clear hw hk
    have hw := hw29
    clear hw29
    have hwz := hw.size
    clear R28_0
    clear hb
    have S29_1 : Hid (FreshA cIn 1 3 V28.heap.size W29 G3 g3 L3) := hid (hG)
    have loS29_1 := S29_1.out.lo
    have hiS29_1 := S29_1.out.hi
    clear hG
    go_wp2_with (fail)
    refine calls_named ?_
    intro V30 hV
    have hk : Below W29.heap.size W29 V30 := by rw [hV]; (repeat' (first | with_reducible exact Below.refl _ _ | with_reducible assumption | with_reducible refine Below.setCell ?_ ?_ _ | with_reducible refine Below.drew ?_ | with_reducible refine Below.alloc ?_ ?_ _ | with_reducible refine Below.trans ?_ (Below.mono (by assumption) ?_) | (dsimp only; omega) | (simp; done) | (simp; omega) | omega))
    have hkz30 := hk.size
    have R30_0 := hid (FreshA.below (cf := cBer) (sz := 5) (T := 48) (B := V14.heap.size) R29_0.out hk)
    have R30_1 := hid (FreshA.below (cf := cIn) (sz := 1) (T := 3) (B := V28.heap.size) S29_1.out hk)
    have hw30 : Below w.heap.size w V30 := Below.trans hw (Below.mono hk (by have := hw.size; omega))
    clear hw hk
    have hw := hw30
    clear hw30
    have hwz := hw.size
    clear R29_0 S29_1
    clear hV
    refine (c_laws_rHas G3 L3 g3 c _ R30_1.out.rds (by omega)).mono ?_
    simp only [M3.out]
    rintro e W31 ⟨rfl, hb⟩
    have hk : Below V30.heap.size V30 W31 := hb
    have hkz31 := hk.size
    have R31_0 := hid (FreshA.below (cf := cBer) (sz := 5) (T := 48) (B := V14.heap.size) R30_0.out hk)
    have R31_1 := hid (FreshA.below (cf := cIn) (sz := 1) (T := 3) (B := V28.heap.size) R30_1.out hk)
    have hw31 : Below w.heap.size w W31 := Below.trans hw (Below.mono hk (by have := hw.size; omega))
    clear hw hk
    have hw := hw31
    clear hw31
    have hwz := hw.size
    clear R30_0 R30_1
    clear hb
    go_wp2_with (fail)
    go_ret
    exact ⟨by first | rfl | exact ret_bool (by simp), by first | exact hw | (repeat' (first | with_reducible exact Below.refl _ _ | with_reducible assumption | with_reducible refine Below.setCell ?_ ?_ _ | with_reducible refine Below.drew ?_ | with_reducible refine Below.alloc ?_ ?_ _ | with_reducible refine Below.trans ?_ (Below.mono (by assumption) ?_) | (dsimp only; omega) | (simp; done) | (simp; omega) | omega))⟩

end Go.Proofs.Ytfipmalomhflgaa
