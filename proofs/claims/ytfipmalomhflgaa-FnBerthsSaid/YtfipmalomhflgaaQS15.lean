import Derived.Test.YtfipmalomhflgaaQS05
import Derived.Test.YtfipmalomhflgaaQS06
import Derived.Test.YtfipmalomhflgaaQS10
import Derived.Test.YtfipmalomhflgaaQS11
import Derived.Test.YtfipmalomhflgaaQS12
import Derived.Test.YtfipmalomhflgaaQS13
import Derived.Test.YtfipmalomhflgaaQS14
import Derived.Deep.Cut
import Derived.Deep.DeepCutAuto
namespace Go.Proofs.Ytfipmalomhflgaa
set_option linter.unusedSimpArgs false
set_option linter.unusedVariables false
open Go.RowKit

def FS13_19 (hh z1 z4 z5 : Int) (bx ox k n0 cf : Nat) (H1 : Option Addr) (n1 h1 : Nat) (w W0 : World) (iq : Nat) (v : Value) (w1 : World) : Prop := match iq with
  | 0 => v = .slice H1 n1 h1
  | 1 => v = .slice (some ⟨bx, ox, none⟩) n0 cf
  | 2 => v = .int .i64 (k)
  | 3 => v = .pointer (some ⟨bx, ox + k * 5, none⟩)
  | 4 => v = .pointer (some ⟨bx, ox + k * 5, none⟩)
  | 5 => v = .int .i64 (z1)
  | 6 => v = .bool (false)
  | 7 => v = .int .i64 (hh)
  | 8 => v = .slice (some ⟨bx, ox, none⟩) n0 cf
  | 9 => v = .int .i64 (k)
  | 10 => v = .pointer (some ⟨bx, ox + k * 5, none⟩)
  | 11 => v = .pointer (some ⟨bx, ox + k * 5 + 3, none⟩)
  | 12 => v = .int .i64 (z4)
  | 13 => v = .bool (false)
  | 14 => v = .bool (false)
  | 15 => v = undef
  | 16 => v = undef
  | 17 => v = undef
  | 18 => v = undef
  | 19 => v = undef
  | 20 => v = undef
  | 21 => v = undef
  | 22 => v = .bool (false)
  | 23 => v = .bool (false)
  | _ => True

def FS13_19_26 (hh z1 z4 z5 : Int) (bx ox k n0 cf : Nat) (H1 : Option Addr) (n1 h1 : Nat) (w W0 : World) (iq : Nat) (v : Value) (w1 : World) : Prop := match iq with
  | 0 => v = .slice H1 n1 h1
  | 1 => v = .slice (some ⟨bx, ox, none⟩) n0 cf
  | 2 => v = .int .i64 (k)
  | 3 => v = .pointer (some ⟨bx, ox + k * 5, none⟩)
  | 4 => v = .pointer (some ⟨bx, ox + k * 5, none⟩)
  | 5 => v = .int .i64 (z1)
  | 6 => v = .bool (false)
  | 7 => v = .int .i64 (hh)
  | 8 => v = .slice (some ⟨bx, ox, none⟩) n0 cf
  | 9 => v = .int .i64 (k)
  | 10 => v = .pointer (some ⟨bx, ox + k * 5, none⟩)
  | 11 => v = .pointer (some ⟨bx, ox + k * 5 + 3, none⟩)
  | 12 => v = .int .i64 (z4)
  | 13 => v = .bool (true)
  | 14 => v = .bool (true)
  | 15 => v = .int .i64 (hh)
  | 16 => v = .slice (some ⟨bx, ox, none⟩) n0 cf
  | 17 => v = .int .i64 (k)
  | 18 => v = .pointer (some ⟨bx, ox + k * 5, none⟩)
  | 19 => v = .pointer (some ⟨bx, ox + k * 5 + 4, none⟩)
  | 20 => v = .int .i64 (z5)
  | 21 => v = .bool (false)
  | 22 => v = .bool (false)
  | 23 => v = .bool (false)
  | _ => True

def FS13_19_27 (hh z1 z4 z5 : Int) (bx ox k n0 cf : Nat) (H1 : Option Addr) (n1 h1 : Nat) (w W0 : World) (iq : Nat) (v : Value) (w1 : World) : Prop := match iq with
  | 0 => v = .slice H1 n1 h1
  | 1 => v = .slice (some ⟨bx, ox, none⟩) n0 cf
  | 2 => v = .int .i64 (k)
  | 3 => v = .pointer (some ⟨bx, ox + k * 5, none⟩)
  | 4 => v = .pointer (some ⟨bx, ox + k * 5, none⟩)
  | 5 => v = .int .i64 (z1)
  | 6 => v = .bool (true)
  | 7 => v = .int .i64 (hh)
  | 8 => v = .slice (some ⟨bx, ox, none⟩) n0 cf
  | 9 => v = .int .i64 (k)
  | 10 => v = .pointer (some ⟨bx, ox + k * 5, none⟩)
  | 11 => v = .pointer (some ⟨bx, ox + k * 5 + 3, none⟩)
  | 12 => v = .int .i64 (z4)
  | 13 => v = .bool (true)
  | 14 => v = .bool (true)
  | 15 => v = .int .i64 (hh)
  | 16 => v = .slice (some ⟨bx, ox, none⟩) n0 cf
  | 17 => v = .int .i64 (k)
  | 18 => v = .pointer (some ⟨bx, ox + k * 5, none⟩)
  | 19 => v = .pointer (some ⟨bx, ox + k * 5 + 4, none⟩)
  | 20 => v = .int .i64 (z5)
  | 21 => v = .bool (true)
  | 22 => v = .bool (true)
  | 23 => v = .bool (false)
  | _ => True

set_option maxRecDepth 100000 in
set_option maxHeartbeats 16000000 in
theorem c_laws_FnBerths (A : Option Addr) (cs : List Int) (cap : Nat) (w : World) (hr : Rds cB 1 w A cs) (hby : Bytes cs) (hn : cs.length ≤ 9223372036854775807) :
    Calls Try.prog 13 #[.slice A cs.length cap] w fun e w' => e = .returned (.bool true) ∧ Below w.heap.size w w' := by
  by_cases hbig : 65536 < cs.length
  · go_enter Try.func13, Try.ntmps13
    go_wp2_with (fail)
    refine (c_laws_rBig _ _ _ _ (by omega)).mono ?_
    rintro e W1 ⟨rfl, hb1⟩
    simp only [show decide (65536 < cs.length) = true by simp; omega]
    go_wp2_with (fail)
    go_ret
    exact ⟨rfl, by (repeat' (first | exact Below.refl _ _ | assumption | refine Below.setCell ?_ ?_ _ | refine Below.drew ?_ | refine Below.alloc ?_ ?_ _ | refine Below.trans ?_ (Below.mono (by assumption) ?_) | (simp; done) | (simp; omega) | omega))⟩
  go_enter Try.func13, Try.ntmps13
  go_wp2_with (fail)
  refine (c_laws_rBig _ _ _ _ (by omega)).mono ?_
  rintro e W1 ⟨rfl, hw⟩
  simp only [show decide (65536 < cs.length) = false by simp; omega]
  have hwz := hw.size
  go_wp2_with (fail)
  refine calls_named ?_
  intro V1 hV
  have hk : Below W1.heap.size W1 V1 := by rw [hV]; (repeat' (first | with_reducible exact Below.refl _ _ | with_reducible assumption | with_reducible refine Below.setCell ?_ ?_ _ | with_reducible refine Below.drew ?_ | with_reducible refine Below.alloc ?_ ?_ _ | with_reducible refine Below.trans ?_ (Below.mono (by assumption) ?_) | (dsimp only; omega) | (simp; done) | (simp; omega) | omega))
  have hkz1 := hk.size
  have hw1 : Below w.heap.size w V1 := Below.trans hw (Below.mono hk (by have := hw.size; omega))
  clear hw hk
  have hw := hw1
  clear hw1
  have hwz := hw.size
  clear hV
  refine (c_spec_DrawFreeCells A cs cap _ (Rds.below hr hw) hby (by omega)).mono ?_
  rintro e W2 ⟨q, Af, cf, xs, hh, rfl, hFf, hxl, hb⟩
  have hk : Below V1.heap.size V1 W2 := hb
  have hkz2 := hk.size
  have hw2 : Below w.heap.size w W2 := Below.trans hw (Below.mono hk (by have := hw.size; omega))
  clear hw hk
  have hw := hw2
  clear hw2
  have hwz := hw.size
  clear hb
  have S2_0 : Hid (FreshA cBer 5 48 V1.heap.size W2 Af cf xs) := hid (hFf)
  have loS2_0 := S2_0.out.lo
  have hiS2_0 := S2_0.out.hi
  clear hFf
  have hcaAf := (S2_0.out).capLe; have hmaAf := (S2_0.out).capMax; unfold maxLen at hmaAf
  obtain ⟨fr, ok, hFR⟩ : ∃ fr ok, freeV q xs hh = (fr, ok) := ⟨_, _, rfl⟩
  obtain ⟨ly, hLY, hll, hfl⟩ := bs_ok hFR
  have HFR := hid hFR; have HLY := hid hLY; clear hFR hLY
  go_wp2_with (fail)
  refine calls_named ?_
  intro V3 hV
  have hk : Below W2.heap.size W2 V3 := by rw [hV]; (repeat' (first | with_reducible exact Below.refl _ _ | with_reducible assumption | with_reducible refine Below.setCell ?_ ?_ _ | with_reducible refine Below.drew ?_ | with_reducible refine Below.alloc ?_ ?_ _ | with_reducible refine Below.trans ?_ (Below.mono (by assumption) ?_) | (dsimp only; omega) | (simp; done) | (simp; omega) | omega))
  have hkz3 := hk.size
  have R3_0 := hid (FreshA.below (cf := cBer) (sz := 5) (T := 48) (B := V1.heap.size) S2_0.out hk)
  have hw3 : Below w.heap.size w V3 := Below.trans hw (Below.mono hk (by have := hw.size; omega))
  clear hw hk
  have hw := hw3
  clear hw3
  have hwz := hw.size
  clear S2_0
  clear hV
  refine (c_impl_FreeCells q Af xs cf hh _ R3_0.out.rds (by omega) (by omega) (by omega)).mono ?_
  simp only [HFR.out]
  rintro e W4 ⟨G1, g1, rfl, hG, hb⟩
  have hk : Below V3.heap.size V3 W4 := hb
  have hkz4 := hk.size
  have R4_0 := hid (FreshA.below (cf := cBer) (sz := 5) (T := 48) (B := V1.heap.size) R3_0.out hk)
  have hw4 : Below w.heap.size w W4 := Below.trans hw (Below.mono hk (by have := hw.size; omega))
  clear hw hk
  have hw := hw4
  clear hw4
  have hwz := hw.size
  clear R3_0
  clear hb
  have S4_1 : Hid (FreshA cIn 1 3 V3.heap.size W4 G1 g1 fr) := hid (hG)
  have loS4_1 := S4_1.out.lo
  have hiS4_1 := S4_1.out.hi
  clear hG
  go_wp2_with (fail)
  refine calls_named ?_
  intro V5 hV
  have hk : Below W4.heap.size W4 V5 := by rw [hV]; (repeat' (first | with_reducible exact Below.refl _ _ | with_reducible assumption | with_reducible refine Below.setCell ?_ ?_ _ | with_reducible refine Below.drew ?_ | with_reducible refine Below.alloc ?_ ?_ _ | with_reducible refine Below.trans ?_ (Below.mono (by assumption) ?_) | (dsimp only; omega) | (simp; done) | (simp; omega) | omega))
  have hkz5 := hk.size
  have R5_0 := hid (FreshA.below (cf := cBer) (sz := 5) (T := 48) (B := V1.heap.size) R4_0.out hk)
  have R5_1 := hid (FreshA.below (cf := cIn) (sz := 1) (T := 3) (B := V3.heap.size) S4_1.out hk)
  have hw5 : Below w.heap.size w V5 := Below.trans hw (Below.mono hk (by have := hw.size; omega))
  clear hw hk
  have hw := hw5
  clear hw5
  have hwz := hw.size
  clear R4_0 S4_1
  clear hV
  refine (c_spec_FreeCells q Af xs cf hh _ R5_0.out.rds (by omega)).mono ?_
  simp only [HFR.out]
  rintro e W6 ⟨G2, g2, rfl, hG, hb⟩
  have hk : Below V5.heap.size V5 W6 := hb
  have hkz6 := hk.size
  have R6_0 := hid (FreshA.below (cf := cBer) (sz := 5) (T := 48) (B := V1.heap.size) R5_0.out hk)
  have R6_1 := hid (FreshA.below (cf := cIn) (sz := 1) (T := 3) (B := V3.heap.size) R5_1.out hk)
  have hw6 : Below w.heap.size w W6 := Below.trans hw (Below.mono hk (by have := hw.size; omega))
  clear hw hk
  have hw := hw6
  clear hw6
  have hwz := hw.size
  clear R5_0 R5_1
  clear hb
  have S6_2 : Hid (FreshA cIn 1 3 V5.heap.size W6 G2 g2 fr) := hid (hG)
  have loS6_2 := S6_2.out.lo
  have hiS6_2 := S6_2.out.hi
  clear hG
  go_wp2_with (fail)
  refine calls_named ?_
  intro V7 hV
  have hk : Below W6.heap.size W6 V7 := by rw [hV]; (repeat' (first | with_reducible exact Below.refl _ _ | with_reducible assumption | with_reducible refine Below.setCell ?_ ?_ _ | with_reducible refine Below.drew ?_ | with_reducible refine Below.alloc ?_ ?_ _ | with_reducible refine Below.trans ?_ (Below.mono (by assumption) ?_) | (dsimp only; omega) | (simp; done) | (simp; omega) | omega))
  have hkz7 := hk.size
  have R7_0 := hid (FreshA.below (cf := cBer) (sz := 5) (T := 48) (B := V1.heap.size) R6_0.out hk)
  have R7_1 := hid (FreshA.below (cf := cIn) (sz := 1) (T := 3) (B := V3.heap.size) R6_1.out hk)
  have R7_2 := hid (FreshA.below (cf := cIn) (sz := 1) (T := 3) (B := V5.heap.size) S6_2.out hk)
  have hw7 : Below w.heap.size w V7 := Below.trans hw (Below.mono hk (by have := hw.size; omega))
  clear hw hk
  have hw := hw7
  clear hw7
  have hwz := hw.size
  clear R6_0 R6_1 S6_2
  clear hV
  refine (c_laws_rInts G1 G2 fr g1 g2 _ R7_1.out.rds R7_2.out.rds (by omega)).mono ?_
  rintro e W8 ⟨rfl, hb⟩
  have hk : Below V7.heap.size V7 W8 := hb
  have hkz8 := hk.size
  have R8_0 := hid (FreshA.below (cf := cBer) (sz := 5) (T := 48) (B := V1.heap.size) R7_0.out hk)
  have R8_1 := hid (FreshA.below (cf := cIn) (sz := 1) (T := 3) (B := V3.heap.size) R7_1.out hk)
  have R8_2 := hid (FreshA.below (cf := cIn) (sz := 1) (T := 3) (B := V5.heap.size) R7_2.out hk)
  have hw8 : Below w.heap.size w W8 := Below.trans hw (Below.mono hk (by have := hw.size; omega))
  clear hw hk
  have hw := hw8
  clear hw8
  have hwz := hw.size
  clear R7_0 R7_1 R7_2
  clear hb
  clear R8_2
  go_wp2_with (fail)
  refine calls_named ?_
  intro V9 hV
  have hk : Below W8.heap.size W8 V9 := by rw [hV]; (repeat' (first | with_reducible exact Below.refl _ _ | with_reducible assumption | with_reducible refine Below.setCell ?_ ?_ _ | with_reducible refine Below.drew ?_ | with_reducible refine Below.alloc ?_ ?_ _ | with_reducible refine Below.trans ?_ (Below.mono (by assumption) ?_) | (dsimp only; omega) | (simp; done) | (simp; omega) | omega))
  have hkz9 := hk.size
  have R9_0 := hid (FreshA.below (cf := cBer) (sz := 5) (T := 48) (B := V1.heap.size) R8_0.out hk)
  have R9_1 := hid (FreshA.below (cf := cIn) (sz := 1) (T := 3) (B := V3.heap.size) R8_1.out hk)
  have hw9 : Below w.heap.size w V9 := Below.trans hw (Below.mono hk (by have := hw.size; omega))
  clear hw hk
  have hw := hw9
  clear hw9
  have hwz := hw.size
  clear R8_0 R8_1
  clear hV
  refine (c_impl_LyingAt q Af xs cf hh _ R9_0.out.rds (by omega) (by omega) (by omega)).mono ?_
  simp only [HLY.out]
  rintro e W10 ⟨H1, h1, rfl, hG, hb⟩
  have hk : Below V9.heap.size V9 W10 := hb
  have hkz10 := hk.size
  have R10_0 := hid (FreshA.below (cf := cBer) (sz := 5) (T := 48) (B := V1.heap.size) R9_0.out hk)
  have R10_1 := hid (FreshA.below (cf := cIn) (sz := 1) (T := 3) (B := V3.heap.size) R9_1.out hk)
  have hw10 : Below w.heap.size w W10 := Below.trans hw (Below.mono hk (by have := hw.size; omega))
  clear hw hk
  have hw := hw10
  clear hw10
  have hwz := hw.size
  clear R9_0 R9_1
  clear hb
  have S10_2 : Hid (FreshA cIn 1 3 V9.heap.size W10 H1 h1 ly) := hid (hG)
  have loS10_2 := S10_2.out.lo
  have hiS10_2 := S10_2.out.hi
  clear hG
  go_wp2_with (fail)
  refine calls_named ?_
  intro V11 hV
  have hk : Below W10.heap.size W10 V11 := by rw [hV]; (repeat' (first | with_reducible exact Below.refl _ _ | with_reducible assumption | with_reducible refine Below.setCell ?_ ?_ _ | with_reducible refine Below.drew ?_ | with_reducible refine Below.alloc ?_ ?_ _ | with_reducible refine Below.trans ?_ (Below.mono (by assumption) ?_) | (dsimp only; omega) | (simp; done) | (simp; omega) | omega))
  have hkz11 := hk.size
  have R11_0 := hid (FreshA.below (cf := cBer) (sz := 5) (T := 48) (B := V1.heap.size) R10_0.out hk)
  have R11_1 := hid (FreshA.below (cf := cIn) (sz := 1) (T := 3) (B := V3.heap.size) R10_1.out hk)
  have R11_2 := hid (FreshA.below (cf := cIn) (sz := 1) (T := 3) (B := V9.heap.size) S10_2.out hk)
  have hw11 : Below w.heap.size w V11 := Below.trans hw (Below.mono hk (by have := hw.size; omega))
  clear hw hk
  have hw := hw11
  clear hw11
  have hwz := hw.size
  clear R10_0 R10_1 S10_2
  clear hV
  refine (c_spec_LyingAt q Af xs cf hh _ R11_0.out.rds (by omega)).mono ?_
  simp only [HLY.out]
  rintro e W12 ⟨H2, h2, rfl, hG, hb⟩
  have hk : Below V11.heap.size V11 W12 := hb
  have hkz12 := hk.size
  have R12_0 := hid (FreshA.below (cf := cBer) (sz := 5) (T := 48) (B := V1.heap.size) R11_0.out hk)
  have R12_1 := hid (FreshA.below (cf := cIn) (sz := 1) (T := 3) (B := V3.heap.size) R11_1.out hk)
  have R12_2 := hid (FreshA.below (cf := cIn) (sz := 1) (T := 3) (B := V9.heap.size) R11_2.out hk)
  have hw12 : Below w.heap.size w W12 := Below.trans hw (Below.mono hk (by have := hw.size; omega))
  clear hw hk
  have hw := hw12
  clear hw12
  have hwz := hw.size
  clear R11_0 R11_1 R11_2
  clear hb
  have S12_3 : Hid (FreshA cIn 1 3 V11.heap.size W12 H2 h2 ly) := hid (hG)
  have loS12_3 := S12_3.out.lo
  have hiS12_3 := S12_3.out.hi
  clear hG
  go_wp2_with (fail)
  refine calls_named ?_
  intro V13 hV
  have hk : Below W12.heap.size W12 V13 := by rw [hV]; (repeat' (first | with_reducible exact Below.refl _ _ | with_reducible assumption | with_reducible refine Below.setCell ?_ ?_ _ | with_reducible refine Below.drew ?_ | with_reducible refine Below.alloc ?_ ?_ _ | with_reducible refine Below.trans ?_ (Below.mono (by assumption) ?_) | (dsimp only; omega) | (simp; done) | (simp; omega) | omega))
  have hkz13 := hk.size
  have R13_0 := hid (FreshA.below (cf := cBer) (sz := 5) (T := 48) (B := V1.heap.size) R12_0.out hk)
  have R13_1 := hid (FreshA.below (cf := cIn) (sz := 1) (T := 3) (B := V3.heap.size) R12_1.out hk)
  have R13_2 := hid (FreshA.below (cf := cIn) (sz := 1) (T := 3) (B := V9.heap.size) R12_2.out hk)
  have R13_3 := hid (FreshA.below (cf := cIn) (sz := 1) (T := 3) (B := V11.heap.size) S12_3.out hk)
  have hw13 : Below w.heap.size w V13 := Below.trans hw (Below.mono hk (by have := hw.size; omega))
  clear hw hk
  have hw := hw13
  clear hw13
  have hwz := hw.size
  clear R12_0 R12_1 R12_2 S12_3
  clear hV
  refine (c_laws_rInts H1 H2 ly h1 h2 _ R13_2.out.rds R13_3.out.rds (by omega)).mono ?_
  rintro e W14 ⟨rfl, hb⟩
  have hk : Below V13.heap.size V13 W14 := hb
  have hkz14 := hk.size
  have R14_0 := hid (FreshA.below (cf := cBer) (sz := 5) (T := 48) (B := V1.heap.size) R13_0.out hk)
  have R14_1 := hid (FreshA.below (cf := cIn) (sz := 1) (T := 3) (B := V3.heap.size) R13_1.out hk)
  have R14_2 := hid (FreshA.below (cf := cIn) (sz := 1) (T := 3) (B := V9.heap.size) R13_2.out hk)
  have R14_3 := hid (FreshA.below (cf := cIn) (sz := 1) (T := 3) (B := V11.heap.size) R13_3.out hk)
  have hw14 : Below w.heap.size w W14 := Below.trans hw (Below.mono hk (by have := hw.size; omega))
  clear hw hk
  have hw := hw14
  clear hw14
  have hwz := hw.size
  clear R13_0 R13_1 R13_2 R13_3
  clear hb
  clear R14_3
  go_upto_if 102 with (fail)
  go_cut [] (fun wx => Below w.heap.size w wx)
  case first =>
    as_aux_lemma =>
      cases ok
      · (go_wp2_with (fail); go_meet; exact hw)
      obtain ⟨hv, hhb, hsum, hmem, hub⟩ := bs_cells HFR.out HLY.out
      have HSUM := hid hsum; have HMEM := hid hmem; have HUB := hid hub; have HVV := hid hv; clear hsum hmem hub HFR HLY
      have HXR := hid (R14_0.out.rds); have HLR := hid (R14_2.out.rds)
      have HU0 := HUB.out 0 (Nat.zero_le _)
      clear R14_0 R14_1 R14_2
      go_wp2_with (fail)
      go_loopw [14, 15] (fun u i wr => ∃ (k : Nat) (cc : Int), k ≤ xs.length ∧ i = .int .i64 k ∧ u = .int .i64 cc ∧ Hid (cc = (fr.length : Int) + usedTo xs hh k) ∧ (0 ≤ cc ∧ cc ≤ 60) ∧ Below W14.heap.size W14 wr) (fun _ i _ => xs.length - (intOf i).toNat)
      case atStart => exact ⟨0, (fr.length : Int), Nat.zero_le _, rfl, rfl, hid (by simp [usedTo]), by omega, Below.refl _ _⟩
      case round =>
        obtain ⟨k, cc, hk, rfl, rfl, HC, hcb, hbr⟩ := hrel
        have hz := sizeOf hbr
        have HXW := hid (HXR.out.below hbr); have HLW := hid (HLR.out.below hbr)
        have hwr : Below w.heap.size w wr := Below.trans hw (Below.mono hbr (by omega))
        by_cases hlt : k < xs.length
        rotate_left
        · obtain rfl : k = xs.length := by omega
          obtain rfl : cc = q := HC.out.trans HSUM.out
          go_wp2_with (fail)
          refine (c_impl_IsBerthing _ Af xs cf _ HXW.out (by omega) (by omega) (by omega)).mono ?_
          simp only [HVV.out]
          rintro e W9 ⟨rfl, hb⟩
          (go_wp2_with (fail); go_meet; exact Below.trans hwr (Below.mono hb (by omega)))
        obtain ⟨bx, ox, rfl, hbx, hcx⟩ := HXW.out k xs[k] (List.getElem?_eq_getElem hlt)
        have y0 := hcx 0 _ rfl
        have y2 := hcx 2 _ rfl
        have y3 := hcx 3 _ rfl
        have y4 := hcx 4 _ rfl
        simp only [Nat.add_zero] at y0
        have hxb := berOk_bd (berV_at HVV.out k hlt)
        have HMX := hid (HMEM.out k hlt)
        have HUS := hid (used_lies (h := hh) hlt)
        have hu1 := HUB.out (k + 1) (by omega)
        clear hcx HXW HXR HMEM HUB HSUM HVV
        generalize xs[k] = x at *
        obtain ⟨z1, z2, z3, z4, z5⟩ := x
        simp only at y0 y2 y3 y4 hxb
        by_cases ha : z4 ≤ hh
        rotate_left
        · have HL9 : Hid (lies hh (z1, z2, z3, z4, z5) = false) := hid (by unfold lies; first | exact decide_eq_true ⟨ha, hd⟩ | exact decide_eq_false (fun e => absurd e.1 ha) | exact decide_eq_false (fun e => absurd e.2 hd))
          have HT := hid (HMX.out.trans HL9.out)
          have HU2 := hid (HUS.out.trans (by rw [HL9.out]; rfl : _ = usedTo xs hh k + 0))
          clear HMX HUS HL9
          go_wp2_with (fail)
          refine (c_laws_rHas H1 ly h1 z1 _ HLW.out (by omega)).mono ?_
          simp only [HT.out]
          rintro e W8 ⟨rfl, hb⟩
          have hz8 := hb.size
          have HL8 := hid (HLW.out.below hb)
          have hbx8 : bx < W8.heap.size := by omega
          have x0 := (hb.cell (p := ⟨bx, _, none⟩) hbx).trans y0
          have x2 := (hb.cell (p := ⟨bx, _, none⟩) hbx).trans y2
          have x3 := (hb.cell (p := ⟨bx, _, none⟩) hbx).trans y3
          have x4 := (hb.cell (p := ⟨bx, _, none⟩) hbx).trans y4
          have hw8 : Below W14.heap.size W14 W8 := Below.trans hbr (Below.mono hb (by omega))
          clear y0 y2 y3 y4 hb hbr hwr HLW HLR
          have hkk : (k : Int) < (xs.length : Int) := by omega
          go_wp2_with (fail)
          refine wp_region_w (n := 24) [] [] (FS13_19 hh z1 z4 z5 bx ox k xs.length cf H1 ly.length h1 w) rfl (by kernel_rfl) (fun _ _ d _ _ h => by cases d <;> exact h) ?_ ?_ ?_ ?_ ?_ ?_
          · intro iq
            match iq with
            | 0 | 1 | 2 | 3 | 4 | 5 | 6 | 7 | 8 | 9 | 10 | 11 | 12 | 13 | 14 | 15 | 16 | 17 | 18 | 19 | 20 | 21 | 22 | 23 => exact Stable.const _
            | n + 24 => exact Stable.const _
          · intro iq hi
            exact absurd hi (by simp)
          · intro iq hi
            exact absurd hi (by simp)
          · intro iq o hi hl ho vals w1 hb1 hf
            exact absurd hl (by simp)
          · intro iq o hi hl ho vals w1 hb1 hf
            match iq, hi with
            | 0, _ =>
              injection ho with ho
              subst ho
              clear hl
              simp only [fillA, List.take, List.drop, put_none, Act.put, List.setIfInBounds_toArray, List.set_cons_zero, List.set_cons_succ, Nat.reduceAdd]
              clear hf
              go_wp2_with (fail)
              exact RQ.mk rfl ⟨(by first | rfl | (simp [FS13_19]; done) | (simp [FS13_19, *]; done) | (simp [FS13_19, gotV]; done) | (simp [FS13_19, gotV]; omega)), fun h => absurd h (by decide)⟩ (Below.refl _ _)
            | 1, _ =>
              injection ho with ho
              subst ho
              clear hl
              simp only [fillA, List.take, List.drop, put_none, Act.put, List.setIfInBounds_toArray, List.set_cons_zero, List.set_cons_succ, Nat.reduceAdd]
              clear hf
              go_wp2_with (fail)
              exact RQ.mk rfl ⟨(by first | rfl | (simp [FS13_19]; done) | (simp [FS13_19, *]; done) | (simp [FS13_19, gotV]; done) | (simp [FS13_19, gotV]; omega)), fun h => absurd h (by decide)⟩ (Below.refl _ _)
            | 2, _ =>
              injection ho with ho
              subst ho
              clear hl
              simp only [fillA, List.take, List.drop, put_none, Act.put, List.setIfInBounds_toArray, List.set_cons_zero, List.set_cons_succ, Nat.reduceAdd]
              clear hf
              go_wp2_with (fail)
              exact RQ.mk rfl ⟨(by first | rfl | (simp [FS13_19]; done) | (simp [FS13_19, *]; done) | (simp [FS13_19, gotV]; done) | (simp [FS13_19, gotV]; omega)), fun h => absurd h (by decide)⟩ (Below.refl _ _)
            | 3, _ =>
              injection ho with ho
              subst ho
              clear hl
              simp only [fillA, List.take, List.drop, put_none, Act.put, List.setIfInBounds_toArray, List.set_cons_zero, List.set_cons_succ, Nat.reduceAdd]
              have f1 := hf 1 (by decide) (by kernel_rfl)
              generalize vals 1 = v1 at *
              subst f1
              have f2 := hf 2 (by decide) (by kernel_rfl)
              generalize vals 2 = v2 at *
              subst f2
              clear hf
              go_wp2_with (fail)
              exact RQ.mk rfl ⟨(by first | rfl | (simp [FS13_19]; done) | (simp [FS13_19, *]; done) | (simp [FS13_19, gotV]; done) | (simp [FS13_19, gotV]; omega)), fun h => absurd h (by decide)⟩ (Below.refl _ _)
            | 4, _ =>
              injection ho with ho
              subst ho
              clear hl
              simp only [fillA, List.take, List.drop, put_none, Act.put, List.setIfInBounds_toArray, List.set_cons_zero, List.set_cons_succ, Nat.reduceAdd]
              have f3 := hf 3 (by decide) (by kernel_rfl)
              generalize vals 3 = v3 at *
              subst f3
              clear hf
              go_wp2_with (fail)
              exact RQ.mk rfl ⟨(by first | rfl | (simp [FS13_19]; done) | (simp [FS13_19, *]; done) | (simp [FS13_19, gotV]; done) | (simp [FS13_19, gotV]; omega)), fun h => absurd h (by decide)⟩ (Below.refl _ _)
            | 5, _ =>
              injection ho with ho
              subst ho
              clear hl
              simp only [fillA, List.take, List.drop, put_none, Act.put, List.setIfInBounds_toArray, List.set_cons_zero, List.set_cons_succ, Nat.reduceAdd]
              have f4 := hf 4 (by decide) (by kernel_rfl)
              generalize vals 4 = v4 at *
              subst f4
              clear hf
              have hc1 := cellOf hb1
              have hf1 := frozOf hb1
              have hz1 := sizeOf hb1
              try simp at hz1
              go_wp2_with (fail)
              exact RQ.mk rfl ⟨(by first | rfl | (simp [FS13_19]; done) | (simp [FS13_19, *]; done) | (simp [FS13_19, gotV]; done) | (simp [FS13_19, gotV]; omega)), fun h => absurd h (by decide)⟩ (Below.refl _ _)
            | 6, _ =>
              injection ho with ho
              subst ho
              clear hl
              simp only [fillA, List.take, List.drop, put_none, Act.put, List.setIfInBounds_toArray, List.set_cons_zero, List.set_cons_succ, Nat.reduceAdd]
              have f0 := hf 0 (by decide) (by kernel_rfl)
              generalize vals 0 = v0 at *
              subst f0
              have f5 := hf 5 (by decide) (by kernel_rfl)
              generalize vals 5 = v5 at *
              subst f5
              clear hf
              have hc1 := cellOf hb1
              have hf1 := frozOf hb1
              have hz1 := sizeOf hb1
              try simp at hz1
              go_wp2_with (first | (go_at_call 45; refine (c_laws_rHas _ ly _ z1 _ (HL8.out.below (by (repeat' (first | exact Below.refl _ _ | assumption | refine Below.setCell ?_ ?_ _ | refine Below.drew ?_ | refine Below.alloc ?_ ?_ _ | refine Below.trans ?_ (Below.mono (by assumption) ?_) | (simp; done) | (simp; omega) | omega)))) (by omega)).mono ?_; simp only [HT.out]; rintro e w' ⟨rfl, hb⟩; have hc := cellOf hb; have hf := frozOf hb; have hz := sizeOf hb; try simp at hz))
              exact RQ.mk rfl ⟨(by first | rfl | (simp [FS13_19]; done) | (simp [FS13_19, *]; done) | (simp [FS13_19, gotV]; done) | (simp [FS13_19, gotV]; omega)), fun h => absurd h (by decide)⟩ (by (repeat' (first | exact Below.refl _ _ | assumption | refine Below.setCell ?_ ?_ _ | refine Below.drew ?_ | refine Below.alloc ?_ ?_ _ | refine Below.trans ?_ (Below.mono (by assumption) ?_) | (simp; done) | (simp; omega) | omega)))
            | 7, _ =>
              injection ho with ho
              subst ho
              clear hl
              simp only [fillA, List.take, List.drop, put_none, Act.put, List.setIfInBounds_toArray, List.set_cons_zero, List.set_cons_succ, Nat.reduceAdd]
              clear hf
              go_wp2_with (fail)
              exact RQ.mk rfl ⟨(by first | rfl | (simp [FS13_19]; done) | (simp [FS13_19, *]; done) | (simp [FS13_19, gotV]; done) | (simp [FS13_19, gotV]; omega)), fun h => absurd h (by decide)⟩ (Below.refl _ _)
            | 8, _ =>
              injection ho with ho
              subst ho
              clear hl
              simp only [fillA, List.take, List.drop, put_none, Act.put, List.setIfInBounds_toArray, List.set_cons_zero, List.set_cons_succ, Nat.reduceAdd]
              clear hf
              go_wp2_with (fail)
              exact RQ.mk rfl ⟨(by first | rfl | (simp [FS13_19]; done) | (simp [FS13_19, *]; done) | (simp [FS13_19, gotV]; done) | (simp [FS13_19, gotV]; omega)), fun h => absurd h (by decide)⟩ (Below.refl _ _)
            | 9, _ =>
              injection ho with ho
              subst ho
              clear hl
              simp only [fillA, List.take, List.drop, put_none, Act.put, List.setIfInBounds_toArray, List.set_cons_zero, List.set_cons_succ, Nat.reduceAdd]
              clear hf
              go_wp2_with (fail)
              exact RQ.mk rfl ⟨(by first | rfl | (simp [FS13_19]; done) | (simp [FS13_19, *]; done) | (simp [FS13_19, gotV]; done) | (simp [FS13_19, gotV]; omega)), fun h => absurd h (by decide)⟩ (Below.refl _ _)
            | 10, _ =>
              injection ho with ho
              subst ho
              clear hl
              simp only [fillA, List.take, List.drop, put_none, Act.put, List.setIfInBounds_toArray, List.set_cons_zero, List.set_cons_succ, Nat.reduceAdd]
              have f8 := hf 8 (by decide) (by kernel_rfl)
              generalize vals 8 = v8 at *
              subst f8
              have f9 := hf 9 (by decide) (by kernel_rfl)
              generalize vals 9 = v9 at *
              subst f9
              clear hf
              go_wp2_with (fail)
              exact RQ.mk rfl ⟨(by first | rfl | (simp [FS13_19]; done) | (simp [FS13_19, *]; done) | (simp [FS13_19, gotV]; done) | (simp [FS13_19, gotV]; omega)), fun h => absurd h (by decide)⟩ (Below.refl _ _)
            | 11, _ =>
              injection ho with ho
              subst ho
              clear hl
              simp only [fillA, List.take, List.drop, put_none, Act.put, List.setIfInBounds_toArray, List.set_cons_zero, List.set_cons_succ, Nat.reduceAdd]
              have f10 := hf 10 (by decide) (by kernel_rfl)
              generalize vals 10 = v10 at *
              subst f10
              clear hf
              go_wp2_with (fail)
              exact RQ.mk rfl ⟨(by first | rfl | (simp [FS13_19]; done) | (simp [FS13_19, *]; done) | (simp [FS13_19, gotV]; done) | (simp [FS13_19, gotV]; omega)), fun h => absurd h (by decide)⟩ (Below.refl _ _)
            | 12, _ =>
              injection ho with ho
              subst ho
              clear hl
              simp only [fillA, List.take, List.drop, put_none, Act.put, List.setIfInBounds_toArray, List.set_cons_zero, List.set_cons_succ, Nat.reduceAdd]
              have f11 := hf 11 (by decide) (by kernel_rfl)
              generalize vals 11 = v11 at *
              subst f11
              clear hf
              have hc1 := cellOf hb1
              have hf1 := frozOf hb1
              have hz1 := sizeOf hb1
              try simp at hz1
              go_wp2_with (fail)
              exact RQ.mk rfl ⟨(by first | rfl | (simp [FS13_19]; done) | (simp [FS13_19, *]; done) | (simp [FS13_19, gotV]; done) | (simp [FS13_19, gotV]; omega)), fun h => absurd h (by decide)⟩ (Below.refl _ _)
            | 13, _ =>
              injection ho with ho
              subst ho
              clear hl
              simp only [fillA, List.take, List.drop, put_none, Act.put, List.setIfInBounds_toArray, List.set_cons_zero, List.set_cons_succ, Nat.reduceAdd]
              have f7 := hf 7 (by decide) (by kernel_rfl)
              generalize vals 7 = v7 at *
              subst f7
              have f12 := hf 12 (by decide) (by kernel_rfl)
              generalize vals 12 = v12 at *
              subst f12
              clear hf
              go_wp2_with (fail)
              exact RQ.mk rfl ⟨(by first | rfl | (simp [FS13_19]; done) | (simp [FS13_19, *]; done) | (simp [FS13_19, gotV]; done) | (simp [FS13_19, gotV]; omega)), fun h => absurd h (by decide)⟩ (Below.refl _ _)
            | 14, _ =>
              injection ho with ho
              subst ho
              clear hl
              simp only [fillA, List.take, List.drop, put_none, Act.put, List.setIfInBounds_toArray, List.set_cons_zero, List.set_cons_succ, Nat.reduceAdd]
              have f13 := hf 13 (by decide) (by kernel_rfl)
              generalize vals 13 = v13 at *
              subst f13
              have f6 := hf 6 (by decide) (by kernel_rfl)
              generalize vals 6 = v6 at *
              subst f6
              clear hf
              go_wp2_with (fail)
              exact RQ.mk rfl ⟨(by first | rfl | (simp [FS13_19]; done) | (simp [FS13_19, *]; done) | (simp [FS13_19, gotV]; done) | (simp [FS13_19, gotV]; omega)), fun h => absurd h (by decide)⟩ (Below.refl _ _)
            | 15, _ =>
              injection ho with ho
              subst ho
              clear hl
              simp only [fillA, List.take, List.drop, put_none, Act.put, List.setIfInBounds_toArray, List.set_cons_zero, List.set_cons_succ, Nat.reduceAdd]
              have f14 := hf 14 (by decide) (by kernel_rfl)
              generalize vals 14 = v14 at *
              subst f14
              clear hf
              go_wp2_with (fail)
              exact RQ.mk rfl ⟨(by first | rfl | (simp [FS13_19]; done) | (simp [FS13_19, *]; done) | (simp [FS13_19, gotV]; done) | (simp [FS13_19, gotV]; omega)), fun h => absurd h (by decide)⟩ (Below.refl _ _)
            | 16, _ =>
              injection ho with ho
              subst ho
              clear hl
              simp only [fillA, List.take, List.drop, put_none, Act.put, List.setIfInBounds_toArray, List.set_cons_zero, List.set_cons_succ, Nat.reduceAdd]
              have f14 := hf 14 (by decide) (by kernel_rfl)
              generalize vals 14 = v14 at *
              subst f14
              clear hf
              go_wp2_with (fail)
              exact RQ.mk rfl ⟨(by first | rfl | (simp [FS13_19]; done) | (simp [FS13_19, *]; done) | (simp [FS13_19, gotV]; done) | (simp [FS13_19, gotV]; omega)), fun h => absurd h (by decide)⟩ (Below.refl _ _)
            | 17, _ =>
              injection ho with ho
              subst ho
              clear hl
              simp only [fillA, List.take, List.drop, put_none, Act.put, List.setIfInBounds_toArray, List.set_cons_zero, List.set_cons_succ, Nat.reduceAdd]
              have f14 := hf 14 (by decide) (by kernel_rfl)
              generalize vals 14 = v14 at *
              subst f14
              clear hf
              go_wp2_with (fail)
              exact RQ.mk rfl ⟨(by first | rfl | (simp [FS13_19]; done) | (simp [FS13_19, *]; done) | (simp [FS13_19, gotV]; done) | (simp [FS13_19, gotV]; omega)), fun h => absurd h (by decide)⟩ (Below.refl _ _)
            | 18, _ =>
              injection ho with ho
              subst ho
              clear hl
              simp only [fillA, List.take, List.drop, put_none, Act.put, List.setIfInBounds_toArray, List.set_cons_zero, List.set_cons_succ, Nat.reduceAdd]
              have f16 := hf 16 (by decide) (by kernel_rfl)
              generalize vals 16 = v16 at *
              subst f16
              have f17 := hf 17 (by decide) (by kernel_rfl)
              generalize vals 17 = v17 at *
              subst f17
              have f14 := hf 14 (by decide) (by kernel_rfl)
              generalize vals 14 = v14 at *
              subst f14
              clear hf
              go_wp2_with (fail)
              exact RQ.mk rfl ⟨(by first | rfl | (simp [FS13_19]; done) | (simp [FS13_19, *]; done) | (simp [FS13_19, gotV]; done) | (simp [FS13_19, gotV]; omega)), fun h => absurd h (by decide)⟩ (Below.refl _ _)
            | 19, _ =>
              injection ho with ho
              subst ho
              clear hl
              simp only [fillA, List.take, List.drop, put_none, Act.put, List.setIfInBounds_toArray, List.set_cons_zero, List.set_cons_succ, Nat.reduceAdd]
              have f18 := hf 18 (by decide) (by kernel_rfl)
              generalize vals 18 = v18 at *
              subst f18
              have f14 := hf 14 (by decide) (by kernel_rfl)
              generalize vals 14 = v14 at *
              subst f14
              clear hf
              go_wp2_with (fail)
              exact RQ.mk rfl ⟨(by first | rfl | (simp [FS13_19]; done) | (simp [FS13_19, *]; done) | (simp [FS13_19, gotV]; done) | (simp [FS13_19, gotV]; omega)), fun h => absurd h (by decide)⟩ (Below.refl _ _)
            | 20, _ =>
              injection ho with ho
              subst ho
              clear hl
              simp only [fillA, List.take, List.drop, put_none, Act.put, List.setIfInBounds_toArray, List.set_cons_zero, List.set_cons_succ, Nat.reduceAdd]
              have f19 := hf 19 (by decide) (by kernel_rfl)
              generalize vals 19 = v19 at *
              subst f19
              have f14 := hf 14 (by decide) (by kernel_rfl)
              generalize vals 14 = v14 at *
              subst f14
              clear hf
              go_wp2_with (fail)
              exact RQ.mk rfl ⟨(by first | rfl | (simp [FS13_19]; done) | (simp [FS13_19, *]; done) | (simp [FS13_19, gotV]; done) | (simp [FS13_19, gotV]; omega)), fun h => absurd h (by decide)⟩ (Below.refl _ _)
            | 21, _ =>
              injection ho with ho
              subst ho
              clear hl
              simp only [fillA, List.take, List.drop, put_none, Act.put, List.setIfInBounds_toArray, List.set_cons_zero, List.set_cons_succ, Nat.reduceAdd]
              have f15 := hf 15 (by decide) (by kernel_rfl)
              generalize vals 15 = v15 at *
              subst f15
              have f20 := hf 20 (by decide) (by kernel_rfl)
              generalize vals 20 = v20 at *
              subst f20
              have f14 := hf 14 (by decide) (by kernel_rfl)
              generalize vals 14 = v14 at *
              subst f14
              clear hf
              go_wp2_with (fail)
              exact RQ.mk rfl ⟨(by first | rfl | (simp [FS13_19]; done) | (simp [FS13_19, *]; done) | (simp [FS13_19, gotV]; done) | (simp [FS13_19, gotV]; omega)), fun h => absurd h (by decide)⟩ (Below.refl _ _)
            | 22, _ =>
              injection ho with ho
              subst ho
              clear hl
              simp only [fillA, List.take, List.drop, put_none, Act.put, List.setIfInBounds_toArray, List.set_cons_zero, List.set_cons_succ, Nat.reduceAdd]
              have f14 := hf 14 (by decide) (by kernel_rfl)
              generalize vals 14 = v14 at *
              subst f14
              have f21 := hf 21 (by decide) (by kernel_rfl)
              generalize vals 21 = v21 at *
              subst f21
              clear hf
              go_wp2_with (fail)
              exact RQ.mk rfl ⟨(by first | rfl | (simp [FS13_19]; done) | (simp [FS13_19, *]; done) | (simp [FS13_19, gotV]; done) | (simp [FS13_19, gotV]; omega)), fun h => absurd h (by decide)⟩ (Below.refl _ _)
            | 23, _ =>
              injection ho with ho
              subst ho
              clear hl
              simp only [fillA, List.take, List.drop, put_none, Act.put, List.setIfInBounds_toArray, List.set_cons_zero, List.set_cons_succ, Nat.reduceAdd]
              have f6 := hf 6 (by decide) (by kernel_rfl)
              generalize vals 6 = v6 at *
              subst f6
              have f22 := hf 22 (by decide) (by kernel_rfl)
              generalize vals 22 = v22 at *
              subst f22
              clear hf
              go_wp2_with (fail)
              exact RQ.mk rfl ⟨(by first | rfl | (simp [FS13_19]; done) | (simp [FS13_19, *]; done) | (simp [FS13_19, gotV]; done) | (simp [FS13_19, gotV]; omega)), fun h => absurd h (by decide)⟩ (Below.refl _ _)
            | m + 24, h => exact absurd h (by omega)
          · intro vals w7 hb1 hf hd
            simp only [fillA, List.take, List.drop, put_none, Act.put, List.setIfInBounds_toArray, List.set_cons_zero, List.set_cons_succ, Nat.reduceAdd]
            clear hd
            have f0 := hf 0 (by decide)
            generalize vals 0 = v0 at *
            subst f0
            have f1 := hf 1 (by decide)
            generalize vals 1 = v1 at *
            subst f1
            have f2 := hf 2 (by decide)
            generalize vals 2 = v2 at *
            subst f2
            have f3 := hf 3 (by decide)
            generalize vals 3 = v3 at *
            subst f3
            have f4 := hf 4 (by decide)
            generalize vals 4 = v4 at *
            subst f4
            have f5 := hf 5 (by decide)
            generalize vals 5 = v5 at *
            subst f5
            have f6 := hf 6 (by decide)
            generalize vals 6 = v6 at *
            subst f6
            have f7 := hf 7 (by decide)
            generalize vals 7 = v7 at *
            subst f7
            have f8 := hf 8 (by decide)
            generalize vals 8 = v8 at *
            subst f8
            have f9 := hf 9 (by decide)
            generalize vals 9 = v9 at *
            subst f9
            have f10 := hf 10 (by decide)
            generalize vals 10 = v10 at *
            subst f10
            have f11 := hf 11 (by decide)
            generalize vals 11 = v11 at *
            subst f11
            have f12 := hf 12 (by decide)
            generalize vals 12 = v12 at *
            subst f12
            have f13 := hf 13 (by decide)
            generalize vals 13 = v13 at *
            subst f13
            have f14 := hf 14 (by decide)
            generalize vals 14 = v14 at *
            subst f14
            have f15 := hf 15 (by decide)
            generalize vals 15 = v15 at *
            subst f15
            have f16 := hf 16 (by decide)
            generalize vals 16 = v16 at *
            subst f16
            have f17 := hf 17 (by decide)
            generalize vals 17 = v17 at *
            subst f17
            have f18 := hf 18 (by decide)
            generalize vals 18 = v18 at *
            subst f18
            have f19 := hf 19 (by decide)
            generalize vals 19 = v19 at *
            subst f19
            have f20 := hf 20 (by decide)
            generalize vals 20 = v20 at *
            subst f20
            have f21 := hf 21 (by decide)
            generalize vals 21 = v21 at *
            subst f21
            have f22 := hf 22 (by decide)
            generalize vals 22 = v22 at *
            subst f22
            have f23 := hf 23 (by decide)
            generalize vals 23 = v23 at *
            subst f23
            clear hf
            have hc1 := cellOf hb1
            have hf1 := frozOf hb1
            have hz1 := sizeOf hb1
            try simp at hz1
            have hz7 := hb1.size
            have hw7 : Below W14.heap.size W14 w7 := Below.trans hw8 (Below.mono hb1 (by omega))
            clear hc1 hf1
            go_wp2_with (fail)
            go_roundw
            case rel => exact ⟨k + 1, cc, by omega, by go_num, rfl, hid (by have h1 := HU2.out; have h2 := HC.out; omega), by have h1 := HU2.out; have h2 := HC.out; omega, by first | exact hw7 | (repeat' (first | exact Below.refl _ _ | assumption | refine Below.setCell ?_ ?_ _ | refine Below.drew ?_ | refine Below.alloc ?_ ?_ _ | refine Below.trans ?_ (Below.mono (by assumption) ?_) | (simp; done) | (simp; omega) | omega))⟩
            case measure => simp [intOf]; omega
        by_cases hd : hh < z5
        rotate_left
        · have HL9 : Hid (lies hh (z1, z2, z3, z4, z5) = false) := hid (by unfold lies; first | exact decide_eq_true ⟨ha, hd⟩ | exact decide_eq_false (fun e => absurd e.1 ha) | exact decide_eq_false (fun e => absurd e.2 hd))
          have HT := hid (HMX.out.trans HL9.out)
          have HU2 := hid (HUS.out.trans (by rw [HL9.out]; rfl : _ = usedTo xs hh k + 0))
          clear HMX HUS HL9
          go_wp2_with (fail)
          refine (c_laws_rHas H1 ly h1 z1 _ HLW.out (by omega)).mono ?_
          simp only [HT.out]
          rintro e W8 ⟨rfl, hb⟩
          have hz8 := hb.size
          have HL8 := hid (HLW.out.below hb)
          have hbx8 : bx < W8.heap.size := by omega
          have x0 := (hb.cell (p := ⟨bx, _, none⟩) hbx).trans y0
          have x2 := (hb.cell (p := ⟨bx, _, none⟩) hbx).trans y2
          have x3 := (hb.cell (p := ⟨bx, _, none⟩) hbx).trans y3
          have x4 := (hb.cell (p := ⟨bx, _, none⟩) hbx).trans y4
          have hw8 : Below W14.heap.size W14 W8 := Below.trans hbr (Below.mono hb (by omega))
          clear y0 y2 y3 y4 hb hbr hwr HLW HLR
          have hkk : (k : Int) < (xs.length : Int) := by omega
          go_wp2_with (fail)
          refine wp_region_w (n := 24) [] [] (FS13_19_26 hh z1 z4 z5 bx ox k xs.length cf H1 ly.length h1 w) rfl (by kernel_rfl) (fun _ _ d _ _ h => by cases d <;> exact h) ?_ ?_ ?_ ?_ ?_ ?_
          · intro iq
            match iq with
            | 0 | 1 | 2 | 3 | 4 | 5 | 6 | 7 | 8 | 9 | 10 | 11 | 12 | 13 | 14 | 15 | 16 | 17 | 18 | 19 | 20 | 21 | 22 | 23 => exact Stable.const _
            | n + 24 => exact Stable.const _
          · intro iq hi
            exact absurd hi (by simp)
          · intro iq hi
            exact absurd hi (by simp)
          · intro iq o hi hl ho vals w1 hb1 hf
            exact absurd hl (by simp)
          · intro iq o hi hl ho vals w1 hb1 hf
            match iq, hi with
            | 0, _ =>
              injection ho with ho
              subst ho
              clear hl
              simp only [fillA, List.take, List.drop, put_none, Act.put, List.setIfInBounds_toArray, List.set_cons_zero, List.set_cons_succ, Nat.reduceAdd]
              clear hf
              go_wp2_with (fail)
              exact RQ.mk rfl ⟨(by first | rfl | (simp [FS13_19_26]; done) | (simp [FS13_19_26, *]; done) | (simp [FS13_19_26, gotV]; done) | (simp [FS13_19_26, gotV]; omega)), fun h => absurd h (by decide)⟩ (Below.refl _ _)
            | 1, _ =>
              injection ho with ho
              subst ho
              clear hl
              simp only [fillA, List.take, List.drop, put_none, Act.put, List.setIfInBounds_toArray, List.set_cons_zero, List.set_cons_succ, Nat.reduceAdd]
              clear hf
              go_wp2_with (fail)
              exact RQ.mk rfl ⟨(by first | rfl | (simp [FS13_19_26]; done) | (simp [FS13_19_26, *]; done) | (simp [FS13_19_26, gotV]; done) | (simp [FS13_19_26, gotV]; omega)), fun h => absurd h (by decide)⟩ (Below.refl _ _)
            | 2, _ =>
              injection ho with ho
              subst ho
              clear hl
              simp only [fillA, List.take, List.drop, put_none, Act.put, List.setIfInBounds_toArray, List.set_cons_zero, List.set_cons_succ, Nat.reduceAdd]
              clear hf
              go_wp2_with (fail)
              exact RQ.mk rfl ⟨(by first | rfl | (simp [FS13_19_26]; done) | (simp [FS13_19_26, *]; done) | (simp [FS13_19_26, gotV]; done) | (simp [FS13_19_26, gotV]; omega)), fun h => absurd h (by decide)⟩ (Below.refl _ _)
            | 3, _ =>
              injection ho with ho
              subst ho
              clear hl
              simp only [fillA, List.take, List.drop, put_none, Act.put, List.setIfInBounds_toArray, List.set_cons_zero, List.set_cons_succ, Nat.reduceAdd]
              have f1 := hf 1 (by decide) (by kernel_rfl)
              generalize vals 1 = v1 at *
              subst f1
              have f2 := hf 2 (by decide) (by kernel_rfl)
              generalize vals 2 = v2 at *
              subst f2
              clear hf
              go_wp2_with (fail)
              exact RQ.mk rfl ⟨(by first | rfl | (simp [FS13_19_26]; done) | (simp [FS13_19_26, *]; done) | (simp [FS13_19_26, gotV]; done) | (simp [FS13_19_26, gotV]; omega)), fun h => absurd h (by decide)⟩ (Below.refl _ _)
            | 4, _ =>
              injection ho with ho
              subst ho
              clear hl
              simp only [fillA, List.take, List.drop, put_none, Act.put, List.setIfInBounds_toArray, List.set_cons_zero, List.set_cons_succ, Nat.reduceAdd]
              have f3 := hf 3 (by decide) (by kernel_rfl)
              generalize vals 3 = v3 at *
              subst f3
              clear hf
              go_wp2_with (fail)
              exact RQ.mk rfl ⟨(by first | rfl | (simp [FS13_19_26]; done) | (simp [FS13_19_26, *]; done) | (simp [FS13_19_26, gotV]; done) | (simp [FS13_19_26, gotV]; omega)), fun h => absurd h (by decide)⟩ (Below.refl _ _)
            | 5, _ =>
              injection ho with ho
              subst ho
              clear hl
              simp only [fillA, List.take, List.drop, put_none, Act.put, List.setIfInBounds_toArray, List.set_cons_zero, List.set_cons_succ, Nat.reduceAdd]
              have f4 := hf 4 (by decide) (by kernel_rfl)
              generalize vals 4 = v4 at *
              subst f4
              clear hf
              have hc1 := cellOf hb1
              have hf1 := frozOf hb1
              have hz1 := sizeOf hb1
              try simp at hz1
              go_wp2_with (fail)
              exact RQ.mk rfl ⟨(by first | rfl | (simp [FS13_19_26]; done) | (simp [FS13_19_26, *]; done) | (simp [FS13_19_26, gotV]; done) | (simp [FS13_19_26, gotV]; omega)), fun h => absurd h (by decide)⟩ (Below.refl _ _)
            | 6, _ =>
              injection ho with ho
              subst ho
              clear hl
              simp only [fillA, List.take, List.drop, put_none, Act.put, List.setIfInBounds_toArray, List.set_cons_zero, List.set_cons_succ, Nat.reduceAdd]
              have f0 := hf 0 (by decide) (by kernel_rfl)
              generalize vals 0 = v0 at *
              subst f0
              have f5 := hf 5 (by decide) (by kernel_rfl)
              generalize vals 5 = v5 at *
              subst f5
              clear hf
              have hc1 := cellOf hb1
              have hf1 := frozOf hb1
              have hz1 := sizeOf hb1
              try simp at hz1
              go_wp2_with (first | (go_at_call 45; refine (c_laws_rHas _ ly _ z1 _ (HL8.out.below (by (repeat' (first | exact Below.refl _ _ | assumption | refine Below.setCell ?_ ?_ _ | refine Below.drew ?_ | refine Below.alloc ?_ ?_ _ | refine Below.trans ?_ (Below.mono (by assumption) ?_) | (simp; done) | (simp; omega) | omega)))) (by omega)).mono ?_; simp only [HT.out]; rintro e w' ⟨rfl, hb⟩; have hc := cellOf hb; have hf := frozOf hb; have hz := sizeOf hb; try simp at hz))
              exact RQ.mk rfl ⟨(by first | rfl | (simp [FS13_19_26]; done) | (simp [FS13_19_26, *]; done) | (simp [FS13_19_26, gotV]; done) | (simp [FS13_19_26, gotV]; omega)), fun h => absurd h (by decide)⟩ (by (repeat' (first | exact Below.refl _ _ | assumption | refine Below.setCell ?_ ?_ _ | refine Below.drew ?_ | refine Below.alloc ?_ ?_ _ | refine Below.trans ?_ (Below.mono (by assumption) ?_) | (simp; done) | (simp; omega) | omega)))
            | 7, _ =>
              injection ho with ho
              subst ho
              clear hl
              simp only [fillA, List.take, List.drop, put_none, Act.put, List.setIfInBounds_toArray, List.set_cons_zero, List.set_cons_succ, Nat.reduceAdd]
              clear hf
              go_wp2_with (fail)
              exact RQ.mk rfl ⟨(by first | rfl | (simp [FS13_19_26]; done) | (simp [FS13_19_26, *]; done) | (simp [FS13_19_26, gotV]; done) | (simp [FS13_19_26, gotV]; omega)), fun h => absurd h (by decide)⟩ (Below.refl _ _)
            | 8, _ =>
              injection ho with ho
              subst ho
              clear hl
              simp only [fillA, List.take, List.drop, put_none, Act.put, List.setIfInBounds_toArray, List.set_cons_zero, List.set_cons_succ, Nat.reduceAdd]
              clear hf
              go_wp2_with (fail)
              exact RQ.mk rfl ⟨(by first | rfl | (simp [FS13_19_26]; done) | (simp [FS13_19_26, *]; done) | (simp [FS13_19_26, gotV]; done) | (simp [FS13_19_26, gotV]; omega)), fun h => absurd h (by decide)⟩ (Below.refl _ _)
            | 9, _ =>
              injection ho with ho
              subst ho
              clear hl
              simp only [fillA, List.take, List.drop, put_none, Act.put, List.setIfInBounds_toArray, List.set_cons_zero, List.set_cons_succ, Nat.reduceAdd]
              clear hf
              go_wp2_with (fail)
              exact RQ.mk rfl ⟨(by first | rfl | (simp [FS13_19_26]; done) | (simp [FS13_19_26, *]; done) | (simp [FS13_19_26, gotV]; done) | (simp [FS13_19_26, gotV]; omega)), fun h => absurd h (by decide)⟩ (Below.refl _ _)
            | 10, _ =>
              injection ho with ho
              subst ho
              clear hl
              simp only [fillA, List.take, List.drop, put_none, Act.put, List.setIfInBounds_toArray, List.set_cons_zero, List.set_cons_succ, Nat.reduceAdd]
              have f8 := hf 8 (by decide) (by kernel_rfl)
              generalize vals 8 = v8 at *
              subst f8
              have f9 := hf 9 (by decide) (by kernel_rfl)
              generalize vals 9 = v9 at *
              subst f9
              clear hf
              go_wp2_with (fail)
              exact RQ.mk rfl ⟨(by first | rfl | (simp [FS13_19_26]; done) | (simp [FS13_19_26, *]; done) | (simp [FS13_19_26, gotV]; done) | (simp [FS13_19_26, gotV]; omega)), fun h => absurd h (by decide)⟩ (Below.refl _ _)
            | 11, _ =>
              injection ho with ho
              subst ho
              clear hl
              simp only [fillA, List.take, List.drop, put_none, Act.put, List.setIfInBounds_toArray, List.set_cons_zero, List.set_cons_succ, Nat.reduceAdd]
              have f10 := hf 10 (by decide) (by kernel_rfl)
              generalize vals 10 = v10 at *
              subst f10
              clear hf
              go_wp2_with (fail)
              exact RQ.mk rfl ⟨(by first | rfl | (simp [FS13_19_26]; done) | (simp [FS13_19_26, *]; done) | (simp [FS13_19_26, gotV]; done) | (simp [FS13_19_26, gotV]; omega)), fun h => absurd h (by decide)⟩ (Below.refl _ _)
            | 12, _ =>
              injection ho with ho
              subst ho
              clear hl
              simp only [fillA, List.take, List.drop, put_none, Act.put, List.setIfInBounds_toArray, List.set_cons_zero, List.set_cons_succ, Nat.reduceAdd]
              have f11 := hf 11 (by decide) (by kernel_rfl)
              generalize vals 11 = v11 at *
              subst f11
              clear hf
              have hc1 := cellOf hb1
              have hf1 := frozOf hb1
              have hz1 := sizeOf hb1
              try simp at hz1
              go_wp2_with (fail)
              exact RQ.mk rfl ⟨(by first | rfl | (simp [FS13_19_26]; done) | (simp [FS13_19_26, *]; done) | (simp [FS13_19_26, gotV]; done) | (simp [FS13_19_26, gotV]; omega)), fun h => absurd h (by decide)⟩ (Below.refl _ _)
            | 13, _ =>
              injection ho with ho
              subst ho
              clear hl
              simp only [fillA, List.take, List.drop, put_none, Act.put, List.setIfInBounds_toArray, List.set_cons_zero, List.set_cons_succ, Nat.reduceAdd]
              have f7 := hf 7 (by decide) (by kernel_rfl)
              generalize vals 7 = v7 at *
              subst f7
              have f12 := hf 12 (by decide) (by kernel_rfl)
              generalize vals 12 = v12 at *
              subst f12
              clear hf
              go_wp2_with (fail)
              exact RQ.mk rfl ⟨(by first | rfl | (simp [FS13_19_26]; done) | (simp [FS13_19_26, *]; done) | (simp [FS13_19_26, gotV]; done) | (simp [FS13_19_26, gotV]; omega)), fun h => absurd h (by decide)⟩ (Below.refl _ _)
            | 14, _ =>
              injection ho with ho
              subst ho
              clear hl
              simp only [fillA, List.take, List.drop, put_none, Act.put, List.setIfInBounds_toArray, List.set_cons_zero, List.set_cons_succ, Nat.reduceAdd]
              have f13 := hf 13 (by decide) (by kernel_rfl)
              generalize vals 13 = v13 at *
              subst f13
              have f6 := hf 6 (by decide) (by kernel_rfl)
              generalize vals 6 = v6 at *
              subst f6
              clear hf
              go_wp2_with (fail)
              exact RQ.mk rfl ⟨(by first | rfl | (simp [FS13_19_26]; done) | (simp [FS13_19_26, *]; done) | (simp [FS13_19_26, gotV]; done) | (simp [FS13_19_26, gotV]; omega)), fun h => absurd h (by decide)⟩ (Below.refl _ _)
            | 15, _ =>
              injection ho with ho
              subst ho
              clear hl
              simp only [fillA, List.take, List.drop, put_none, Act.put, List.setIfInBounds_toArray, List.set_cons_zero, List.set_cons_succ, Nat.reduceAdd]
              have f14 := hf 14 (by decide) (by kernel_rfl)
              generalize vals 14 = v14 at *
              subst f14
              clear hf
              go_wp2_with (fail)
              exact RQ.mk rfl ⟨(by first | rfl | (simp [FS13_19_26]; done) | (simp [FS13_19_26, *]; done) | (simp [FS13_19_26, gotV]; done) | (simp [FS13_19_26, gotV]; omega)), fun h => absurd h (by decide)⟩ (Below.refl _ _)
            | 16, _ =>
              injection ho with ho
              subst ho
              clear hl
              simp only [fillA, List.take, List.drop, put_none, Act.put, List.setIfInBounds_toArray, List.set_cons_zero, List.set_cons_succ, Nat.reduceAdd]
              have f14 := hf 14 (by decide) (by kernel_rfl)
              generalize vals 14 = v14 at *
              subst f14
              clear hf
              go_wp2_with (fail)
              exact RQ.mk rfl ⟨(by first | rfl | (simp [FS13_19_26]; done) | (simp [FS13_19_26, *]; done) | (simp [FS13_19_26, gotV]; done) | (simp [FS13_19_26, gotV]; omega)), fun h => absurd h (by decide)⟩ (Below.refl _ _)
            | 17, _ =>
              injection ho with ho
              subst ho
              clear hl
              simp only [fillA, List.take, List.drop, put_none, Act.put, List.setIfInBounds_toArray, List.set_cons_zero, List.set_cons_succ, Nat.reduceAdd]
              have f14 := hf 14 (by decide) (by kernel_rfl)
              generalize vals 14 = v14 at *
              subst f14
              clear hf
              go_wp2_with (fail)
              exact RQ.mk rfl ⟨(by first | rfl | (simp [FS13_19_26]; done) | (simp [FS13_19_26, *]; done) | (simp [FS13_19_26, gotV]; done) | (simp [FS13_19_26, gotV]; omega)), fun h => absurd h (by decide)⟩ (Below.refl _ _)
            | 18, _ =>
              injection ho with ho
              subst ho
              clear hl
              simp only [fillA, List.take, List.drop, put_none, Act.put, List.setIfInBounds_toArray, List.set_cons_zero, List.set_cons_succ, Nat.reduceAdd]
              have f16 := hf 16 (by decide) (by kernel_rfl)
              generalize vals 16 = v16 at *
              subst f16
              have f17 := hf 17 (by decide) (by kernel_rfl)
              generalize vals 17 = v17 at *
              subst f17
              have f14 := hf 14 (by decide) (by kernel_rfl)
              generalize vals 14 = v14 at *
              subst f14
              clear hf
              go_wp2_with (fail)
              exact RQ.mk rfl ⟨(by first | rfl | (simp [FS13_19_26]; done) | (simp [FS13_19_26, *]; done) | (simp [FS13_19_26, gotV]; done) | (simp [FS13_19_26, gotV]; omega)), fun h => absurd h (by decide)⟩ (Below.refl _ _)
            | 19, _ =>
              injection ho with ho
              subst ho
              clear hl
              simp only [fillA, List.take, List.drop, put_none, Act.put, List.setIfInBounds_toArray, List.set_cons_zero, List.set_cons_succ, Nat.reduceAdd]
              have f18 := hf 18 (by decide) (by kernel_rfl)
              generalize vals 18 = v18 at *
              subst f18
              have f14 := hf 14 (by decide) (by kernel_rfl)
              generalize vals 14 = v14 at *
              subst f14
              clear hf
              go_wp2_with (fail)
              exact RQ.mk rfl ⟨(by first | rfl | (simp [FS13_19_26]; done) | (simp [FS13_19_26, *]; done) | (simp [FS13_19_26, gotV]; done) | (simp [FS13_19_26, gotV]; omega)), fun h => absurd h (by decide)⟩ (Below.refl _ _)
            | 20, _ =>
              injection ho with ho
              subst ho
              clear hl
              simp only [fillA, List.take, List.drop, put_none, Act.put, List.setIfInBounds_toArray, List.set_cons_zero, List.set_cons_succ, Nat.reduceAdd]
              have f19 := hf 19 (by decide) (by kernel_rfl)
              generalize vals 19 = v19 at *
              subst f19
              have f14 := hf 14 (by decide) (by kernel_rfl)
              generalize vals 14 = v14 at *
              subst f14
              clear hf
              have hc1 := cellOf hb1
              have hf1 := frozOf hb1
              have hz1 := sizeOf hb1
              try simp at hz1
              go_wp2_with (fail)
              exact RQ.mk rfl ⟨(by first | rfl | (simp [FS13_19_26]; done) | (simp [FS13_19_26, *]; done) | (simp [FS13_19_26, gotV]; done) | (simp [FS13_19_26, gotV]; omega)), fun h => absurd h (by decide)⟩ (Below.refl _ _)
            | 21, _ =>
              injection ho with ho
              subst ho
              clear hl
              simp only [fillA, List.take, List.drop, put_none, Act.put, List.setIfInBounds_toArray, List.set_cons_zero, List.set_cons_succ, Nat.reduceAdd]
              have f15 := hf 15 (by decide) (by kernel_rfl)
              generalize vals 15 = v15 at *
              subst f15
              have f20 := hf 20 (by decide) (by kernel_rfl)
              generalize vals 20 = v20 at *
              subst f20
              have f14 := hf 14 (by decide) (by kernel_rfl)
              generalize vals 14 = v14 at *
              subst f14
              clear hf
              go_wp2_with (fail)
              exact RQ.mk rfl ⟨(by first | rfl | (simp [FS13_19_26]; done) | (simp [FS13_19_26, *]; done) | (simp [FS13_19_26, gotV]; done) | (simp [FS13_19_26, gotV]; omega)), fun h => absurd h (by decide)⟩ (Below.refl _ _)
            | 22, _ =>
              injection ho with ho
              subst ho
              clear hl
              simp only [fillA, List.take, List.drop, put_none, Act.put, List.setIfInBounds_toArray, List.set_cons_zero, List.set_cons_succ, Nat.reduceAdd]
              have f14 := hf 14 (by decide) (by kernel_rfl)
              generalize vals 14 = v14 at *
              subst f14
              have f21 := hf 21 (by decide) (by kernel_rfl)
              generalize vals 21 = v21 at *
              subst f21
              clear hf
              go_wp2_with (fail)
              exact RQ.mk rfl ⟨(by first | rfl | (simp [FS13_19_26]; done) | (simp [FS13_19_26, *]; done) | (simp [FS13_19_26, gotV]; done) | (simp [FS13_19_26, gotV]; omega)), fun h => absurd h (by decide)⟩ (Below.refl _ _)
            | 23, _ =>
              injection ho with ho
              subst ho
              clear hl
              simp only [fillA, List.take, List.drop, put_none, Act.put, List.setIfInBounds_toArray, List.set_cons_zero, List.set_cons_succ, Nat.reduceAdd]
              have f6 := hf 6 (by decide) (by kernel_rfl)
              generalize vals 6 = v6 at *
              subst f6
              have f22 := hf 22 (by decide) (by kernel_rfl)
              generalize vals 22 = v22 at *
              subst f22
              clear hf
              go_wp2_with (fail)
              exact RQ.mk rfl ⟨(by first | rfl | (simp [FS13_19_26]; done) | (simp [FS13_19_26, *]; done) | (simp [FS13_19_26, gotV]; done) | (simp [FS13_19_26, gotV]; omega)), fun h => absurd h (by decide)⟩ (Below.refl _ _)
            | m + 24, h => exact absurd h (by omega)
          · intro vals w7 hb1 hf hd
            simp only [fillA, List.take, List.drop, put_none, Act.put, List.setIfInBounds_toArray, List.set_cons_zero, List.set_cons_succ, Nat.reduceAdd]
            clear hd
            have f0 := hf 0 (by decide)
            generalize vals 0 = v0 at *
            subst f0
            have f1 := hf 1 (by decide)
            generalize vals 1 = v1 at *
            subst f1
            have f2 := hf 2 (by decide)
            generalize vals 2 = v2 at *
            subst f2
            have f3 := hf 3 (by decide)
            generalize vals 3 = v3 at *
            subst f3
            have f4 := hf 4 (by decide)
            generalize vals 4 = v4 at *
            subst f4
            have f5 := hf 5 (by decide)
            generalize vals 5 = v5 at *
            subst f5
            have f6 := hf 6 (by decide)
            generalize vals 6 = v6 at *
            subst f6
            have f7 := hf 7 (by decide)
            generalize vals 7 = v7 at *
            subst f7
            have f8 := hf 8 (by decide)
            generalize vals 8 = v8 at *
            subst f8
            have f9 := hf 9 (by decide)
            generalize vals 9 = v9 at *
            subst f9
            have f10 := hf 10 (by decide)
            generalize vals 10 = v10 at *
            subst f10
            have f11 := hf 11 (by decide)
            generalize vals 11 = v11 at *
            subst f11
            have f12 := hf 12 (by decide)
            generalize vals 12 = v12 at *
            subst f12
            have f13 := hf 13 (by decide)
            generalize vals 13 = v13 at *
            subst f13
            have f14 := hf 14 (by decide)
            generalize vals 14 = v14 at *
            subst f14
            have f15 := hf 15 (by decide)
            generalize vals 15 = v15 at *
            subst f15
            have f16 := hf 16 (by decide)
            generalize vals 16 = v16 at *
            subst f16
            have f17 := hf 17 (by decide)
            generalize vals 17 = v17 at *
            subst f17
            have f18 := hf 18 (by decide)
            generalize vals 18 = v18 at *
            subst f18
            have f19 := hf 19 (by decide)
            generalize vals 19 = v19 at *
            subst f19
            have f20 := hf 20 (by decide)
            generalize vals 20 = v20 at *
            subst f20
            have f21 := hf 21 (by decide)
            generalize vals 21 = v21 at *
            subst f21
            have f22 := hf 22 (by decide)
            generalize vals 22 = v22 at *
            subst f22
            have f23 := hf 23 (by decide)
            generalize vals 23 = v23 at *
            subst f23
            clear hf
            have hc1 := cellOf hb1
            have hf1 := frozOf hb1
            have hz1 := sizeOf hb1
            try simp at hz1
            have hz7 := hb1.size
            have hw7 : Below W14.heap.size W14 w7 := Below.trans hw8 (Below.mono hb1 (by omega))
            clear hc1 hf1
            go_wp2_with (fail)
            go_roundw
            case rel => exact ⟨k + 1, cc, by omega, by go_num, rfl, hid (by have h1 := HU2.out; have h2 := HC.out; omega), by have h1 := HU2.out; have h2 := HC.out; omega, by first | exact hw7 | (repeat' (first | exact Below.refl _ _ | assumption | refine Below.setCell ?_ ?_ _ | refine Below.drew ?_ | refine Below.alloc ?_ ?_ _ | refine Below.trans ?_ (Below.mono (by assumption) ?_) | (simp; done) | (simp; omega) | omega))⟩
            case measure => simp [intOf]; omega
        have HL9 : Hid (lies hh (z1, z2, z3, z4, z5) = true) := hid (by unfold lies; first | exact decide_eq_true ⟨ha, hd⟩ | exact decide_eq_false (fun e => absurd e.1 ha) | exact decide_eq_false (fun e => absurd e.2 hd))
        have HT := hid (HMX.out.trans HL9.out)
        have HU2 := hid (HUS.out.trans (by rw [HL9.out]; rfl : _ = usedTo xs hh k + z3))
        clear HMX HUS HL9
        have hcz : 0 ≤ cc + z3 ∧ cc + z3 ≤ 60 := by have h1 := HU2.out; have h2 := HC.out; omega
        go_wp2_with (fail)
        refine (c_laws_rHas H1 ly h1 z1 _ HLW.out (by omega)).mono ?_
        simp only [HT.out]
        rintro e W8 ⟨rfl, hb⟩
        have hz8 := hb.size
        have HL8 := hid (HLW.out.below hb)
        have hbx8 : bx < W8.heap.size := by omega
        have x0 := (hb.cell (p := ⟨bx, _, none⟩) hbx).trans y0
        have x2 := (hb.cell (p := ⟨bx, _, none⟩) hbx).trans y2
        have x3 := (hb.cell (p := ⟨bx, _, none⟩) hbx).trans y3
        have x4 := (hb.cell (p := ⟨bx, _, none⟩) hbx).trans y4
        have hw8 : Below W14.heap.size W14 W8 := Below.trans hbr (Below.mono hb (by omega))
        clear y0 y2 y3 y4 hb hbr hwr HLW HLR
        have hkk : (k : Int) < (xs.length : Int) := by omega
        go_wp2_with (fail)
        refine wp_region_w (n := 24) [] [] (FS13_19_27 hh z1 z4 z5 bx ox k xs.length cf H1 ly.length h1 w) rfl (by kernel_rfl) (fun _ _ d _ _ h => by cases d <;> exact h) ?_ ?_ ?_ ?_ ?_ ?_
        · intro iq
          match iq with
          | 0 | 1 | 2 | 3 | 4 | 5 | 6 | 7 | 8 | 9 | 10 | 11 | 12 | 13 | 14 | 15 | 16 | 17 | 18 | 19 | 20 | 21 | 22 | 23 => exact Stable.const _
          | n + 24 => exact Stable.const _
        · intro iq hi
          exact absurd hi (by simp)
        · intro iq hi
          exact absurd hi (by simp)
        · intro iq o hi hl ho vals w1 hb1 hf
          exact absurd hl (by simp)
        · intro iq o hi hl ho vals w1 hb1 hf
          match iq, hi with
          | 0, _ =>
            injection ho with ho
            subst ho
            clear hl
            simp only [fillA, List.take, List.drop, put_none, Act.put, List.setIfInBounds_toArray, List.set_cons_zero, List.set_cons_succ, Nat.reduceAdd]
            clear hf
            go_wp2_with (fail)
            exact RQ.mk rfl ⟨(by first | rfl | (simp [FS13_19_27]; done) | (simp [FS13_19_27, *]; done) | (simp [FS13_19_27, gotV]; done) | (simp [FS13_19_27, gotV]; omega)), fun h => absurd h (by decide)⟩ (Below.refl _ _)
          | 1, _ =>
            injection ho with ho
            subst ho
            clear hl
            simp only [fillA, List.take, List.drop, put_none, Act.put, List.setIfInBounds_toArray, List.set_cons_zero, List.set_cons_succ, Nat.reduceAdd]
            clear hf
            go_wp2_with (fail)
            exact RQ.mk rfl ⟨(by first | rfl | (simp [FS13_19_27]; done) | (simp [FS13_19_27, *]; done) | (simp [FS13_19_27, gotV]; done) | (simp [FS13_19_27, gotV]; omega)), fun h => absurd h (by decide)⟩ (Below.refl _ _)
          | 2, _ =>
            injection ho with ho
            subst ho
            clear hl
            simp only [fillA, List.take, List.drop, put_none, Act.put, List.setIfInBounds_toArray, List.set_cons_zero, List.set_cons_succ, Nat.reduceAdd]
            clear hf
            go_wp2_with (fail)
            exact RQ.mk rfl ⟨(by first | rfl | (simp [FS13_19_27]; done) | (simp [FS13_19_27, *]; done) | (simp [FS13_19_27, gotV]; done) | (simp [FS13_19_27, gotV]; omega)), fun h => absurd h (by decide)⟩ (Below.refl _ _)
          | 3, _ =>
            injection ho with ho
            subst ho
            clear hl
            simp only [fillA, List.take, List.drop, put_none, Act.put, List.setIfInBounds_toArray, List.set_cons_zero, List.set_cons_succ, Nat.reduceAdd]
            have f1 := hf 1 (by decide) (by kernel_rfl)
            generalize vals 1 = v1 at *
            subst f1
            have f2 := hf 2 (by decide) (by kernel_rfl)
            generalize vals 2 = v2 at *
            subst f2
            clear hf
            go_wp2_with (fail)
            exact RQ.mk rfl ⟨(by first | rfl | (simp [FS13_19_27]; done) | (simp [FS13_19_27, *]; done) | (simp [FS13_19_27, gotV]; done) | (simp [FS13_19_27, gotV]; omega)), fun h => absurd h (by decide)⟩ (Below.refl _ _)
          | 4, _ =>
            injection ho with ho
            subst ho
            clear hl
            simp only [fillA, List.take, List.drop, put_none, Act.put, List.setIfInBounds_toArray, List.set_cons_zero, List.set_cons_succ, Nat.reduceAdd]
            have f3 := hf 3 (by decide) (by kernel_rfl)
            generalize vals 3 = v3 at *
            subst f3
            clear hf
            go_wp2_with (fail)
            exact RQ.mk rfl ⟨(by first | rfl | (simp [FS13_19_27]; done) | (simp [FS13_19_27, *]; done) | (simp [FS13_19_27, gotV]; done) | (simp [FS13_19_27, gotV]; omega)), fun h => absurd h (by decide)⟩ (Below.refl _ _)
          | 5, _ =>
            injection ho with ho
            subst ho
            clear hl
            simp only [fillA, List.take, List.drop, put_none, Act.put, List.setIfInBounds_toArray, List.set_cons_zero, List.set_cons_succ, Nat.reduceAdd]
            have f4 := hf 4 (by decide) (by kernel_rfl)
            generalize vals 4 = v4 at *
            subst f4
            clear hf
            have hc1 := cellOf hb1
            have hf1 := frozOf hb1
            have hz1 := sizeOf hb1
            try simp at hz1
            go_wp2_with (fail)
            exact RQ.mk rfl ⟨(by first | rfl | (simp [FS13_19_27]; done) | (simp [FS13_19_27, *]; done) | (simp [FS13_19_27, gotV]; done) | (simp [FS13_19_27, gotV]; omega)), fun h => absurd h (by decide)⟩ (Below.refl _ _)
          | 6, _ =>
            injection ho with ho
            subst ho
            clear hl
            simp only [fillA, List.take, List.drop, put_none, Act.put, List.setIfInBounds_toArray, List.set_cons_zero, List.set_cons_succ, Nat.reduceAdd]
            have f0 := hf 0 (by decide) (by kernel_rfl)
            generalize vals 0 = v0 at *
            subst f0
            have f5 := hf 5 (by decide) (by kernel_rfl)
            generalize vals 5 = v5 at *
            subst f5
            clear hf
            have hc1 := cellOf hb1
            have hf1 := frozOf hb1
            have hz1 := sizeOf hb1
            try simp at hz1
            go_wp2_with (first | (go_at_call 45; refine (c_laws_rHas _ ly _ z1 _ (HL8.out.below (by (repeat' (first | exact Below.refl _ _ | assumption | refine Below.setCell ?_ ?_ _ | refine Below.drew ?_ | refine Below.alloc ?_ ?_ _ | refine Below.trans ?_ (Below.mono (by assumption) ?_) | (simp; done) | (simp; omega) | omega)))) (by omega)).mono ?_; simp only [HT.out]; rintro e w' ⟨rfl, hb⟩; have hc := cellOf hb; have hf := frozOf hb; have hz := sizeOf hb; try simp at hz))
            exact RQ.mk rfl ⟨(by first | rfl | (simp [FS13_19_27]; done) | (simp [FS13_19_27, *]; done) | (simp [FS13_19_27, gotV]; done) | (simp [FS13_19_27, gotV]; omega)), fun h => absurd h (by decide)⟩ (by (repeat' (first | exact Below.refl _ _ | assumption | refine Below.setCell ?_ ?_ _ | refine Below.drew ?_ | refine Below.alloc ?_ ?_ _ | refine Below.trans ?_ (Below.mono (by assumption) ?_) | (simp; done) | (simp; omega) | omega)))
          | 7, _ =>
            injection ho with ho
            subst ho
            clear hl
            simp only [fillA, List.take, List.drop, put_none, Act.put, List.setIfInBounds_toArray, List.set_cons_zero, List.set_cons_succ, Nat.reduceAdd]
            clear hf
            go_wp2_with (fail)
            exact RQ.mk rfl ⟨(by first | rfl | (simp [FS13_19_27]; done) | (simp [FS13_19_27, *]; done) | (simp [FS13_19_27, gotV]; done) | (simp [FS13_19_27, gotV]; omega)), fun h => absurd h (by decide)⟩ (Below.refl _ _)
          | 8, _ =>
            injection ho with ho
            subst ho
            clear hl
            simp only [fillA, List.take, List.drop, put_none, Act.put, List.setIfInBounds_toArray, List.set_cons_zero, List.set_cons_succ, Nat.reduceAdd]
            clear hf
            go_wp2_with (fail)
            exact RQ.mk rfl ⟨(by first | rfl | (simp [FS13_19_27]; done) | (simp [FS13_19_27, *]; done) | (simp [FS13_19_27, gotV]; done) | (simp [FS13_19_27, gotV]; omega)), fun h => absurd h (by decide)⟩ (Below.refl _ _)
          | 9, _ =>
            injection ho with ho
            subst ho
            clear hl
            simp only [fillA, List.take, List.drop, put_none, Act.put, List.setIfInBounds_toArray, List.set_cons_zero, List.set_cons_succ, Nat.reduceAdd]
            clear hf
            go_wp2_with (fail)
            exact RQ.mk rfl ⟨(by first | rfl | (simp [FS13_19_27]; done) | (simp [FS13_19_27, *]; done) | (simp [FS13_19_27, gotV]; done) | (simp [FS13_19_27, gotV]; omega)), fun h => absurd h (by decide)⟩ (Below.refl _ _)
          | 10, _ =>
            injection ho with ho
            subst ho
            clear hl
            simp only [fillA, List.take, List.drop, put_none, Act.put, List.setIfInBounds_toArray, List.set_cons_zero, List.set_cons_succ, Nat.reduceAdd]
            have f8 := hf 8 (by decide) (by kernel_rfl)
            generalize vals 8 = v8 at *
            subst f8
            have f9 := hf 9 (by decide) (by kernel_rfl)
            generalize vals 9 = v9 at *
            subst f9
            clear hf
            go_wp2_with (fail)
            exact RQ.mk rfl ⟨(by first | rfl | (simp [FS13_19_27]; done) | (simp [FS13_19_27, *]; done) | (simp [FS13_19_27, gotV]; done) | (simp [FS13_19_27, gotV]; omega)), fun h => absurd h (by decide)⟩ (Below.refl _ _)
          | 11, _ =>
            injection ho with ho
            subst ho
            clear hl
            simp only [fillA, List.take, List.drop, put_none, Act.put, List.setIfInBounds_toArray, List.set_cons_zero, List.set_cons_succ, Nat.reduceAdd]
            have f10 := hf 10 (by decide) (by kernel_rfl)
            generalize vals 10 = v10 at *
            subst f10
            clear hf
            go_wp2_with (fail)
            exact RQ.mk rfl ⟨(by first | rfl | (simp [FS13_19_27]; done) | (simp [FS13_19_27, *]; done) | (simp [FS13_19_27, gotV]; done) | (simp [FS13_19_27, gotV]; omega)), fun h => absurd h (by decide)⟩ (Below.refl _ _)
          | 12, _ =>
            injection ho with ho
            subst ho
            clear hl
            simp only [fillA, List.take, List.drop, put_none, Act.put, List.setIfInBounds_toArray, List.set_cons_zero, List.set_cons_succ, Nat.reduceAdd]
            have f11 := hf 11 (by decide) (by kernel_rfl)
            generalize vals 11 = v11 at *
            subst f11
            clear hf
            have hc1 := cellOf hb1
            have hf1 := frozOf hb1
            have hz1 := sizeOf hb1
            try simp at hz1
            go_wp2_with (fail)
            exact RQ.mk rfl ⟨(by first | rfl | (simp [FS13_19_27]; done) | (simp [FS13_19_27, *]; done) | (simp [FS13_19_27, gotV]; done) | (simp [FS13_19_27, gotV]; omega)), fun h => absurd h (by decide)⟩ (Below.refl _ _)
          | 13, _ =>
            injection ho with ho
            subst ho
            clear hl
            simp only [fillA, List.take, List.drop, put_none, Act.put, List.setIfInBounds_toArray, List.set_cons_zero, List.set_cons_succ, Nat.reduceAdd]
            have f7 := hf 7 (by decide) (by kernel_rfl)
            generalize vals 7 = v7 at *
            subst f7
            have f12 := hf 12 (by decide) (by kernel_rfl)
            generalize vals 12 = v12 at *
            subst f12
            clear hf
            go_wp2_with (fail)
            exact RQ.mk rfl ⟨(by first | rfl | (simp [FS13_19_27]; done) | (simp [FS13_19_27, *]; done) | (simp [FS13_19_27, gotV]; done) | (simp [FS13_19_27, gotV]; omega)), fun h => absurd h (by decide)⟩ (Below.refl _ _)
          | 14, _ =>
            injection ho with ho
            subst ho
            clear hl
            simp only [fillA, List.take, List.drop, put_none, Act.put, List.setIfInBounds_toArray, List.set_cons_zero, List.set_cons_succ, Nat.reduceAdd]
            have f13 := hf 13 (by decide) (by kernel_rfl)
            generalize vals 13 = v13 at *
            subst f13
            have f6 := hf 6 (by decide) (by kernel_rfl)
            generalize vals 6 = v6 at *
            subst f6
            clear hf
            go_wp2_with (fail)
            exact RQ.mk rfl ⟨(by first | rfl | (simp [FS13_19_27]; done) | (simp [FS13_19_27, *]; done) | (simp [FS13_19_27, gotV]; done) | (simp [FS13_19_27, gotV]; omega)), fun h => absurd h (by decide)⟩ (Below.refl _ _)
          | 15, _ =>
            injection ho with ho
            subst ho
            clear hl
            simp only [fillA, List.take, List.drop, put_none, Act.put, List.setIfInBounds_toArray, List.set_cons_zero, List.set_cons_succ, Nat.reduceAdd]
            have f14 := hf 14 (by decide) (by kernel_rfl)
            generalize vals 14 = v14 at *
            subst f14
            clear hf
            go_wp2_with (fail)
            exact RQ.mk rfl ⟨(by first | rfl | (simp [FS13_19_27]; done) | (simp [FS13_19_27, *]; done) | (simp [FS13_19_27, gotV]; done) | (simp [FS13_19_27, gotV]; omega)), fun h => absurd h (by decide)⟩ (Below.refl _ _)
          | 16, _ =>
            injection ho with ho
            subst ho
            clear hl
            simp only [fillA, List.take, List.drop, put_none, Act.put, List.setIfInBounds_toArray, List.set_cons_zero, List.set_cons_succ, Nat.reduceAdd]
            have f14 := hf 14 (by decide) (by kernel_rfl)
            generalize vals 14 = v14 at *
            subst f14
            clear hf
            go_wp2_with (fail)
            exact RQ.mk rfl ⟨(by first | rfl | (simp [FS13_19_27]; done) | (simp [FS13_19_27, *]; done) | (simp [FS13_19_27, gotV]; done) | (simp [FS13_19_27, gotV]; omega)), fun h => absurd h (by decide)⟩ (Below.refl _ _)
          | 17, _ =>
            injection ho with ho
            subst ho
            clear hl
            simp only [fillA, List.take, List.drop, put_none, Act.put, List.setIfInBounds_toArray, List.set_cons_zero, List.set_cons_succ, Nat.reduceAdd]
            have f14 := hf 14 (by decide) (by kernel_rfl)
            generalize vals 14 = v14 at *
            subst f14
            clear hf
            go_wp2_with (fail)
            exact RQ.mk rfl ⟨(by first | rfl | (simp [FS13_19_27]; done) | (simp [FS13_19_27, *]; done) | (simp [FS13_19_27, gotV]; done) | (simp [FS13_19_27, gotV]; omega)), fun h => absurd h (by decide)⟩ (Below.refl _ _)
          | 18, _ =>
            injection ho with ho
            subst ho
            clear hl
            simp only [fillA, List.take, List.drop, put_none, Act.put, List.setIfInBounds_toArray, List.set_cons_zero, List.set_cons_succ, Nat.reduceAdd]
            have f16 := hf 16 (by decide) (by kernel_rfl)
            generalize vals 16 = v16 at *
            subst f16
            have f17 := hf 17 (by decide) (by kernel_rfl)
            generalize vals 17 = v17 at *
            subst f17
            have f14 := hf 14 (by decide) (by kernel_rfl)
            generalize vals 14 = v14 at *
            subst f14
            clear hf
            go_wp2_with (fail)
            exact RQ.mk rfl ⟨(by first | rfl | (simp [FS13_19_27]; done) | (simp [FS13_19_27, *]; done) | (simp [FS13_19_27, gotV]; done) | (simp [FS13_19_27, gotV]; omega)), fun h => absurd h (by decide)⟩ (Below.refl _ _)
          | 19, _ =>
            injection ho with ho
            subst ho
            clear hl
            simp only [fillA, List.take, List.drop, put_none, Act.put, List.setIfInBounds_toArray, List.set_cons_zero, List.set_cons_succ, Nat.reduceAdd]
            have f18 := hf 18 (by decide) (by kernel_rfl)
            generalize vals 18 = v18 at *
            subst f18
            have f14 := hf 14 (by decide) (by kernel_rfl)
            generalize vals 14 = v14 at *
            subst f14
            clear hf
            go_wp2_with (fail)
            exact RQ.mk rfl ⟨(by first | rfl | (simp [FS13_19_27]; done) | (simp [FS13_19_27, *]; done) | (simp [FS13_19_27, gotV]; done) | (simp [FS13_19_27, gotV]; omega)), fun h => absurd h (by decide)⟩ (Below.refl _ _)
          | 20, _ =>
            injection ho with ho
            subst ho
            clear hl
            simp only [fillA, List.take, List.drop, put_none, Act.put, List.setIfInBounds_toArray, List.set_cons_zero, List.set_cons_succ, Nat.reduceAdd]
            have f19 := hf 19 (by decide) (by kernel_rfl)
            generalize vals 19 = v19 at *
            subst f19
            have f14 := hf 14 (by decide) (by kernel_rfl)
            generalize vals 14 = v14 at *
            subst f14
            clear hf
            have hc1 := cellOf hb1
            have hf1 := frozOf hb1
            have hz1 := sizeOf hb1
            try simp at hz1
            go_wp2_with (fail)
            exact RQ.mk rfl ⟨(by first | rfl | (simp [FS13_19_27]; done) | (simp [FS13_19_27, *]; done) | (simp [FS13_19_27, gotV]; done) | (simp [FS13_19_27, gotV]; omega)), fun h => absurd h (by decide)⟩ (Below.refl _ _)
          | 21, _ =>
            injection ho with ho
            subst ho
            clear hl
            simp only [fillA, List.take, List.drop, put_none, Act.put, List.setIfInBounds_toArray, List.set_cons_zero, List.set_cons_succ, Nat.reduceAdd]
            have f15 := hf 15 (by decide) (by kernel_rfl)
            generalize vals 15 = v15 at *
            subst f15
            have f20 := hf 20 (by decide) (by kernel_rfl)
            generalize vals 20 = v20 at *
            subst f20
            have f14 := hf 14 (by decide) (by kernel_rfl)
            generalize vals 14 = v14 at *
            subst f14
            clear hf
            go_wp2_with (fail)
            exact RQ.mk rfl ⟨(by first | rfl | (simp [FS13_19_27]; done) | (simp [FS13_19_27, *]; done) | (simp [FS13_19_27, gotV]; done) | (simp [FS13_19_27, gotV]; omega)), fun h => absurd h (by decide)⟩ (Below.refl _ _)
          | 22, _ =>
            injection ho with ho
            subst ho
            clear hl
            simp only [fillA, List.take, List.drop, put_none, Act.put, List.setIfInBounds_toArray, List.set_cons_zero, List.set_cons_succ, Nat.reduceAdd]
            have f14 := hf 14 (by decide) (by kernel_rfl)
            generalize vals 14 = v14 at *
            subst f14
            have f21 := hf 21 (by decide) (by kernel_rfl)
            generalize vals 21 = v21 at *
            subst f21
            clear hf
            go_wp2_with (fail)
            exact RQ.mk rfl ⟨(by first | rfl | (simp [FS13_19_27]; done) | (simp [FS13_19_27, *]; done) | (simp [FS13_19_27, gotV]; done) | (simp [FS13_19_27, gotV]; omega)), fun h => absurd h (by decide)⟩ (Below.refl _ _)
          | 23, _ =>
            injection ho with ho
            subst ho
            clear hl
            simp only [fillA, List.take, List.drop, put_none, Act.put, List.setIfInBounds_toArray, List.set_cons_zero, List.set_cons_succ, Nat.reduceAdd]
            have f6 := hf 6 (by decide) (by kernel_rfl)
            generalize vals 6 = v6 at *
            subst f6
            have f22 := hf 22 (by decide) (by kernel_rfl)
            generalize vals 22 = v22 at *
            subst f22
            clear hf
            go_wp2_with (fail)
            exact RQ.mk rfl ⟨(by first | rfl | (simp [FS13_19_27]; done) | (simp [FS13_19_27, *]; done) | (simp [FS13_19_27, gotV]; done) | (simp [FS13_19_27, gotV]; omega)), fun h => absurd h (by decide)⟩ (Below.refl _ _)
          | m + 24, h => exact absurd h (by omega)
        · intro vals w7 hb1 hf hd
          simp only [fillA, List.take, List.drop, put_none, Act.put, List.setIfInBounds_toArray, List.set_cons_zero, List.set_cons_succ, Nat.reduceAdd]
          clear hd
          have f0 := hf 0 (by decide)
          generalize vals 0 = v0 at *
          subst f0
          have f1 := hf 1 (by decide)
          generalize vals 1 = v1 at *
          subst f1
          have f2 := hf 2 (by decide)
          generalize vals 2 = v2 at *
          subst f2
          have f3 := hf 3 (by decide)
          generalize vals 3 = v3 at *
          subst f3
          have f4 := hf 4 (by decide)
          generalize vals 4 = v4 at *
          subst f4
          have f5 := hf 5 (by decide)
          generalize vals 5 = v5 at *
          subst f5
          have f6 := hf 6 (by decide)
          generalize vals 6 = v6 at *
          subst f6
          have f7 := hf 7 (by decide)
          generalize vals 7 = v7 at *
          subst f7
          have f8 := hf 8 (by decide)
          generalize vals 8 = v8 at *
          subst f8
          have f9 := hf 9 (by decide)
          generalize vals 9 = v9 at *
          subst f9
          have f10 := hf 10 (by decide)
          generalize vals 10 = v10 at *
          subst f10
          have f11 := hf 11 (by decide)
          generalize vals 11 = v11 at *
          subst f11
          have f12 := hf 12 (by decide)
          generalize vals 12 = v12 at *
          subst f12
          have f13 := hf 13 (by decide)
          generalize vals 13 = v13 at *
          subst f13
          have f14 := hf 14 (by decide)
          generalize vals 14 = v14 at *
          subst f14
          have f15 := hf 15 (by decide)
          generalize vals 15 = v15 at *
          subst f15
          have f16 := hf 16 (by decide)
          generalize vals 16 = v16 at *
          subst f16
          have f17 := hf 17 (by decide)
          generalize vals 17 = v17 at *
          subst f17
          have f18 := hf 18 (by decide)
          generalize vals 18 = v18 at *
          subst f18
          have f19 := hf 19 (by decide)
          generalize vals 19 = v19 at *
          subst f19
          have f20 := hf 20 (by decide)
          generalize vals 20 = v20 at *
          subst f20
          have f21 := hf 21 (by decide)
          generalize vals 21 = v21 at *
          subst f21
          have f22 := hf 22 (by decide)
          generalize vals 22 = v22 at *
          subst f22
          have f23 := hf 23 (by decide)
          generalize vals 23 = v23 at *
          subst f23
          clear hf
          have hc1 := cellOf hb1
          have hf1 := frozOf hb1
          have hz1 := sizeOf hb1
          try simp at hz1
          have hz7 := hb1.size
          have hw7 : Below W14.heap.size W14 w7 := Below.trans hw8 (Below.mono hb1 (by omega))
          clear hc1 hf1
          go_wp2_with (fail)
          go_roundw
          case rel => exact ⟨k + 1, cc + z3, by omega, by go_num, rfl, hid (by have h1 := HU2.out; have h2 := HC.out; omega), by have h1 := HU2.out; have h2 := HC.out; omega, by first | exact hw7 | (repeat' (first | exact Below.refl _ _ | assumption | refine Below.setCell ?_ ?_ _ | refine Below.drew ?_ | refine Below.alloc ?_ ?_ _ | refine Below.trans ?_ (Below.mono (by assumption) ?_) | (simp; done) | (simp; omega) | omega))⟩
          case measure => simp [intOf]; omega
  case rest =>
  clear R14_0
  clear R14_1
  clear R14_2
  clear hw
  have hw := hcut; clear hcut; generalize wc = wq15 at *
  have hwz := hw.size
  as_aux_lemma =>
    go_wp2_with (fail)
    refine calls_named ?_
    intro V16 hV
    have hk : Below wq15.heap.size wq15 V16 := by rw [hV]; (repeat' (first | with_reducible exact Below.refl _ _ | with_reducible assumption | with_reducible refine Below.setCell ?_ ?_ _ | with_reducible refine Below.drew ?_ | with_reducible refine Below.alloc ?_ ?_ _ | with_reducible refine Below.trans ?_ (Below.mono (by assumption) ?_) | (dsimp only; omega) | (simp; done) | (simp; omega) | omega))
    have hkz16 := hk.size
    have hw16 : Below w.heap.size w V16 := Below.trans hw (Below.mono hk (by have := hw.size; omega))
    clear hw hk
    have hw := hw16
    clear hw16
    have hwz := hw.size
    clear hV
    refine (c_spec_DrawAddBerth A cs cap _ (Rds.below hr hw) hby (by omega)).mono ?_
    rintro e W17 ⟨q2, Bf, bf, ys, z1, z2, z3, z4, z5, rfl, hFf, hyl, hz9, hb⟩
    have hk : Below V16.heap.size V16 W17 := hb
    have hkz17 := hk.size
    have hw17 : Below w.heap.size w W17 := Below.trans hw (Below.mono hk (by have := hw.size; omega))
    clear hw hk
    have hw := hw17
    clear hw17
    have hwz := hw.size
    clear hb
    have S17_0 : Hid (FreshA cBer 5 48 V16.heap.size W17 Bf bf ys) := hid (hFf)
    have loS17_0 := S17_0.out.lo
    have hiS17_0 := S17_0.out.hi
    clear hFf
    have hcaBf := (S17_0.out).capLe; have hmaBf := (S17_0.out).capMax; unfold maxLen at hmaBf
    obtain ⟨L, told, hAD⟩ : ∃ L told, addV q2 ys (z1, z2, z3, z4, z5) = (L, told) := ⟨_, _, rfl⟩
    have hLl := addV_len q2 ys (z1, z2, z3, z4, z5)
    rw [hAD] at hLl
    simp only at hLl
    have HAD := hid hAD; clear hAD
    go_wp2_with (fail)
    refine calls_named ?_
    intro V18 hV
    have hk : Below W17.heap.size W17 V18 := by rw [hV]; (repeat' (first | with_reducible exact Below.refl _ _ | with_reducible assumption | with_reducible refine Below.setCell ?_ ?_ _ | with_reducible refine Below.drew ?_ | with_reducible refine Below.alloc ?_ ?_ _ | with_reducible refine Below.trans ?_ (Below.mono (by assumption) ?_) | (dsimp only; omega) | (simp; done) | (simp; omega) | omega))
    have hkz18 := hk.size
    have R18_0 := hid (FreshA.below (cf := cBer) (sz := 5) (T := 48) (B := V16.heap.size) S17_0.out hk)
    have hw18 : Below w.heap.size w V18 := Below.trans hw (Below.mono hk (by have := hw.size; omega))
    clear hw hk
    have hw := hw18
    clear hw18
    have hwz := hw.size
    clear S17_0
    have d18_0 : V18.cell? ⟨W17.heap.size, 0, none⟩ = some (.int .i64 z1) := by rw [hV]; first | (simp [go_sem, ↓IntWalk.iteOmega, *]; done) | (simp [go_sem, ↓IntWalk.iteOmega, *]; intros; omega)
    have d18_1 : V18.cell? ⟨W17.heap.size, 1, none⟩ = some (.int .i64 z2) := by rw [hV]; first | (simp [go_sem, ↓IntWalk.iteOmega, *]; done) | (simp [go_sem, ↓IntWalk.iteOmega, *]; intros; omega)
    have d18_2 : V18.cell? ⟨W17.heap.size, 2, none⟩ = some (.int .i64 z3) := by rw [hV]; first | (simp [go_sem, ↓IntWalk.iteOmega, *]; done) | (simp [go_sem, ↓IntWalk.iteOmega, *]; intros; omega)
    have d18_3 : V18.cell? ⟨W17.heap.size, 3, none⟩ = some (.int .i64 z4) := by rw [hV]; first | (simp [go_sem, ↓IntWalk.iteOmega, *]; done) | (simp [go_sem, ↓IntWalk.iteOmega, *]; intros; omega)
    have d18_4 : V18.cell? ⟨W17.heap.size, 4, none⟩ = some (.int .i64 z5) := by rw [hV]; first | (simp [go_sem, ↓IntWalk.iteOmega, *]; done) | (simp [go_sem, ↓IntWalk.iteOmega, *]; intros; omega)
    have e18_0 : W17.heap.size < V18.heap.size := by rw [hV]; first | (simp; done) | (simp; omega)
    clear hV
    generalize htbtb : W17.heap.size = tb at *
    refine (c_impl_AddBerth q2 Bf ys bf z1 z2 z3 z4 z5 _ R18_0.out.rds (by omega) (by omega) (by omega)).mono ?_
    simp only [HAD.out]
    rintro e W19 ⟨A8, c8, rfl, hG, hb⟩
    have hk : Below V18.heap.size V18 W19 := hb
    have hkz19 := hk.size
    have c19_0 : W19.cell? ⟨tb, 0, none⟩ = some (.int .i64 z1) := (hb.cell (p := ⟨tb, 0, none⟩) (by show tb < _; omega)).trans d18_0
    have c19_1 : W19.cell? ⟨tb, 1, none⟩ = some (.int .i64 z2) := (hb.cell (p := ⟨tb, 1, none⟩) (by show tb < _; omega)).trans d18_1
    have c19_2 : W19.cell? ⟨tb, 2, none⟩ = some (.int .i64 z3) := (hb.cell (p := ⟨tb, 2, none⟩) (by show tb < _; omega)).trans d18_2
    have c19_3 : W19.cell? ⟨tb, 3, none⟩ = some (.int .i64 z4) := (hb.cell (p := ⟨tb, 3, none⟩) (by show tb < _; omega)).trans d18_3
    have c19_4 : W19.cell? ⟨tb, 4, none⟩ = some (.int .i64 z5) := (hb.cell (p := ⟨tb, 4, none⟩) (by show tb < _; omega)).trans d18_4
    have b19_0 : tb < W19.heap.size := by omega
    have R19_0 := hid (FreshA.below (cf := cBer) (sz := 5) (T := 48) (B := V16.heap.size) R18_0.out hk)
    have hw19 : Below w.heap.size w W19 := Below.trans hw (Below.mono hk (by have := hw.size; omega))
    clear hw hk
    have hw := hw19
    clear hw19
    have hwz := hw.size
    clear d18_0 d18_1 d18_2 d18_3 d18_4 R18_0
    clear hb
    have S19_1 : Hid (FreshA cBer 5 48 V18.heap.size W19 A8 c8 L) := hid (hG)
    have loS19_1 := S19_1.out.lo
    have hiS19_1 := S19_1.out.hi
    clear hG
    have hca8 := (S19_1.out).capLe; have hma8 := (S19_1.out).capMax; unfold maxLen at hma8
    go_wp2_with (fail)
    refine calls_named ?_
    intro V20 hV
    have hk : Below W19.heap.size W19 V20 := by rw [hV]; (repeat' (first | with_reducible exact Below.refl _ _ | with_reducible assumption | with_reducible refine Below.setCell ?_ ?_ _ | with_reducible refine Below.drew ?_ | with_reducible refine Below.alloc ?_ ?_ _ | with_reducible refine Below.trans ?_ (Below.mono (by assumption) ?_) | (dsimp only; omega) | (simp; done) | (simp; omega) | omega))
    have hkz20 := hk.size
    have c20_0 : V20.cell? ⟨tb, 0, none⟩ = some (.int .i64 z1) := (hk.cell (p := ⟨tb, 0, none⟩) (by show tb < _; omega)).trans c19_0
    have c20_1 : V20.cell? ⟨tb, 1, none⟩ = some (.int .i64 z2) := (hk.cell (p := ⟨tb, 1, none⟩) (by show tb < _; omega)).trans c19_1
    have c20_2 : V20.cell? ⟨tb, 2, none⟩ = some (.int .i64 z3) := (hk.cell (p := ⟨tb, 2, none⟩) (by show tb < _; omega)).trans c19_2
    have c20_3 : V20.cell? ⟨tb, 3, none⟩ = some (.int .i64 z4) := (hk.cell (p := ⟨tb, 3, none⟩) (by show tb < _; omega)).trans c19_3
    have c20_4 : V20.cell? ⟨tb, 4, none⟩ = some (.int .i64 z5) := (hk.cell (p := ⟨tb, 4, none⟩) (by show tb < _; omega)).trans c19_4
    have b20_0 : tb < V20.heap.size := by omega
    have R20_0 := hid (FreshA.below (cf := cBer) (sz := 5) (T := 48) (B := V16.heap.size) R19_0.out hk)
    have R20_1 := hid (FreshA.below (cf := cBer) (sz := 5) (T := 48) (B := V18.heap.size) S19_1.out hk)
    have hw20 : Below w.heap.size w V20 := Below.trans hw (Below.mono hk (by have := hw.size; omega))
    clear hw hk
    have hw := hw20
    clear hw20
    have hwz := hw.size
    clear c19_0 c19_1 c19_2 c19_3 c19_4 R19_0 S19_1
    clear hV
    refine (c_spec_AddBerth q2 Bf ys bf z1 z2 z3 z4 z5 _ R20_0.out.rds (by omega) (by omega)).mono ?_
    simp only [HAD.out]
    rintro e W21 ⟨E8, e8, rfl, hG, hb⟩
    have hk : Below V20.heap.size V20 W21 := hb
    have hkz21 := hk.size
    have c21_0 : W21.cell? ⟨tb, 0, none⟩ = some (.int .i64 z1) := (hb.cell (p := ⟨tb, 0, none⟩) (by show tb < _; omega)).trans c20_0
    have c21_1 : W21.cell? ⟨tb, 1, none⟩ = some (.int .i64 z2) := (hb.cell (p := ⟨tb, 1, none⟩) (by show tb < _; omega)).trans c20_1
    have c21_2 : W21.cell? ⟨tb, 2, none⟩ = some (.int .i64 z3) := (hb.cell (p := ⟨tb, 2, none⟩) (by show tb < _; omega)).trans c20_2
    have c21_3 : W21.cell? ⟨tb, 3, none⟩ = some (.int .i64 z4) := (hb.cell (p := ⟨tb, 3, none⟩) (by show tb < _; omega)).trans c20_3
    have c21_4 : W21.cell? ⟨tb, 4, none⟩ = some (.int .i64 z5) := (hb.cell (p := ⟨tb, 4, none⟩) (by show tb < _; omega)).trans c20_4
    have b21_0 : tb < W21.heap.size := by omega
    have R21_0 := hid (FreshA.below (cf := cBer) (sz := 5) (T := 48) (B := V16.heap.size) R20_0.out hk)
    have R21_1 := hid (FreshA.below (cf := cBer) (sz := 5) (T := 48) (B := V18.heap.size) R20_1.out hk)
    have hw21 : Below w.heap.size w W21 := Below.trans hw (Below.mono hk (by have := hw.size; omega))
    clear hw hk
    have hw := hw21
    clear hw21
    have hwz := hw.size
    clear c20_0 c20_1 c20_2 c20_3 c20_4 R20_0 R20_1
    clear hb
    have S21_2 : Hid (FreshA cBer 5 48 V20.heap.size W21 E8 e8 L) := hid (hG)
    have loS21_2 := S21_2.out.lo
    have hiS21_2 := S21_2.out.hi
    clear hG
    go_wp2_with (fail)
    refine calls_named ?_
    intro V22 hV
    have hk : Below W21.heap.size W21 V22 := by rw [hV]; (repeat' (first | with_reducible exact Below.refl _ _ | with_reducible assumption | with_reducible refine Below.setCell ?_ ?_ _ | with_reducible refine Below.drew ?_ | with_reducible refine Below.alloc ?_ ?_ _ | with_reducible refine Below.trans ?_ (Below.mono (by assumption) ?_) | (dsimp only; omega) | (simp; done) | (simp; omega) | omega))
    have hkz22 := hk.size
    have c22_0 : V22.cell? ⟨tb, 0, none⟩ = some (.int .i64 z1) := (hk.cell (p := ⟨tb, 0, none⟩) (by show tb < _; omega)).trans c21_0
    have c22_1 : V22.cell? ⟨tb, 1, none⟩ = some (.int .i64 z2) := (hk.cell (p := ⟨tb, 1, none⟩) (by show tb < _; omega)).trans c21_1
    have c22_2 : V22.cell? ⟨tb, 2, none⟩ = some (.int .i64 z3) := (hk.cell (p := ⟨tb, 2, none⟩) (by show tb < _; omega)).trans c21_2
    have c22_3 : V22.cell? ⟨tb, 3, none⟩ = some (.int .i64 z4) := (hk.cell (p := ⟨tb, 3, none⟩) (by show tb < _; omega)).trans c21_3
    have c22_4 : V22.cell? ⟨tb, 4, none⟩ = some (.int .i64 z5) := (hk.cell (p := ⟨tb, 4, none⟩) (by show tb < _; omega)).trans c21_4
    have b22_0 : tb < V22.heap.size := by omega
    have R22_0 := hid (FreshA.below (cf := cBer) (sz := 5) (T := 48) (B := V16.heap.size) R21_0.out hk)
    have R22_1 := hid (FreshA.below (cf := cBer) (sz := 5) (T := 48) (B := V18.heap.size) R21_1.out hk)
    have R22_2 := hid (FreshA.below (cf := cBer) (sz := 5) (T := 48) (B := V20.heap.size) S21_2.out hk)
    have hw22 : Below w.heap.size w V22 := Below.trans hw (Below.mono hk (by have := hw.size; omega))
    clear hw hk
    have hw := hw22
    clear hw22
    have hwz := hw.size
    clear c21_0 c21_1 c21_2 c21_3 c21_4 R21_0 R21_1 S21_2
    clear hV
    refine (c_laws_rBerths A8 E8 L c8 e8 _ R22_1.out.rds R22_2.out.rds (by omega)).mono ?_
    rintro e W23 ⟨rfl, hb⟩
    have hk : Below V22.heap.size V22 W23 := hb
    have hkz23 := hk.size
    have c23_0 : W23.cell? ⟨tb, 0, none⟩ = some (.int .i64 z1) := (hb.cell (p := ⟨tb, 0, none⟩) (by show tb < _; omega)).trans c22_0
    have c23_1 : W23.cell? ⟨tb, 1, none⟩ = some (.int .i64 z2) := (hb.cell (p := ⟨tb, 1, none⟩) (by show tb < _; omega)).trans c22_1
    have c23_2 : W23.cell? ⟨tb, 2, none⟩ = some (.int .i64 z3) := (hb.cell (p := ⟨tb, 2, none⟩) (by show tb < _; omega)).trans c22_2
    have c23_3 : W23.cell? ⟨tb, 3, none⟩ = some (.int .i64 z4) := (hb.cell (p := ⟨tb, 3, none⟩) (by show tb < _; omega)).trans c22_3
    have c23_4 : W23.cell? ⟨tb, 4, none⟩ = some (.int .i64 z5) := (hb.cell (p := ⟨tb, 4, none⟩) (by show tb < _; omega)).trans c22_4
    have b23_0 : tb < W23.heap.size := by omega
    have R23_0 := hid (FreshA.below (cf := cBer) (sz := 5) (T := 48) (B := V16.heap.size) R22_0.out hk)
    have R23_1 := hid (FreshA.below (cf := cBer) (sz := 5) (T := 48) (B := V18.heap.size) R22_1.out hk)
    have R23_2 := hid (FreshA.below (cf := cBer) (sz := 5) (T := 48) (B := V20.heap.size) R22_2.out hk)
    have hw23 : Below w.heap.size w W23 := Below.trans hw (Below.mono hk (by have := hw.size; omega))
    clear hw hk
    have hw := hw23
    clear hw23
    have hwz := hw.size
    clear c22_0 c22_1 c22_2 c22_3 c22_4 R22_0 R22_1 R22_2
    clear hb
    clear R23_2
    go_upto_if 187 with (fail)
    go_cut [] (fun wx => Below w.heap.size w wx)
    case first =>
      as_aux_lemma =>
        cases told
        · (go_wp2_with (fail); go_meet; exact hw)
        obtain ⟨X, d, hX, hY, hmul, hX0, hX1, hY0, hY1, hz40, hz41, hz50, hz51, hes, hno⟩ := bs_add HAD.out
        have HX := hid hX; have HY := hid hY; have HES := hid hes; have HNO := hid hno; clear hX hY hes hno HAD
        by_cases hz : z4 + 1 < z5
        rotate_left
        · have HE := hid (HNO.out hz)
          clear HES HNO
          go_wp2_with (fail)
          refine calls_named ?_
          intro V24 hV
          have hk : Below W23.heap.size W23 V24 := by rw [hV]; (repeat' (first | with_reducible exact Below.refl _ _ | with_reducible assumption | with_reducible refine Below.setCell ?_ ?_ _ | with_reducible refine Below.drew ?_ | with_reducible refine Below.alloc ?_ ?_ _ | with_reducible refine Below.trans ?_ (Below.mono (by assumption) ?_) | (dsimp only; omega) | (simp; done) | (simp; omega) | omega))
          have hkz24 := hk.size
          have c24_0 : V24.cell? ⟨tb, 0, none⟩ = some (.int .i64 z1) := (hk.cell (p := ⟨tb, 0, none⟩) (by show tb < _; omega)).trans c23_0
          have c24_1 : V24.cell? ⟨tb, 1, none⟩ = some (.int .i64 z2) := (hk.cell (p := ⟨tb, 1, none⟩) (by show tb < _; omega)).trans c23_1
          have c24_2 : V24.cell? ⟨tb, 2, none⟩ = some (.int .i64 z3) := (hk.cell (p := ⟨tb, 2, none⟩) (by show tb < _; omega)).trans c23_2
          have c24_3 : V24.cell? ⟨tb, 3, none⟩ = some (.int .i64 z4) := (hk.cell (p := ⟨tb, 3, none⟩) (by show tb < _; omega)).trans c23_3
          have c24_4 : V24.cell? ⟨tb, 4, none⟩ = some (.int .i64 z5) := (hk.cell (p := ⟨tb, 4, none⟩) (by show tb < _; omega)).trans c23_4
          have b24_0 : tb < V24.heap.size := by omega
          have R24_0 := hid (FreshA.below (cf := cBer) (sz := 5) (T := 48) (B := V16.heap.size) R23_0.out hk)
          have R24_1 := hid (FreshA.below (cf := cBer) (sz := 5) (T := 48) (B := V18.heap.size) R23_1.out hk)
          have hw24 : Below w.heap.size w V24 := Below.trans hw (Below.mono hk (by have := hw.size; omega))
          clear hw hk
          have hw := hw24
          clear hw24
          have hwz := hw.size
          clear c23_0 c23_1 c23_2 c23_3 c23_4 R23_0 R23_1
          clear hV
          refine (c_impl_CellHours q2 Bf ys bf _ R24_0.out.rds (by omega) (by omega) (by omega)).mono ?_
          simp only [HX.out]
          rintro e W25 ⟨rfl, hb⟩
          have hk : Below V24.heap.size V24 W25 := hb
          have hkz25 := hk.size
          have c25_0 : W25.cell? ⟨tb, 0, none⟩ = some (.int .i64 z1) := (hb.cell (p := ⟨tb, 0, none⟩) (by show tb < _; omega)).trans c24_0
          have c25_1 : W25.cell? ⟨tb, 1, none⟩ = some (.int .i64 z2) := (hb.cell (p := ⟨tb, 1, none⟩) (by show tb < _; omega)).trans c24_1
          have c25_2 : W25.cell? ⟨tb, 2, none⟩ = some (.int .i64 z3) := (hb.cell (p := ⟨tb, 2, none⟩) (by show tb < _; omega)).trans c24_2
          have c25_3 : W25.cell? ⟨tb, 3, none⟩ = some (.int .i64 z4) := (hb.cell (p := ⟨tb, 3, none⟩) (by show tb < _; omega)).trans c24_3
          have c25_4 : W25.cell? ⟨tb, 4, none⟩ = some (.int .i64 z5) := (hb.cell (p := ⟨tb, 4, none⟩) (by show tb < _; omega)).trans c24_4
          have b25_0 : tb < W25.heap.size := by omega
          have R25_0 := hid (FreshA.below (cf := cBer) (sz := 5) (T := 48) (B := V16.heap.size) R24_0.out hk)
          have R25_1 := hid (FreshA.below (cf := cBer) (sz := 5) (T := 48) (B := V18.heap.size) R24_1.out hk)
          have hw25 : Below w.heap.size w W25 := Below.trans hw (Below.mono hk (by have := hw.size; omega))
          clear hw hk
          have hw := hw25
          clear hw25
          have hwz := hw.size
          clear c24_0 c24_1 c24_2 c24_3 c24_4 R24_0 R24_1
          clear hb
          go_wp2_with (fail)
          refine calls_named ?_
          intro V26 hV
          have hk : Below W25.heap.size W25 V26 := by rw [hV]; (repeat' (first | with_reducible exact Below.refl _ _ | with_reducible assumption | with_reducible refine Below.setCell ?_ ?_ _ | with_reducible refine Below.drew ?_ | with_reducible refine Below.alloc ?_ ?_ _ | with_reducible refine Below.trans ?_ (Below.mono (by assumption) ?_) | (dsimp only; omega) | (simp; done) | (simp; omega) | omega))
          have hkz26 := hk.size
          have c26_0 : V26.cell? ⟨tb, 0, none⟩ = some (.int .i64 z1) := (hk.cell (p := ⟨tb, 0, none⟩) (by show tb < _; omega)).trans c25_0
          have c26_1 : V26.cell? ⟨tb, 1, none⟩ = some (.int .i64 z2) := (hk.cell (p := ⟨tb, 1, none⟩) (by show tb < _; omega)).trans c25_1
          have c26_2 : V26.cell? ⟨tb, 2, none⟩ = some (.int .i64 z3) := (hk.cell (p := ⟨tb, 2, none⟩) (by show tb < _; omega)).trans c25_2
          have c26_3 : V26.cell? ⟨tb, 3, none⟩ = some (.int .i64 z4) := (hk.cell (p := ⟨tb, 3, none⟩) (by show tb < _; omega)).trans c25_3
          have c26_4 : V26.cell? ⟨tb, 4, none⟩ = some (.int .i64 z5) := (hk.cell (p := ⟨tb, 4, none⟩) (by show tb < _; omega)).trans c25_4
          have b26_0 : tb < V26.heap.size := by omega
          have R26_0 := hid (FreshA.below (cf := cBer) (sz := 5) (T := 48) (B := V16.heap.size) R25_0.out hk)
          have R26_1 := hid (FreshA.below (cf := cBer) (sz := 5) (T := 48) (B := V18.heap.size) R25_1.out hk)
          have hw26 : Below w.heap.size w V26 := Below.trans hw (Below.mono hk (by have := hw.size; omega))
          clear hw hk
          have hw := hw26
          clear hw26
          have hwz := hw.size
          clear c25_0 c25_1 c25_2 c25_3 c25_4 R25_0 R25_1
          clear hV
          refine (c_impl_CellHours q2 A8 L c8 _ R26_1.out.rds (by omega) (by omega) (by omega)).mono ?_
          simp only [HY.out]
          rintro e W27 ⟨rfl, hb⟩
          have hk : Below V26.heap.size V26 W27 := hb
          have hkz27 := hk.size
          have c27_0 : W27.cell? ⟨tb, 0, none⟩ = some (.int .i64 z1) := (hb.cell (p := ⟨tb, 0, none⟩) (by show tb < _; omega)).trans c26_0
          have c27_1 : W27.cell? ⟨tb, 1, none⟩ = some (.int .i64 z2) := (hb.cell (p := ⟨tb, 1, none⟩) (by show tb < _; omega)).trans c26_1
          have c27_2 : W27.cell? ⟨tb, 2, none⟩ = some (.int .i64 z3) := (hb.cell (p := ⟨tb, 2, none⟩) (by show tb < _; omega)).trans c26_2
          have c27_3 : W27.cell? ⟨tb, 3, none⟩ = some (.int .i64 z4) := (hb.cell (p := ⟨tb, 3, none⟩) (by show tb < _; omega)).trans c26_3
          have c27_4 : W27.cell? ⟨tb, 4, none⟩ = some (.int .i64 z5) := (hb.cell (p := ⟨tb, 4, none⟩) (by show tb < _; omega)).trans c26_4
          have b27_0 : tb < W27.heap.size := by omega
          have R27_0 := hid (FreshA.below (cf := cBer) (sz := 5) (T := 48) (B := V16.heap.size) R26_0.out hk)
          have R27_1 := hid (FreshA.below (cf := cBer) (sz := 5) (T := 48) (B := V18.heap.size) R26_1.out hk)
          have hw27 : Below w.heap.size w W27 := Below.trans hw (Below.mono hk (by have := hw.size; omega))
          clear hw hk
          have hw := hw27
          clear hw27
          have hwz := hw.size
          clear c26_0 c26_1 c26_2 c26_3 c26_4 R26_0 R26_1
          clear hb
          go_wp2_with (fail)
          refine calls_named ?_
          intro V28 hV
          have hk : Below W27.heap.size W27 V28 := by rw [hV]; (repeat' (first | with_reducible exact Below.refl _ _ | with_reducible assumption | with_reducible refine Below.setCell ?_ ?_ _ | with_reducible refine Below.drew ?_ | with_reducible refine Below.alloc ?_ ?_ _ | with_reducible refine Below.trans ?_ (Below.mono (by assumption) ?_) | (dsimp only; omega) | (simp; done) | (simp; omega) | omega))
          have hkz28 := hk.size
          have c28_0 : V28.cell? ⟨tb, 0, none⟩ = some (.int .i64 z1) := (hk.cell (p := ⟨tb, 0, none⟩) (by show tb < _; omega)).trans c27_0
          have c28_1 : V28.cell? ⟨tb, 1, none⟩ = some (.int .i64 z2) := (hk.cell (p := ⟨tb, 1, none⟩) (by show tb < _; omega)).trans c27_1
          have c28_2 : V28.cell? ⟨tb, 2, none⟩ = some (.int .i64 z3) := (hk.cell (p := ⟨tb, 2, none⟩) (by show tb < _; omega)).trans c27_2
          have c28_3 : V28.cell? ⟨tb, 3, none⟩ = some (.int .i64 z4) := (hk.cell (p := ⟨tb, 3, none⟩) (by show tb < _; omega)).trans c27_3
          have c28_4 : V28.cell? ⟨tb, 4, none⟩ = some (.int .i64 z5) := (hk.cell (p := ⟨tb, 4, none⟩) (by show tb < _; omega)).trans c27_4
          have b28_0 : tb < V28.heap.size := by omega
          have R28_0 := hid (FreshA.below (cf := cBer) (sz := 5) (T := 48) (B := V16.heap.size) R27_0.out hk)
          have R28_1 := hid (FreshA.below (cf := cBer) (sz := 5) (T := 48) (B := V18.heap.size) R27_1.out hk)
          have hw28 : Below w.heap.size w V28 := Below.trans hw (Below.mono hk (by have := hw.size; omega))
          clear hw hk
          have hw := hw28
          clear hw28
          have hwz := hw.size
          clear c27_0 c27_1 c27_2 c27_3 c27_4 R27_0 R27_1
          clear hV
          refine (c_impl_LeaveEarly q2 A8 L c8 z1 (z4 + 1) _ R28_1.out.rds (by omega) (by omega) (by omega)).mono ?_
          simp only [HE.out]
          rintro e W29 ⟨F8, f8, rfl, hG, hb⟩
          have hk : Below V28.heap.size V28 W29 := hb
          have hkz29 := hk.size
          have c29_0 : W29.cell? ⟨tb, 0, none⟩ = some (.int .i64 z1) := (hb.cell (p := ⟨tb, 0, none⟩) (by show tb < _; omega)).trans c28_0
          have c29_1 : W29.cell? ⟨tb, 1, none⟩ = some (.int .i64 z2) := (hb.cell (p := ⟨tb, 1, none⟩) (by show tb < _; omega)).trans c28_1
          have c29_2 : W29.cell? ⟨tb, 2, none⟩ = some (.int .i64 z3) := (hb.cell (p := ⟨tb, 2, none⟩) (by show tb < _; omega)).trans c28_2
          have c29_3 : W29.cell? ⟨tb, 3, none⟩ = some (.int .i64 z4) := (hb.cell (p := ⟨tb, 3, none⟩) (by show tb < _; omega)).trans c28_3
          have c29_4 : W29.cell? ⟨tb, 4, none⟩ = some (.int .i64 z5) := (hb.cell (p := ⟨tb, 4, none⟩) (by show tb < _; omega)).trans c28_4
          have b29_0 : tb < W29.heap.size := by omega
          have R29_0 := hid (FreshA.below (cf := cBer) (sz := 5) (T := 48) (B := V16.heap.size) R28_0.out hk)
          have R29_1 := hid (FreshA.below (cf := cBer) (sz := 5) (T := 48) (B := V18.heap.size) R28_1.out hk)
          have hw29 : Below w.heap.size w W29 := Below.trans hw (Below.mono hk (by have := hw.size; omega))
          clear hw hk
          have hw := hw29
          clear hw29
          have hwz := hw.size
          clear c28_0 c28_1 c28_2 c28_3 c28_4 R28_0 R28_1
          clear hb
          clear hG
          (go_wp2_with (fail); go_meet; exact hw)
        obtain ⟨E, hE, hEL⟩ := HES.out hz
        have HE := hid hE; have HEL := hid hEL; clear hE hEL
        clear HES HNO
        go_wp2_with (fail)
        refine calls_named ?_
        intro V24 hV
        have hk : Below W23.heap.size W23 V24 := by rw [hV]; (repeat' (first | with_reducible exact Below.refl _ _ | with_reducible assumption | with_reducible refine Below.setCell ?_ ?_ _ | with_reducible refine Below.drew ?_ | with_reducible refine Below.alloc ?_ ?_ _ | with_reducible refine Below.trans ?_ (Below.mono (by assumption) ?_) | (dsimp only; omega) | (simp; done) | (simp; omega) | omega))
        have hkz24 := hk.size
        have c24_0 : V24.cell? ⟨tb, 0, none⟩ = some (.int .i64 z1) := (hk.cell (p := ⟨tb, 0, none⟩) (by show tb < _; omega)).trans c23_0
        have c24_1 : V24.cell? ⟨tb, 1, none⟩ = some (.int .i64 z2) := (hk.cell (p := ⟨tb, 1, none⟩) (by show tb < _; omega)).trans c23_1
        have c24_2 : V24.cell? ⟨tb, 2, none⟩ = some (.int .i64 z3) := (hk.cell (p := ⟨tb, 2, none⟩) (by show tb < _; omega)).trans c23_2
        have c24_3 : V24.cell? ⟨tb, 3, none⟩ = some (.int .i64 z4) := (hk.cell (p := ⟨tb, 3, none⟩) (by show tb < _; omega)).trans c23_3
        have c24_4 : V24.cell? ⟨tb, 4, none⟩ = some (.int .i64 z5) := (hk.cell (p := ⟨tb, 4, none⟩) (by show tb < _; omega)).trans c23_4
        have b24_0 : tb < V24.heap.size := by omega
        have R24_0 := hid (FreshA.below (cf := cBer) (sz := 5) (T := 48) (B := V16.heap.size) R23_0.out hk)
        have R24_1 := hid (FreshA.below (cf := cBer) (sz := 5) (T := 48) (B := V18.heap.size) R23_1.out hk)
        have hw24 : Below w.heap.size w V24 := Below.trans hw (Below.mono hk (by have := hw.size; omega))
        clear hw hk
        have hw := hw24
        clear hw24
        have hwz := hw.size
        clear c23_0 c23_1 c23_2 c23_3 c23_4 R23_0 R23_1
        clear hV
        refine (c_impl_CellHours q2 Bf ys bf _ R24_0.out.rds (by omega) (by omega) (by omega)).mono ?_
        simp only [HX.out]
        rintro e W25 ⟨rfl, hb⟩
        have hk : Below V24.heap.size V24 W25 := hb
        have hkz25 := hk.size
        have c25_0 : W25.cell? ⟨tb, 0, none⟩ = some (.int .i64 z1) := (hb.cell (p := ⟨tb, 0, none⟩) (by show tb < _; omega)).trans c24_0
        have c25_1 : W25.cell? ⟨tb, 1, none⟩ = some (.int .i64 z2) := (hb.cell (p := ⟨tb, 1, none⟩) (by show tb < _; omega)).trans c24_1
        have c25_2 : W25.cell? ⟨tb, 2, none⟩ = some (.int .i64 z3) := (hb.cell (p := ⟨tb, 2, none⟩) (by show tb < _; omega)).trans c24_2
        have c25_3 : W25.cell? ⟨tb, 3, none⟩ = some (.int .i64 z4) := (hb.cell (p := ⟨tb, 3, none⟩) (by show tb < _; omega)).trans c24_3
        have c25_4 : W25.cell? ⟨tb, 4, none⟩ = some (.int .i64 z5) := (hb.cell (p := ⟨tb, 4, none⟩) (by show tb < _; omega)).trans c24_4
        have b25_0 : tb < W25.heap.size := by omega
        have R25_0 := hid (FreshA.below (cf := cBer) (sz := 5) (T := 48) (B := V16.heap.size) R24_0.out hk)
        have R25_1 := hid (FreshA.below (cf := cBer) (sz := 5) (T := 48) (B := V18.heap.size) R24_1.out hk)
        have hw25 : Below w.heap.size w W25 := Below.trans hw (Below.mono hk (by have := hw.size; omega))
        clear hw hk
        have hw := hw25
        clear hw25
        have hwz := hw.size
        clear c24_0 c24_1 c24_2 c24_3 c24_4 R24_0 R24_1
        clear hb
        go_wp2_with (fail)
        refine calls_named ?_
        intro V26 hV
        have hk : Below W25.heap.size W25 V26 := by rw [hV]; (repeat' (first | with_reducible exact Below.refl _ _ | with_reducible assumption | with_reducible refine Below.setCell ?_ ?_ _ | with_reducible refine Below.drew ?_ | with_reducible refine Below.alloc ?_ ?_ _ | with_reducible refine Below.trans ?_ (Below.mono (by assumption) ?_) | (dsimp only; omega) | (simp; done) | (simp; omega) | omega))
        have hkz26 := hk.size
        have c26_0 : V26.cell? ⟨tb, 0, none⟩ = some (.int .i64 z1) := (hk.cell (p := ⟨tb, 0, none⟩) (by show tb < _; omega)).trans c25_0
        have c26_1 : V26.cell? ⟨tb, 1, none⟩ = some (.int .i64 z2) := (hk.cell (p := ⟨tb, 1, none⟩) (by show tb < _; omega)).trans c25_1
        have c26_2 : V26.cell? ⟨tb, 2, none⟩ = some (.int .i64 z3) := (hk.cell (p := ⟨tb, 2, none⟩) (by show tb < _; omega)).trans c25_2
        have c26_3 : V26.cell? ⟨tb, 3, none⟩ = some (.int .i64 z4) := (hk.cell (p := ⟨tb, 3, none⟩) (by show tb < _; omega)).trans c25_3
        have c26_4 : V26.cell? ⟨tb, 4, none⟩ = some (.int .i64 z5) := (hk.cell (p := ⟨tb, 4, none⟩) (by show tb < _; omega)).trans c25_4
        have b26_0 : tb < V26.heap.size := by omega
        have R26_0 := hid (FreshA.below (cf := cBer) (sz := 5) (T := 48) (B := V16.heap.size) R25_0.out hk)
        have R26_1 := hid (FreshA.below (cf := cBer) (sz := 5) (T := 48) (B := V18.heap.size) R25_1.out hk)
        have hw26 : Below w.heap.size w V26 := Below.trans hw (Below.mono hk (by have := hw.size; omega))
        clear hw hk
        have hw := hw26
        clear hw26
        have hwz := hw.size
        clear c25_0 c25_1 c25_2 c25_3 c25_4 R25_0 R25_1
        clear hV
        refine (c_impl_CellHours q2 A8 L c8 _ R26_1.out.rds (by omega) (by omega) (by omega)).mono ?_
        simp only [HY.out]
        rintro e W27 ⟨rfl, hb⟩
        have hk : Below V26.heap.size V26 W27 := hb
        have hkz27 := hk.size
        have c27_0 : W27.cell? ⟨tb, 0, none⟩ = some (.int .i64 z1) := (hb.cell (p := ⟨tb, 0, none⟩) (by show tb < _; omega)).trans c26_0
        have c27_1 : W27.cell? ⟨tb, 1, none⟩ = some (.int .i64 z2) := (hb.cell (p := ⟨tb, 1, none⟩) (by show tb < _; omega)).trans c26_1
        have c27_2 : W27.cell? ⟨tb, 2, none⟩ = some (.int .i64 z3) := (hb.cell (p := ⟨tb, 2, none⟩) (by show tb < _; omega)).trans c26_2
        have c27_3 : W27.cell? ⟨tb, 3, none⟩ = some (.int .i64 z4) := (hb.cell (p := ⟨tb, 3, none⟩) (by show tb < _; omega)).trans c26_3
        have c27_4 : W27.cell? ⟨tb, 4, none⟩ = some (.int .i64 z5) := (hb.cell (p := ⟨tb, 4, none⟩) (by show tb < _; omega)).trans c26_4
        have b27_0 : tb < W27.heap.size := by omega
        have R27_0 := hid (FreshA.below (cf := cBer) (sz := 5) (T := 48) (B := V16.heap.size) R26_0.out hk)
        have R27_1 := hid (FreshA.below (cf := cBer) (sz := 5) (T := 48) (B := V18.heap.size) R26_1.out hk)
        have hw27 : Below w.heap.size w W27 := Below.trans hw (Below.mono hk (by have := hw.size; omega))
        clear hw hk
        have hw := hw27
        clear hw27
        have hwz := hw.size
        clear c26_0 c26_1 c26_2 c26_3 c26_4 R26_0 R26_1
        clear hb
        go_wp2_with (fail)
        refine calls_named ?_
        intro V28 hV
        have hk : Below W27.heap.size W27 V28 := by rw [hV]; (repeat' (first | with_reducible exact Below.refl _ _ | with_reducible assumption | with_reducible refine Below.setCell ?_ ?_ _ | with_reducible refine Below.drew ?_ | with_reducible refine Below.alloc ?_ ?_ _ | with_reducible refine Below.trans ?_ (Below.mono (by assumption) ?_) | (dsimp only; omega) | (simp; done) | (simp; omega) | omega))
        have hkz28 := hk.size
        have c28_0 : V28.cell? ⟨tb, 0, none⟩ = some (.int .i64 z1) := (hk.cell (p := ⟨tb, 0, none⟩) (by show tb < _; omega)).trans c27_0
        have c28_1 : V28.cell? ⟨tb, 1, none⟩ = some (.int .i64 z2) := (hk.cell (p := ⟨tb, 1, none⟩) (by show tb < _; omega)).trans c27_1
        have c28_2 : V28.cell? ⟨tb, 2, none⟩ = some (.int .i64 z3) := (hk.cell (p := ⟨tb, 2, none⟩) (by show tb < _; omega)).trans c27_2
        have c28_3 : V28.cell? ⟨tb, 3, none⟩ = some (.int .i64 z4) := (hk.cell (p := ⟨tb, 3, none⟩) (by show tb < _; omega)).trans c27_3
        have c28_4 : V28.cell? ⟨tb, 4, none⟩ = some (.int .i64 z5) := (hk.cell (p := ⟨tb, 4, none⟩) (by show tb < _; omega)).trans c27_4
        have b28_0 : tb < V28.heap.size := by omega
        have R28_0 := hid (FreshA.below (cf := cBer) (sz := 5) (T := 48) (B := V16.heap.size) R27_0.out hk)
        have R28_1 := hid (FreshA.below (cf := cBer) (sz := 5) (T := 48) (B := V18.heap.size) R27_1.out hk)
        have hw28 : Below w.heap.size w V28 := Below.trans hw (Below.mono hk (by have := hw.size; omega))
        clear hw hk
        have hw := hw28
        clear hw28
        have hwz := hw.size
        clear c27_0 c27_1 c27_2 c27_3 c27_4 R27_0 R27_1
        clear hV
        refine (c_impl_LeaveEarly q2 A8 L c8 z1 (z4 + 1) _ R28_1.out.rds (by omega) (by omega) (by omega)).mono ?_
        simp only [HE.out]; simp only [HEL.out]
        rintro e W29 ⟨F8, f8, rfl, hG, hb⟩
        have hk : Below V28.heap.size V28 W29 := hb
        have hkz29 := hk.size
        have c29_0 : W29.cell? ⟨tb, 0, none⟩ = some (.int .i64 z1) := (hb.cell (p := ⟨tb, 0, none⟩) (by show tb < _; omega)).trans c28_0
        have c29_1 : W29.cell? ⟨tb, 1, none⟩ = some (.int .i64 z2) := (hb.cell (p := ⟨tb, 1, none⟩) (by show tb < _; omega)).trans c28_1
        have c29_2 : W29.cell? ⟨tb, 2, none⟩ = some (.int .i64 z3) := (hb.cell (p := ⟨tb, 2, none⟩) (by show tb < _; omega)).trans c28_2
        have c29_3 : W29.cell? ⟨tb, 3, none⟩ = some (.int .i64 z4) := (hb.cell (p := ⟨tb, 3, none⟩) (by show tb < _; omega)).trans c28_3
        have c29_4 : W29.cell? ⟨tb, 4, none⟩ = some (.int .i64 z5) := (hb.cell (p := ⟨tb, 4, none⟩) (by show tb < _; omega)).trans c28_4
        have b29_0 : tb < W29.heap.size := by omega
        have R29_0 := hid (FreshA.below (cf := cBer) (sz := 5) (T := 48) (B := V16.heap.size) R28_0.out hk)
        have R29_1 := hid (FreshA.below (cf := cBer) (sz := 5) (T := 48) (B := V18.heap.size) R28_1.out hk)
        have hw29 : Below w.heap.size w W29 := Below.trans hw (Below.mono hk (by have := hw.size; omega))
        clear hw hk
        have hw := hw29
        clear hw29
        have hwz := hw.size
        clear c28_0 c28_1 c28_2 c28_3 c28_4 R28_0 R28_1
        clear hb
        clear hG
        (go_wp2_with (fail); go_meet; exact hw)
    case rest =>
    clear c23_0
    clear c23_1
    clear c23_2
    clear c23_3
    clear c23_4
    clear R23_0
    clear R23_1
    clear hw
    have hw := hcut; clear hcut; generalize wc = wq24 at *
    have hwz := hw.size
    as_aux_lemma =>
      go_wp2_with (fail)
      refine calls_named ?_
      intro V25 hV
      have hk : Below wq24.heap.size wq24 V25 := by rw [hV]; (repeat' (first | with_reducible exact Below.refl _ _ | with_reducible assumption | with_reducible refine Below.setCell ?_ ?_ _ | with_reducible refine Below.drew ?_ | with_reducible refine Below.alloc ?_ ?_ _ | with_reducible refine Below.trans ?_ (Below.mono (by assumption) ?_) | (dsimp only; omega) | (simp; done) | (simp; omega) | omega))
      have hkz25 := hk.size
      have hw25 : Below w.heap.size w V25 := Below.trans hw (Below.mono hk (by have := hw.size; omega))
      clear hw hk
      have hw := hw25
      clear hw25
      have hwz := hw.size
      clear hV
      refine (c_spec_DrawLeaveEarly A cs cap _ (Rds.below hr hw) hby (by omega)).mono ?_
      rintro e W26 ⟨q3, Cf, df, zs, i3, a3, rfl, hFf, hzl, hb⟩
      have hk : Below V25.heap.size V25 W26 := hb
      have hkz26 := hk.size
      have hw26 : Below w.heap.size w W26 := Below.trans hw (Below.mono hk (by have := hw.size; omega))
      clear hw hk
      have hw := hw26
      clear hw26
      have hwz := hw.size
      clear hb
      have S26_0 : Hid (FreshA cBer 5 48 V25.heap.size W26 Cf df zs) := hid (hFf)
      have loS26_0 := S26_0.out.lo
      have hiS26_0 := S26_0.out.hi
      clear hFf
      have hcaCf := (S26_0.out).capLe; have hmaCf := (S26_0.out).capMax; unfold maxLen at hmaCf
      obtain ⟨E, known, hLE⟩ : ∃ E known, leaveV q3 zs i3 a3 = (E, known) := ⟨_, _, rfl⟩
      have hEl := leaveV_len q3 zs i3 a3
      rw [hLE] at hEl
      simp only at hEl
      have HLE := hid hLE; clear hLE
      go_wp2_with (fail)
      refine calls_named ?_
      intro V27 hV
      have hk : Below W26.heap.size W26 V27 := by rw [hV]; (repeat' (first | with_reducible exact Below.refl _ _ | with_reducible assumption | with_reducible refine Below.setCell ?_ ?_ _ | with_reducible refine Below.drew ?_ | with_reducible refine Below.alloc ?_ ?_ _ | with_reducible refine Below.trans ?_ (Below.mono (by assumption) ?_) | (dsimp only; omega) | (simp; done) | (simp; omega) | omega))
      have hkz27 := hk.size
      have R27_0 := hid (FreshA.below (cf := cBer) (sz := 5) (T := 48) (B := V25.heap.size) S26_0.out hk)
      have hw27 : Below w.heap.size w V27 := Below.trans hw (Below.mono hk (by have := hw.size; omega))
      clear hw hk
      have hw := hw27
      clear hw27
      have hwz := hw.size
      clear S26_0
      clear hV
      refine (c_impl_LeaveEarly q3 Cf zs df i3 a3 _ R27_0.out.rds (by omega) (by omega) (by omega)).mono ?_
      simp only [HLE.out]
      rintro e W28 ⟨A8, c8, rfl, hG, hb⟩
      have hk : Below V27.heap.size V27 W28 := hb
      have hkz28 := hk.size
      have R28_0 := hid (FreshA.below (cf := cBer) (sz := 5) (T := 48) (B := V25.heap.size) R27_0.out hk)
      have hw28 : Below w.heap.size w W28 := Below.trans hw (Below.mono hk (by have := hw.size; omega))
      clear hw hk
      have hw := hw28
      clear hw28
      have hwz := hw.size
      clear R27_0
      clear hb
      have S28_1 : Hid (FreshA cBer 5 48 V27.heap.size W28 A8 c8 E) := hid (hG)
      have loS28_1 := S28_1.out.lo
      have hiS28_1 := S28_1.out.hi
      clear hG
      have hca8 := (S28_1.out).capLe; have hma8 := (S28_1.out).capMax; unfold maxLen at hma8
      go_wp2_with (fail)
      refine calls_named ?_
      intro V29 hV
      have hk : Below W28.heap.size W28 V29 := by rw [hV]; (repeat' (first | with_reducible exact Below.refl _ _ | with_reducible assumption | with_reducible refine Below.setCell ?_ ?_ _ | with_reducible refine Below.drew ?_ | with_reducible refine Below.alloc ?_ ?_ _ | with_reducible refine Below.trans ?_ (Below.mono (by assumption) ?_) | (dsimp only; omega) | (simp; done) | (simp; omega) | omega))
      have hkz29 := hk.size
      have R29_0 := hid (FreshA.below (cf := cBer) (sz := 5) (T := 48) (B := V25.heap.size) R28_0.out hk)
      have R29_1 := hid (FreshA.below (cf := cBer) (sz := 5) (T := 48) (B := V27.heap.size) S28_1.out hk)
      have hw29 : Below w.heap.size w V29 := Below.trans hw (Below.mono hk (by have := hw.size; omega))
      clear hw hk
      have hw := hw29
      clear hw29
      have hwz := hw.size
      clear R28_0 S28_1
      clear hV
      refine (c_spec_LeaveEarly q3 Cf zs df i3 a3 _ R29_0.out.rds (by omega)).mono ?_
      simp only [HLE.out]
      rintro e W30 ⟨E8, e8, rfl, hG, hb⟩
      have hk : Below V29.heap.size V29 W30 := hb
      have hkz30 := hk.size
      have R30_0 := hid (FreshA.below (cf := cBer) (sz := 5) (T := 48) (B := V25.heap.size) R29_0.out hk)
      have R30_1 := hid (FreshA.below (cf := cBer) (sz := 5) (T := 48) (B := V27.heap.size) R29_1.out hk)
      have hw30 : Below w.heap.size w W30 := Below.trans hw (Below.mono hk (by have := hw.size; omega))
      clear hw hk
      have hw := hw30
      clear hw30
      have hwz := hw.size
      clear R29_0 R29_1
      clear hb
      have S30_2 : Hid (FreshA cBer 5 48 V29.heap.size W30 E8 e8 E) := hid (hG)
      have loS30_2 := S30_2.out.lo
      have hiS30_2 := S30_2.out.hi
      clear hG
      go_wp2_with (fail)
      refine calls_named ?_
      intro V31 hV
      have hk : Below W30.heap.size W30 V31 := by rw [hV]; (repeat' (first | with_reducible exact Below.refl _ _ | with_reducible assumption | with_reducible refine Below.setCell ?_ ?_ _ | with_reducible refine Below.drew ?_ | with_reducible refine Below.alloc ?_ ?_ _ | with_reducible refine Below.trans ?_ (Below.mono (by assumption) ?_) | (dsimp only; omega) | (simp; done) | (simp; omega) | omega))
      have hkz31 := hk.size
      have R31_0 := hid (FreshA.below (cf := cBer) (sz := 5) (T := 48) (B := V25.heap.size) R30_0.out hk)
      have R31_1 := hid (FreshA.below (cf := cBer) (sz := 5) (T := 48) (B := V27.heap.size) R30_1.out hk)
      have R31_2 := hid (FreshA.below (cf := cBer) (sz := 5) (T := 48) (B := V29.heap.size) S30_2.out hk)
      have hw31 : Below w.heap.size w V31 := Below.trans hw (Below.mono hk (by have := hw.size; omega))
      clear hw hk
      have hw := hw31
      clear hw31
      have hwz := hw.size
      clear R30_0 R30_1 S30_2
      clear hV
      refine (c_laws_rBerths A8 E8 E c8 e8 _ R31_1.out.rds R31_2.out.rds (by omega)).mono ?_
      rintro e W32 ⟨rfl, hb⟩
      have hk : Below V31.heap.size V31 W32 := hb
      have hkz32 := hk.size
      have R32_0 := hid (FreshA.below (cf := cBer) (sz := 5) (T := 48) (B := V25.heap.size) R31_0.out hk)
      have R32_1 := hid (FreshA.below (cf := cBer) (sz := 5) (T := 48) (B := V27.heap.size) R31_1.out hk)
      have R32_2 := hid (FreshA.below (cf := cBer) (sz := 5) (T := 48) (B := V29.heap.size) R31_2.out hk)
      have hw32 : Below w.heap.size w W32 := Below.trans hw (Below.mono hk (by have := hw.size; omega))
      clear hw hk
      have hw := hw32
      clear hw32
      have hwz := hw.size
      clear R31_0 R31_1 R31_2
      clear hb
      clear R32_0
      clear R32_2
      cases known
      · clear R32_1
        go_wp2_with (fail)
        refine calls_named ?_
        intro V33 hV
        have hk : Below W32.heap.size W32 V33 := by rw [hV]; (repeat' (first | with_reducible exact Below.refl _ _ | with_reducible assumption | with_reducible refine Below.setCell ?_ ?_ _ | with_reducible refine Below.drew ?_ | with_reducible refine Below.alloc ?_ ?_ _ | with_reducible refine Below.trans ?_ (Below.mono (by assumption) ?_) | (dsimp only; omega) | (simp; done) | (simp; omega) | omega))
        have hkz33 := hk.size
        have hw33 : Below w.heap.size w V33 := Below.trans hw (Below.mono hk (by have := hw.size; omega))
        clear hw hk
        have hw := hw33
        clear hw33
        have hwz := hw.size
        clear hV
        refine (c_spec_DrawCellHours A cs cap _ (Rds.below hr hw) hby (by omega)).mono ?_
        rintro e W34 ⟨q4, Df, ff, us, rfl, hFf, hul, hb⟩
        have hk : Below V33.heap.size V33 W34 := hb
        have hkz34 := hk.size
        have hw34 : Below w.heap.size w W34 := Below.trans hw (Below.mono hk (by have := hw.size; omega))
        clear hw hk
        have hw := hw34
        clear hw34
        have hwz := hw.size
        clear hb
        have S34_0 : Hid (FreshA cBer 5 48 V33.heap.size W34 Df ff us) := hid (hFf)
        have loS34_0 := S34_0.out.lo
        have hiS34_0 := S34_0.out.hi
        clear hFf
        have hcaDf := (S34_0.out).capLe; have hmaDf := (S34_0.out).capMax; unfold maxLen at hmaDf
        obtain ⟨n4, good, hHO⟩ : ∃ n4 good, hoursV q4 us = (n4, good) := ⟨_, _, rfl⟩
        have HHO := hid hHO; clear hHO
        go_wp2_with (fail)
        refine calls_named ?_
        intro V35 hV
        have hk : Below W34.heap.size W34 V35 := by rw [hV]; (repeat' (first | with_reducible exact Below.refl _ _ | with_reducible assumption | with_reducible refine Below.setCell ?_ ?_ _ | with_reducible refine Below.drew ?_ | with_reducible refine Below.alloc ?_ ?_ _ | with_reducible refine Below.trans ?_ (Below.mono (by assumption) ?_) | (dsimp only; omega) | (simp; done) | (simp; omega) | omega))
        have hkz35 := hk.size
        have R35_0 := hid (FreshA.below (cf := cBer) (sz := 5) (T := 48) (B := V33.heap.size) S34_0.out hk)
        have hw35 : Below w.heap.size w V35 := Below.trans hw (Below.mono hk (by have := hw.size; omega))
        clear hw hk
        have hw := hw35
        clear hw35
        have hwz := hw.size
        clear S34_0
        clear hV
        refine (c_impl_CellHours q4 Df us ff _ R35_0.out.rds (by omega) (by omega) (by omega)).mono ?_
        simp only [HHO.out]
        rintro e W36 ⟨rfl, hb⟩
        have hk : Below V35.heap.size V35 W36 := hb
        have hkz36 := hk.size
        have R36_0 := hid (FreshA.below (cf := cBer) (sz := 5) (T := 48) (B := V33.heap.size) R35_0.out hk)
        have hw36 : Below w.heap.size w W36 := Below.trans hw (Below.mono hk (by have := hw.size; omega))
        clear hw hk
        have hw := hw36
        clear hw36
        have hwz := hw.size
        clear R35_0
        clear hb
        go_wp2_with (fail)
        refine calls_named ?_
        intro V37 hV
        have hk : Below W36.heap.size W36 V37 := by rw [hV]; (repeat' (first | with_reducible exact Below.refl _ _ | with_reducible assumption | with_reducible refine Below.setCell ?_ ?_ _ | with_reducible refine Below.drew ?_ | with_reducible refine Below.alloc ?_ ?_ _ | with_reducible refine Below.trans ?_ (Below.mono (by assumption) ?_) | (dsimp only; omega) | (simp; done) | (simp; omega) | omega))
        have hkz37 := hk.size
        have R37_0 := hid (FreshA.below (cf := cBer) (sz := 5) (T := 48) (B := V33.heap.size) R36_0.out hk)
        have hw37 : Below w.heap.size w V37 := Below.trans hw (Below.mono hk (by have := hw.size; omega))
        clear hw hk
        have hw := hw37
        clear hw37
        have hwz := hw.size
        clear R36_0
        clear hV
        refine (c_spec_CellHours q4 Df us ff _ R37_0.out.rds (by omega)).mono ?_
        simp only [HHO.out]
        rintro e W38 ⟨rfl, hb⟩
        have hk : Below V37.heap.size V37 W38 := hb
        have hkz38 := hk.size
        have R38_0 := hid (FreshA.below (cf := cBer) (sz := 5) (T := 48) (B := V33.heap.size) R37_0.out hk)
        have hw38 : Below w.heap.size w W38 := Below.trans hw (Below.mono hk (by have := hw.size; omega))
        clear hw hk
        have hw := hw38
        clear hw38
        have hwz := hw.size
        clear R37_0
        clear hb
        go_wp2_with (fail)
        go_ret
        exact ⟨by first | rfl | exact ret_bool (by simp), by first | exact hw | (repeat' (first | with_reducible exact Below.refl _ _ | with_reducible assumption | with_reducible refine Below.setCell ?_ ?_ _ | with_reducible refine Below.drew ?_ | with_reducible refine Below.alloc ?_ ?_ _ | with_reducible refine Below.trans ?_ (Below.mono (by assumption) ?_) | (dsimp only; omega) | (simp; done) | (simp; omega) | omega))⟩
      have HBE := hid (bs_leave HLE.out)
      go_wp2_with (fail)
      refine calls_named ?_
      intro V33 hV
      have hk : Below W32.heap.size W32 V33 := by rw [hV]; (repeat' (first | with_reducible exact Below.refl _ _ | with_reducible assumption | with_reducible refine Below.setCell ?_ ?_ _ | with_reducible refine Below.drew ?_ | with_reducible refine Below.alloc ?_ ?_ _ | with_reducible refine Below.trans ?_ (Below.mono (by assumption) ?_) | (dsimp only; omega) | (simp; done) | (simp; omega) | omega))
      have hkz33 := hk.size
      have R33_0 := hid (FreshA.below (cf := cBer) (sz := 5) (T := 48) (B := V27.heap.size) R32_1.out hk)
      have hw33 : Below w.heap.size w V33 := Below.trans hw (Below.mono hk (by have := hw.size; omega))
      clear hw hk
      have hw := hw33
      clear hw33
      have hwz := hw.size
      clear R32_1
      clear hV
      refine (c_impl_IsBerthing q3 A8 E c8 _ R33_0.out.rds (by omega) (by omega) (by omega)).mono ?_
      simp only [HBE.out]
      rintro e W34 ⟨rfl, hb⟩
      have hk : Below V33.heap.size V33 W34 := hb
      have hkz34 := hk.size
      have R34_0 := hid (FreshA.below (cf := cBer) (sz := 5) (T := 48) (B := V27.heap.size) R33_0.out hk)
      have hw34 : Below w.heap.size w W34 := Below.trans hw (Below.mono hk (by have := hw.size; omega))
      clear hw hk
      have hw := hw34
      clear hw34
      have hwz := hw.size
      clear R33_0
      clear hb
      clear R34_0
      go_wp2_with (fail)
      refine calls_named ?_
      intro V35 hV
      have hk : Below W34.heap.size W34 V35 := by rw [hV]; (repeat' (first | with_reducible exact Below.refl _ _ | with_reducible assumption | with_reducible refine Below.setCell ?_ ?_ _ | with_reducible refine Below.drew ?_ | with_reducible refine Below.alloc ?_ ?_ _ | with_reducible refine Below.trans ?_ (Below.mono (by assumption) ?_) | (dsimp only; omega) | (simp; done) | (simp; omega) | omega))
      have hkz35 := hk.size
      have hw35 : Below w.heap.size w V35 := Below.trans hw (Below.mono hk (by have := hw.size; omega))
      clear hw hk
      have hw := hw35
      clear hw35
      have hwz := hw.size
      clear hV
      refine (c_spec_DrawCellHours A cs cap _ (Rds.below hr hw) hby (by omega)).mono ?_
      rintro e W36 ⟨q4, Df, ff, us, rfl, hFf, hul, hb⟩
      have hk : Below V35.heap.size V35 W36 := hb
      have hkz36 := hk.size
      have hw36 : Below w.heap.size w W36 := Below.trans hw (Below.mono hk (by have := hw.size; omega))
      clear hw hk
      have hw := hw36
      clear hw36
      have hwz := hw.size
      clear hb
      have S36_0 : Hid (FreshA cBer 5 48 V35.heap.size W36 Df ff us) := hid (hFf)
      have loS36_0 := S36_0.out.lo
      have hiS36_0 := S36_0.out.hi
      clear hFf
      have hcaDf := (S36_0.out).capLe; have hmaDf := (S36_0.out).capMax; unfold maxLen at hmaDf
      obtain ⟨n4, good, hHO⟩ : ∃ n4 good, hoursV q4 us = (n4, good) := ⟨_, _, rfl⟩
      have HHO := hid hHO; clear hHO
      go_wp2_with (fail)
      refine calls_named ?_
      intro V37 hV
      have hk : Below W36.heap.size W36 V37 := by rw [hV]; (repeat' (first | with_reducible exact Below.refl _ _ | with_reducible assumption | with_reducible refine Below.setCell ?_ ?_ _ | with_reducible refine Below.drew ?_ | with_reducible refine Below.alloc ?_ ?_ _ | with_reducible refine Below.trans ?_ (Below.mono (by assumption) ?_) | (dsimp only; omega) | (simp; done) | (simp; omega) | omega))
      have hkz37 := hk.size
      have R37_0 := hid (FreshA.below (cf := cBer) (sz := 5) (T := 48) (B := V35.heap.size) S36_0.out hk)
      have hw37 : Below w.heap.size w V37 := Below.trans hw (Below.mono hk (by have := hw.size; omega))
      clear hw hk
      have hw := hw37
      clear hw37
      have hwz := hw.size
      clear S36_0
      clear hV
      refine (c_impl_CellHours q4 Df us ff _ R37_0.out.rds (by omega) (by omega) (by omega)).mono ?_
      simp only [HHO.out]
      rintro e W38 ⟨rfl, hb⟩
      have hk : Below V37.heap.size V37 W38 := hb
      have hkz38 := hk.size
      have R38_0 := hid (FreshA.below (cf := cBer) (sz := 5) (T := 48) (B := V35.heap.size) R37_0.out hk)
      have hw38 : Below w.heap.size w W38 := Below.trans hw (Below.mono hk (by have := hw.size; omega))
      clear hw hk
      have hw := hw38
      clear hw38
      have hwz := hw.size
      clear R37_0
      clear hb
      go_wp2_with (fail)
      refine calls_named ?_
      intro V39 hV
      have hk : Below W38.heap.size W38 V39 := by rw [hV]; (repeat' (first | with_reducible exact Below.refl _ _ | with_reducible assumption | with_reducible refine Below.setCell ?_ ?_ _ | with_reducible refine Below.drew ?_ | with_reducible refine Below.alloc ?_ ?_ _ | with_reducible refine Below.trans ?_ (Below.mono (by assumption) ?_) | (dsimp only; omega) | (simp; done) | (simp; omega) | omega))
      have hkz39 := hk.size
      have R39_0 := hid (FreshA.below (cf := cBer) (sz := 5) (T := 48) (B := V35.heap.size) R38_0.out hk)
      have hw39 : Below w.heap.size w V39 := Below.trans hw (Below.mono hk (by have := hw.size; omega))
      clear hw hk
      have hw := hw39
      clear hw39
      have hwz := hw.size
      clear R38_0
      clear hV
      refine (c_spec_CellHours q4 Df us ff _ R39_0.out.rds (by omega)).mono ?_
      simp only [HHO.out]
      rintro e W40 ⟨rfl, hb⟩
      have hk : Below V39.heap.size V39 W40 := hb
      have hkz40 := hk.size
      have R40_0 := hid (FreshA.below (cf := cBer) (sz := 5) (T := 48) (B := V35.heap.size) R39_0.out hk)
      have hw40 : Below w.heap.size w W40 := Below.trans hw (Below.mono hk (by have := hw.size; omega))
      clear hw hk
      have hw := hw40
      clear hw40
      have hwz := hw.size
      clear R39_0
      clear hb
      go_wp2_with (fail)
      go_ret
      exact ⟨by first | rfl | exact ret_bool (by simp), by first | exact hw | (repeat' (first | with_reducible exact Below.refl _ _ | with_reducible assumption | with_reducible refine Below.setCell ?_ ?_ _ | with_reducible refine Below.drew ?_ | with_reducible refine Below.alloc ?_ ?_ _ | with_reducible refine Below.trans ?_ (Below.mono (by assumption) ?_) | (dsimp only; omega) | (simp; done) | (simp; omega) | omega))⟩

end Go.Proofs.Ytfipmalomhflgaa
