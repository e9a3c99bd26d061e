import Derived.Test.YthlmeofjjmfpnaaDr4
import Derived.Test.YthlmeofjjmfpnaaDr5
import Derived.Test.YthlmeofjjmfpnaaDr6
import Derived.Test.YthlmeofjjmfpnaaDr7
import Derived.Test.YthlmeofjjmfpnaaVIv
import Derived.Test.YthlmeofjjmfpnaaVoL
import Derived.Test.YthlmeofjjmfpnaaS8
import Derived.Test.YthlmeofjjmfpnaaS9
import Derived.Test.YthlmeofjjmfpnaaS10
import Derived.Test.YthlmeofjjmfpnaaS11
import Derived.Test.YthlmeofjjmfpnaaS12
import Derived.Test.YthlmeofjjmfpnaaT3
import Derived.Test.YthlmeofjjmfpnaaT4
namespace Go.Proofs.Ythlmeofjjmfpnaa
set_option linter.unusedSimpArgs false
set_option linter.unusedVariables false
open Go.RowKit

set_option maxRecDepth 100000 in
set_option maxHeartbeats 16000000 in
theorem c_laws_FnVoyages (A : Option Addr) (cs : List Int) (cap : Nat) (w : World) (hr : Rds cB 1 w A cs) (hby : Bytes cs) (hn : cs.length ≤ 9223372036854775807) :
    Calls Try.prog 14 #[.slice A cs.length cap] w fun e w' => e = .returned (.bool true) ∧ Below w.heap.size w w' := by
  by_cases hbig : 65536 < cs.length
  · go_enter Try.func14, Try.ntmps14
    go_wp2_with (fail)
    refine (c_laws_vBig _ _ _ _ (by omega)).mono ?_
    rintro e W1 ⟨rfl, hb1⟩
    simp only [show decide (65536 < cs.length) = true by simp; omega]
    go_wp2_with (fail)
    go_ret
    exact ⟨rfl, by (repeat' (first | exact Below.refl _ _ | assumption | refine Below.setCell ?_ ?_ _ | refine Below.drew ?_ | refine Below.alloc ?_ ?_ _ | refine Below.trans ?_ (Below.mono (by assumption) ?_) | (simp; done) | (simp; omega) | omega))⟩
  go_enter Try.func14, Try.ntmps14
  go_wp2_with (fail)
  refine (c_laws_vBig _ _ _ _ (by omega)).mono ?_
  rintro e W1 ⟨rfl, hbW⟩
  have hzW := sizeOf hbW
  simp only [show decide (65536 < cs.length) = false by simp; omega]
  go_wp2_with (fail)
  refine (c_spec_DrawLatestStart A cs cap _ (hr.below (by (repeat' (first | exact Below.refl _ _ | assumption | refine Below.setCell ?_ ?_ _ | refine Below.drew ?_ | refine Below.alloc ?_ ?_ _ | refine Below.trans ?_ (Below.mono (by assumption) ?_) | (simp; done) | (simp; omega) | omega)))) hby (by omega)).mono ?_
  rintro e W2 ⟨A2, cp2, xs, d, rfl, hF2, hxl, hd, hb2⟩
  have hc2 := cellOf hb2; have hf2 := frozOf hb2; have hz2 := sizeOf hb2; (try simp at hz2)
  have hr2 := hF2.rds; have hlo2 := hF2.lo; have hhi2 := hF2.hi; have HF2 := hid hF2; clear hF2; (try simp at hlo2)
  obtain ⟨st, ok, hS⟩ : ∃ st ok, latestV xs d = (st, ok) := ⟨_, _, rfl⟩
  go_wp2_with (fail)
  refine (c_impl_LatestStart _ _ _ _ _ (by first | exact hr2 | exact Rds.below hr2 (by (repeat' (first | exact Below.refl _ _ | assumption | refine Below.setCell ?_ ?_ _ | refine Below.drew ?_ | refine Below.alloc ?_ ?_ _ | refine Below.trans ?_ (Below.mono (by assumption) ?_) | (simp; done) | (simp; omega) | omega)))) (by omega)).mono ?_
  rintro e W3 ⟨rfl, hb3⟩
  have hc3 := cellOf hb3; have hf3 := frozOf hb3; have hz3 := sizeOf hb3; (try simp at hz3)
  simp only [hS]
  go_wp2_with (fail)
  refine (c_spec_LatestStart _ _ _ _ _ (by first | exact hr2 | exact Rds.below hr2 (by (repeat' (first | exact Below.refl _ _ | assumption | refine Below.setCell ?_ ?_ _ | refine Below.drew ?_ | refine Below.alloc ?_ ?_ _ | refine Below.trans ?_ (Below.mono (by assumption) ?_) | (simp; done) | (simp; omega) | omega)))) (by omega)).mono ?_
  rintro e W4 ⟨rfl, hb4⟩
  have hc4 := cellOf hb4; have hf4 := frozOf hb4; have hz4 := sizeOf hb4; (try simp at hz4)
  simp only [hS]
  cases ok
  · go_wp2_with (fail)
    have hbV : Below w.heap.size w W4 := by (repeat' (first | exact Below.refl _ _ | assumption | refine Below.setCell ?_ ?_ _ | refine Below.drew ?_ | refine Below.alloc ?_ ?_ _ | refine Below.trans ?_ (Below.mono (by assumption) ?_) | (simp; done) | (simp; omega) | omega))
    clear hbW hzW hb2 hc2 hf2 hz2 hb3 hc3 hf3 hz3 hb4 hc4 hf4 hz4 HF2 hr2 hlo2 hhi2
    have hbW := hbV
    clear hbV
    have hzW := hbW.size
    clear hS
    go_wp2_with (fail)
    refine (c_spec_DrawAlongVoyage A cs cap _ (hr.below (by (repeat' (first | exact Below.refl _ _ | assumption | refine Below.setCell ?_ ?_ _ | refine Below.drew ?_ | refine Below.alloc ?_ ?_ _ | refine Below.trans ?_ (Below.mono (by assumption) ?_) | (simp; done) | (simp; omega) | omega)))) hby (by omega)).mono ?_
    rintro e W21 ⟨a0, b0, A21, cp21, zs, rfl, g1, g2, hF21, hzl, hb21⟩
    have hc21 := cellOf hb21; have hf21 := frozOf hb21; have hz21 := sizeOf hb21; (try simp at hz21)
    have hr21 := hF21.rds; have hlo21 := hF21.lo; have hhi21 := hF21.hi; have HF21 := hid hF21; clear hF21; (try simp at hlo21)
    have hal := alongV_len a0 b0 zs
    obtain ⟨al, told, hA⟩ : ∃ al told, alongV a0 b0 zs = (al, told) := ⟨_, _, rfl⟩
    rw [hA] at hal
    simp only at hal
    go_wp2_with (fail)
    refine (c_impl_AlongVoyage _ _ _ _ _ _ (by first | exact hr21 | exact Rds.below hr21 (by (repeat' (first | exact Below.refl _ _ | assumption | refine Below.setCell ?_ ?_ _ | refine Below.drew ?_ | refine Below.alloc ?_ ?_ _ | refine Below.trans ?_ (Below.mono (by assumption) ?_) | (simp; done) | (simp; omega) | omega)))) (by omega)).mono ?_
    rintro e W22 ⟨A22, cp22, rfl, hF22, hb22⟩
    simp only [hA] at hF22 ⊢
    have hc22 := cellOf hb22; have hf22 := frozOf hb22; have hz22 := sizeOf hb22; (try simp at hz22); have hr22 := hF22.rds; have hlo22 := hF22.lo; have hhi22 := hF22.hi; have HF22 := hid hF22; clear hF22; (try simp at hlo22)
    go_wp2_with (fail)
    refine (c_spec_AlongVoyage _ _ _ _ _ _ (by first | exact hr21 | exact Rds.below hr21 (by (repeat' (first | exact Below.refl _ _ | assumption | refine Below.setCell ?_ ?_ _ | refine Below.drew ?_ | refine Below.alloc ?_ ?_ _ | refine Below.trans ?_ (Below.mono (by assumption) ?_) | (simp; done) | (simp; omega) | omega)))) (by omega)).mono ?_
    rintro e W23 ⟨A23, cp23, rfl, hF23, hb23⟩
    simp only [hA] at hF23 ⊢
    have hc23 := cellOf hb23; have hf23 := frozOf hb23; have hz23 := sizeOf hb23; (try simp at hz23); have hr23 := hF23.rds; have hlo23 := hF23.lo; have hhi23 := hF23.hi; have HF23 := hid hF23; clear hF23; (try simp at hlo23)
    cases told
    all_goals
      go_wp2_with (fail)
      refine (c_laws_vIntervals _ _ _ _ _ _ (by first | exact hr22 | exact Rds.below hr22 (by (repeat' (first | exact Below.refl _ _ | assumption | refine Below.setCell ?_ ?_ _ | refine Below.drew ?_ | refine Below.alloc ?_ ?_ _ | refine Below.trans ?_ (Below.mono (by assumption) ?_) | (simp; done) | (simp; omega) | omega)))) (by first | exact hr23 | exact Rds.below hr23 (by (repeat' (first | exact Below.refl _ _ | assumption | refine Below.setCell ?_ ?_ _ | refine Below.drew ?_ | refine Below.alloc ?_ ?_ _ | refine Below.trans ?_ (Below.mono (by assumption) ?_) | (simp; done) | (simp; omega) | omega)))) (by omega)).mono ?_
      rintro e W24 ⟨rfl, hb24⟩
      have hc24 := cellOf hb24; have hf24 := frozOf hb24; have hz24 := sizeOf hb24; (try simp at hz24)
      go_wp2_with (fail)
      have hbV : Below w.heap.size w W24 := by (repeat' (first | exact Below.refl _ _ | assumption | refine Below.setCell ?_ ?_ _ | refine Below.drew ?_ | refine Below.alloc ?_ ?_ _ | refine Below.trans ?_ (Below.mono (by assumption) ?_) | (simp; done) | (simp; omega) | omega))
      clear hbW hzW hb21 hc21 hf21 hz21 hb22 hc22 hf22 hz22 hb23 hc23 hf23 hz23 hb24 hc24 hf24 hz24 HF21 hr21 hlo21 hhi21 HF22 hr22 hlo22 hhi22 HF23 hr23 hlo23 hhi23
      have hbW := hbV
      clear hbV
      have hzW := hbW.size
      clear hA hal
      go_wp2_with (fail)
      refine (c_spec_DrawNarrowVoyage A cs cap _ (hr.below (by (repeat' (first | exact Below.refl _ _ | assumption | refine Below.setCell ?_ ?_ _ | refine Below.drew ?_ | refine Below.alloc ?_ ?_ _ | refine Below.trans ?_ (Below.mono (by assumption) ?_) | (simp; done) | (simp; omega) | omega)))) hby (by omega)).mono ?_
      rintro e W31 ⟨a, b, A31, cp31, ys, c, d, rfl, h1, h2, hF31, hyl, h3, h4, hb31⟩
      have hc31 := cellOf hb31; have hf31 := frozOf hb31; have hz31 := sizeOf hb31; (try simp at hz31)
      have hr31 := hF31.rds; have hlo31 := hF31.lo; have hhi31 := hF31.hi; have HF31 := hid hF31; clear hF31; (try simp at hlo31)
      obtain ⟨p1, p2, q1, q2, fine, hN⟩ : ∃ p1 p2 q1 q2 fine, narrowV a b ys c d = (((p1, p2), (q1, q2)), fine) := ⟨_, _, _, _, _, rfl⟩
      go_wp2_with (fail)
      refine (c_impl_NarrowVoyage _ _ _ _ _ _ _ _ (by first | exact hr31 | exact Rds.below hr31 (by (repeat' (first | exact Below.refl _ _ | assumption | refine Below.setCell ?_ ?_ _ | refine Below.drew ?_ | refine Below.alloc ?_ ?_ _ | refine Below.trans ?_ (Below.mono (by assumption) ?_) | (simp; done) | (simp; omega) | omega)))) (by omega)).mono ?_
      rintro e W32 ⟨rfl, hb32⟩
      have hc32 := cellOf hb32; have hf32 := frozOf hb32; have hz32 := sizeOf hb32; (try simp at hz32)
      simp only [hN]
      go_wp2_with (fail)
      refine (c_spec_NarrowVoyage _ _ _ _ _ _ _ _ (by first | exact hr31 | exact Rds.below hr31 (by (repeat' (first | exact Below.refl _ _ | assumption | refine Below.setCell ?_ ?_ _ | refine Below.drew ?_ | refine Below.alloc ?_ ?_ _ | refine Below.trans ?_ (Below.mono (by assumption) ?_) | (simp; done) | (simp; omega) | omega)))) (by omega)).mono ?_
      rintro e W33 ⟨rfl, hb33⟩
      have hc33 := cellOf hb33; have hf33 := frozOf hb33; have hz33 := sizeOf hb33; (try simp at hz33)
      simp only [hN]
      cases fine
      · go_wp2_with (fail)
        have hbV : Below w.heap.size w W33 := by (repeat' (first | exact Below.refl _ _ | assumption | refine Below.setCell ?_ ?_ _ | refine Below.drew ?_ | refine Below.alloc ?_ ?_ _ | refine Below.trans ?_ (Below.mono (by assumption) ?_) | (simp; done) | (simp; omega) | omega))
        clear hbW hzW hb31 hc31 hf31 hz31 hb32 hc32 hf32 hz32 hb33 hc33 hf33 hz33 HF31 hr31 hlo31 hhi31
        have hbW := hbV
        clear hbV
        have hzW := hbW.size
        clear hN
        go_wp2_with (fail)
        refine (c_spec_DrawInTime A cs cap _ (hr.below (by (repeat' (first | exact Below.refl _ _ | assumption | refine Below.setCell ?_ ?_ _ | refine Below.drew ?_ | refine Below.alloc ?_ ?_ _ | refine Below.trans ?_ (Below.mono (by assumption) ?_) | (simp; done) | (simp; omega) | omega)))) hby (by omega)).mono ?_
        rintro e W41 ⟨⟨u, v, tt, rfl, j1, j2, j3⟩, hb41⟩
        have hc41 := cellOf hb41; have hf41 := frozOf hb41; have hz41 := sizeOf hb41; (try simp at hz41)
        obtain ⟨sure, known, hS⟩ : ∃ sure known, inTimeI u v tt = (sure, known) := ⟨_, _, rfl⟩
        go_wp2_with (fail)
        refine (c_impl_InTime _ _ _ _ ).mono ?_
        rintro e W42 ⟨rfl, hb42⟩
        have hc42 := cellOf hb42; have hf42 := frozOf hb42; have hz42 := sizeOf hb42; (try simp at hz42)
        simp only [hS]
        go_wp2_with (fail)
        refine (c_spec_InTime _ _ _ _ ).mono ?_
        rintro e W43 ⟨rfl, hb43⟩
        have hc43 := cellOf hb43; have hf43 := frozOf hb43; have hz43 := sizeOf hb43; (try simp at hz43)
        simp only [hS]
        go_wp2_with (fail)
        go_ret
        exact ⟨ret_bool (by simp), by (repeat' (first | exact Below.refl _ _ | assumption | refine Below.setCell ?_ ?_ _ | refine Below.drew ?_ | refine Below.alloc ?_ ?_ _ | refine Below.trans ?_ (Below.mono (by assumption) ?_) | (simp; done) | (simp; omega) | omega))⟩
      obtain ⟨hA, hB, hC⟩ := narrow_true hN
      go_wp2_with (fail)
      refine (c_impl_CommonInterval _ _ _ _ _ ).mono ?_
      rintro e W34 ⟨rfl, hb34⟩
      have hc34 := cellOf hb34; have hf34 := frozOf hb34; have hz34 := sizeOf hb34; (try simp at hz34)
      simp only [hA]
      go_wp2_with (fail)
      refine (c_impl_CommonInterval _ _ _ _ _ ).mono ?_
      rintro e W35 ⟨rfl, hb35⟩
      have hc35 := cellOf hb35; have hf35 := frozOf hb35; have hz35 := sizeOf hb35; (try simp at hz35)
      simp only [hB]
      go_wp2_with (fail)
      refine (c_impl_NarrowVoyage _ _ _ _ _ _ _ _ (by first | exact hr31 | exact Rds.below hr31 (by (repeat' (first | exact Below.refl _ _ | assumption | refine Below.setCell ?_ ?_ _ | refine Below.drew ?_ | refine Below.alloc ?_ ?_ _ | refine Below.trans ?_ (Below.mono (by assumption) ?_) | (simp; done) | (simp; omega) | omega)))) (by omega)).mono ?_
      rintro e W36 ⟨rfl, hb36⟩
      have hc36 := cellOf hb36; have hf36 := frozOf hb36; have hz36 := sizeOf hb36; (try simp at hz36)
      simp only [hC]
      go_wp2_with (fail)
      have hbV : Below w.heap.size w W36 := by (repeat' (first | exact Below.refl _ _ | assumption | refine Below.setCell ?_ ?_ _ | refine Below.drew ?_ | refine Below.alloc ?_ ?_ _ | refine Below.trans ?_ (Below.mono (by assumption) ?_) | (simp; done) | (simp; omega) | omega))
      clear hbW hzW hb31 hc31 hf31 hz31 hb32 hc32 hf32 hz32 hb33 hc33 hf33 hz33 hb34 hc34 hf34 hz34 hb35 hc35 hf35 hz35 hb36 hc36 hf36 hz36 HF31 hr31 hlo31 hhi31
      have hbW := hbV
      clear hbV
      have hzW := hbW.size
      clear hN hA hB hC
      go_wp2_with (fail)
      refine (c_spec_DrawInTime A cs cap _ (hr.below (by (repeat' (first | exact Below.refl _ _ | assumption | refine Below.setCell ?_ ?_ _ | refine Below.drew ?_ | refine Below.alloc ?_ ?_ _ | refine Below.trans ?_ (Below.mono (by assumption) ?_) | (simp; done) | (simp; omega) | omega)))) hby (by omega)).mono ?_
      rintro e W41 ⟨⟨u, v, tt, rfl, j1, j2, j3⟩, hb41⟩
      have hc41 := cellOf hb41; have hf41 := frozOf hb41; have hz41 := sizeOf hb41; (try simp at hz41)
      obtain ⟨sure, known, hS⟩ : ∃ sure known, inTimeI u v tt = (sure, known) := ⟨_, _, rfl⟩
      go_wp2_with (fail)
      refine (c_impl_InTime _ _ _ _ ).mono ?_
      rintro e W42 ⟨rfl, hb42⟩
      have hc42 := cellOf hb42; have hf42 := frozOf hb42; have hz42 := sizeOf hb42; (try simp at hz42)
      simp only [hS]
      go_wp2_with (fail)
      refine (c_spec_InTime _ _ _ _ ).mono ?_
      rintro e W43 ⟨rfl, hb43⟩
      have hc43 := cellOf hb43; have hf43 := frozOf hb43; have hz43 := sizeOf hb43; (try simp at hz43)
      simp only [hS]
      go_wp2_with (fail)
      go_ret
      exact ⟨ret_bool (by simp), by (repeat' (first | exact Below.refl _ _ | assumption | refine Below.setCell ?_ ?_ _ | refine Below.drew ?_ | refine Below.alloc ?_ ?_ _ | refine Below.trans ?_ (Below.mono (by assumption) ?_) | (simp; done) | (simp; omega) | omega))⟩
  by_cases hd9 : d < 9999
  rotate_left
  · go_wp2_with (fail)
    have hbV : Below w.heap.size w W4 := by (repeat' (first | exact Below.refl _ _ | assumption | refine Below.setCell ?_ ?_ _ | refine Below.drew ?_ | refine Below.alloc ?_ ?_ _ | refine Below.trans ?_ (Below.mono (by assumption) ?_) | (simp; done) | (simp; omega) | omega))
    clear hbW hzW hb2 hc2 hf2 hz2 hb3 hc3 hf3 hz3 hb4 hc4 hf4 hz4 HF2 hr2 hlo2 hhi2
    have hbW := hbV
    clear hbV
    have hzW := hbW.size
    clear hS
    go_wp2_with (fail)
    refine (c_spec_DrawAlongVoyage A cs cap _ (hr.below (by (repeat' (first | exact Below.refl _ _ | assumption | refine Below.setCell ?_ ?_ _ | refine Below.drew ?_ | refine Below.alloc ?_ ?_ _ | refine Below.trans ?_ (Below.mono (by assumption) ?_) | (simp; done) | (simp; omega) | omega)))) hby (by omega)).mono ?_
    rintro e W21 ⟨a0, b0, A21, cp21, zs, rfl, g1, g2, hF21, hzl, hb21⟩
    have hc21 := cellOf hb21; have hf21 := frozOf hb21; have hz21 := sizeOf hb21; (try simp at hz21)
    have hr21 := hF21.rds; have hlo21 := hF21.lo; have hhi21 := hF21.hi; have HF21 := hid hF21; clear hF21; (try simp at hlo21)
    have hal := alongV_len a0 b0 zs
    obtain ⟨al, told, hA⟩ : ∃ al told, alongV a0 b0 zs = (al, told) := ⟨_, _, rfl⟩
    rw [hA] at hal
    simp only at hal
    go_wp2_with (fail)
    refine (c_impl_AlongVoyage _ _ _ _ _ _ (by first | exact hr21 | exact Rds.below hr21 (by (repeat' (first | exact Below.refl _ _ | assumption | refine Below.setCell ?_ ?_ _ | refine Below.drew ?_ | refine Below.alloc ?_ ?_ _ | refine Below.trans ?_ (Below.mono (by assumption) ?_) | (simp; done) | (simp; omega) | omega)))) (by omega)).mono ?_
    rintro e W22 ⟨A22, cp22, rfl, hF22, hb22⟩
    simp only [hA] at hF22 ⊢
    have hc22 := cellOf hb22; have hf22 := frozOf hb22; have hz22 := sizeOf hb22; (try simp at hz22); have hr22 := hF22.rds; have hlo22 := hF22.lo; have hhi22 := hF22.hi; have HF22 := hid hF22; clear hF22; (try simp at hlo22)
    go_wp2_with (fail)
    refine (c_spec_AlongVoyage _ _ _ _ _ _ (by first | exact hr21 | exact Rds.below hr21 (by (repeat' (first | exact Below.refl _ _ | assumption | refine Below.setCell ?_ ?_ _ | refine Below.drew ?_ | refine Below.alloc ?_ ?_ _ | refine Below.trans ?_ (Below.mono (by assumption) ?_) | (simp; done) | (simp; omega) | omega)))) (by omega)).mono ?_
    rintro e W23 ⟨A23, cp23, rfl, hF23, hb23⟩
    simp only [hA] at hF23 ⊢
    have hc23 := cellOf hb23; have hf23 := frozOf hb23; have hz23 := sizeOf hb23; (try simp at hz23); have hr23 := hF23.rds; have hlo23 := hF23.lo; have hhi23 := hF23.hi; have HF23 := hid hF23; clear hF23; (try simp at hlo23)
    cases told
    all_goals
      go_wp2_with (fail)
      refine (c_laws_vIntervals _ _ _ _ _ _ (by first | exact hr22 | exact Rds.below hr22 (by (repeat' (first | exact Below.refl _ _ | assumption | refine Below.setCell ?_ ?_ _ | refine Below.drew ?_ | refine Below.alloc ?_ ?_ _ | refine Below.trans ?_ (Below.mono (by assumption) ?_) | (simp; done) | (simp; omega) | omega)))) (by first | exact hr23 | exact Rds.below hr23 (by (repeat' (first | exact Below.refl _ _ | assumption | refine Below.setCell ?_ ?_ _ | refine Below.drew ?_ | refine Below.alloc ?_ ?_ _ | refine Below.trans ?_ (Below.mono (by assumption) ?_) | (simp; done) | (simp; omega) | omega)))) (by omega)).mono ?_
      rintro e W24 ⟨rfl, hb24⟩
      have hc24 := cellOf hb24; have hf24 := frozOf hb24; have hz24 := sizeOf hb24; (try simp at hz24)
      go_wp2_with (fail)
      have hbV : Below w.heap.size w W24 := by (repeat' (first | exact Below.refl _ _ | assumption | refine Below.setCell ?_ ?_ _ | refine Below.drew ?_ | refine Below.alloc ?_ ?_ _ | refine Below.trans ?_ (Below.mono (by assumption) ?_) | (simp; done) | (simp; omega) | omega))
      clear hbW hzW hb21 hc21 hf21 hz21 hb22 hc22 hf22 hz22 hb23 hc23 hf23 hz23 hb24 hc24 hf24 hz24 HF21 hr21 hlo21 hhi21 HF22 hr22 hlo22 hhi22 HF23 hr23 hlo23 hhi23
      have hbW := hbV
      clear hbV
      have hzW := hbW.size
      clear hA hal
      go_wp2_with (fail)
      refine (c_spec_DrawNarrowVoyage A cs cap _ (hr.below (by (repeat' (first | exact Below.refl _ _ | assumption | refine Below.setCell ?_ ?_ _ | refine Below.drew ?_ | refine Below.alloc ?_ ?_ _ | refine Below.trans ?_ (Below.mono (by assumption) ?_) | (simp; done) | (simp; omega) | omega)))) hby (by omega)).mono ?_
      rintro e W31 ⟨a, b, A31, cp31, ys, c, d, rfl, h1, h2, hF31, hyl, h3, h4, hb31⟩
      have hc31 := cellOf hb31; have hf31 := frozOf hb31; have hz31 := sizeOf hb31; (try simp at hz31)
      have hr31 := hF31.rds; have hlo31 := hF31.lo; have hhi31 := hF31.hi; have HF31 := hid hF31; clear hF31; (try simp at hlo31)
      obtain ⟨p1, p2, q1, q2, fine, hN⟩ : ∃ p1 p2 q1 q2 fine, narrowV a b ys c d = (((p1, p2), (q1, q2)), fine) := ⟨_, _, _, _, _, rfl⟩
      go_wp2_with (fail)
      refine (c_impl_NarrowVoyage _ _ _ _ _ _ _ _ (by first | exact hr31 | exact Rds.below hr31 (by (repeat' (first | exact Below.refl _ _ | assumption | refine Below.setCell ?_ ?_ _ | refine Below.drew ?_ | refine Below.alloc ?_ ?_ _ | refine Below.trans ?_ (Below.mono (by assumption) ?_) | (simp; done) | (simp; omega) | omega)))) (by omega)).mono ?_
      rintro e W32 ⟨rfl, hb32⟩
      have hc32 := cellOf hb32; have hf32 := frozOf hb32; have hz32 := sizeOf hb32; (try simp at hz32)
      simp only [hN]
      go_wp2_with (fail)
      refine (c_spec_NarrowVoyage _ _ _ _ _ _ _ _ (by first | exact hr31 | exact Rds.below hr31 (by (repeat' (first | exact Below.refl _ _ | assumption | refine Below.setCell ?_ ?_ _ | refine Below.drew ?_ | refine Below.alloc ?_ ?_ _ | refine Below.trans ?_ (Below.mono (by assumption) ?_) | (simp; done) | (simp; omega) | omega)))) (by omega)).mono ?_
      rintro e W33 ⟨rfl, hb33⟩
      have hc33 := cellOf hb33; have hf33 := frozOf hb33; have hz33 := sizeOf hb33; (try simp at hz33)
      simp only [hN]
      cases fine
      · go_wp2_with (fail)
        have hbV : Below w.heap.size w W33 := by (repeat' (first | exact Below.refl _ _ | assumption | refine Below.setCell ?_ ?_ _ | refine Below.drew ?_ | refine Below.alloc ?_ ?_ _ | refine Below.trans ?_ (Below.mono (by assumption) ?_) | (simp; done) | (simp; omega) | omega))
        clear hbW hzW hb31 hc31 hf31 hz31 hb32 hc32 hf32 hz32 hb33 hc33 hf33 hz33 HF31 hr31 hlo31 hhi31
        have hbW := hbV
        clear hbV
        have hzW := hbW.size
        clear hN
        go_wp2_with (fail)
        refine (c_spec_DrawInTime A cs cap _ (hr.below (by (repeat' (first | exact Below.refl _ _ | assumption | refine Below.setCell ?_ ?_ _ | refine Below.drew ?_ | refine Below.alloc ?_ ?_ _ | refine Below.trans ?_ (Below.mono (by assumption) ?_) | (simp; done) | (simp; omega) | omega)))) hby (by omega)).mono ?_
        rintro e W41 ⟨⟨u, v, tt, rfl, j1, j2, j3⟩, hb41⟩
        have hc41 := cellOf hb41; have hf41 := frozOf hb41; have hz41 := sizeOf hb41; (try simp at hz41)
        obtain ⟨sure, known, hS⟩ : ∃ sure known, inTimeI u v tt = (sure, known) := ⟨_, _, rfl⟩
        go_wp2_with (fail)
        refine (c_impl_InTime _ _ _ _ ).mono ?_
        rintro e W42 ⟨rfl, hb42⟩
        have hc42 := cellOf hb42; have hf42 := frozOf hb42; have hz42 := sizeOf hb42; (try simp at hz42)
        simp only [hS]
        go_wp2_with (fail)
        refine (c_spec_InTime _ _ _ _ ).mono ?_
        rintro e W43 ⟨rfl, hb43⟩
        have hc43 := cellOf hb43; have hf43 := frozOf hb43; have hz43 := sizeOf hb43; (try simp at hz43)
        simp only [hS]
        go_wp2_with (fail)
        go_ret
        exact ⟨ret_bool (by simp), by (repeat' (first | exact Below.refl _ _ | assumption | refine Below.setCell ?_ ?_ _ | refine Below.drew ?_ | refine Below.alloc ?_ ?_ _ | refine Below.trans ?_ (Below.mono (by assumption) ?_) | (simp; done) | (simp; omega) | omega))⟩
      obtain ⟨hA, hB, hC⟩ := narrow_true hN
      go_wp2_with (fail)
      refine (c_impl_CommonInterval _ _ _ _ _ ).mono ?_
      rintro e W34 ⟨rfl, hb34⟩
      have hc34 := cellOf hb34; have hf34 := frozOf hb34; have hz34 := sizeOf hb34; (try simp at hz34)
      simp only [hA]
      go_wp2_with (fail)
      refine (c_impl_CommonInterval _ _ _ _ _ ).mono ?_
      rintro e W35 ⟨rfl, hb35⟩
      have hc35 := cellOf hb35; have hf35 := frozOf hb35; have hz35 := sizeOf hb35; (try simp at hz35)
      simp only [hB]
      go_wp2_with (fail)
      refine (c_impl_NarrowVoyage _ _ _ _ _ _ _ _ (by first | exact hr31 | exact Rds.below hr31 (by (repeat' (first | exact Below.refl _ _ | assumption | refine Below.setCell ?_ ?_ _ | refine Below.drew ?_ | refine Below.alloc ?_ ?_ _ | refine Below.trans ?_ (Below.mono (by assumption) ?_) | (simp; done) | (simp; omega) | omega)))) (by omega)).mono ?_
      rintro e W36 ⟨rfl, hb36⟩
      have hc36 := cellOf hb36; have hf36 := frozOf hb36; have hz36 := sizeOf hb36; (try simp at hz36)
      simp only [hC]
      go_wp2_with (fail)
      have hbV : Below w.heap.size w W36 := by (repeat' (first | exact Below.refl _ _ | assumption | refine Below.setCell ?_ ?_ _ | refine Below.drew ?_ | refine Below.alloc ?_ ?_ _ | refine Below.trans ?_ (Below.mono (by assumption) ?_) | (simp; done) | (simp; omega) | omega))
      clear hbW hzW hb31 hc31 hf31 hz31 hb32 hc32 hf32 hz32 hb33 hc33 hf33 hz33 hb34 hc34 hf34 hz34 hb35 hc35 hf35 hz35 hb36 hc36 hf36 hz36 HF31 hr31 hlo31 hhi31
      have hbW := hbV
      clear hbV
      have hzW := hbW.size
      clear hN hA hB hC
      go_wp2_with (fail)
      refine (c_spec_DrawInTime A cs cap _ (hr.below (by (repeat' (first | exact Below.refl _ _ | assumption | refine Below.setCell ?_ ?_ _ | refine Below.drew ?_ | refine Below.alloc ?_ ?_ _ | refine Below.trans ?_ (Below.mono (by assumption) ?_) | (simp; done) | (simp; omega) | omega)))) hby (by omega)).mono ?_
      rintro e W41 ⟨⟨u, v, tt, rfl, j1, j2, j3⟩, hb41⟩
      have hc41 := cellOf hb41; have hf41 := frozOf hb41; have hz41 := sizeOf hb41; (try simp at hz41)
      obtain ⟨sure, known, hS⟩ : ∃ sure known, inTimeI u v tt = (sure, known) := ⟨_, _, rfl⟩
      go_wp2_with (fail)
      refine (c_impl_InTime _ _ _ _ ).mono ?_
      rintro e W42 ⟨rfl, hb42⟩
      have hc42 := cellOf hb42; have hf42 := frozOf hb42; have hz42 := sizeOf hb42; (try simp at hz42)
      simp only [hS]
      go_wp2_with (fail)
      refine (c_spec_InTime _ _ _ _ ).mono ?_
      rintro e W43 ⟨rfl, hb43⟩
      have hc43 := cellOf hb43; have hf43 := frozOf hb43; have hz43 := sizeOf hb43; (try simp at hz43)
      simp only [hS]
      go_wp2_with (fail)
      go_ret
      exact ⟨ret_bool (by simp), by (repeat' (first | exact Below.refl _ _ | assumption | refine Below.setCell ?_ ?_ _ | refine Below.drew ?_ | refine Below.alloc ?_ ?_ _ | refine Below.trans ?_ (Below.mono (by assumption) ?_) | (simp; done) | (simp; omega) | omega))⟩
  obtain ⟨hsb, RR, SS, p1, p2, q1, q2, vv, hA, hB, hle, hat, hI, hJ, hv2⟩ := voy_late hS hd9
  have HAT := hid hat
  clear hS hat
  go_wp2_with (fail)
  refine (c_impl_AlongVoyage _ _ _ _ _ _ (by first | exact hr2 | exact Rds.below hr2 (by (repeat' (first | exact Below.refl _ _ | assumption | refine Below.setCell ?_ ?_ _ | refine Below.drew ?_ | refine Below.alloc ?_ ?_ _ | refine Below.trans ?_ (Below.mono (by assumption) ?_) | (simp; done) | (simp; omega) | omega)))) (by omega)).mono ?_
  rintro e W5 ⟨A5, cp5, rfl, hF5, hb5⟩
  simp only [hA] at hF5 ⊢
  have hc5 := cellOf hb5; have hf5 := frozOf hb5; have hz5 := sizeOf hb5; (try simp at hz5); have hr5 := hF5.rds; have hlo5 := hF5.lo; have hhi5 := hF5.hi; have HF5 := hid hF5; clear hF5; (try simp at hlo5)
  go_wp2_with (fail)
  refine (c_spec_AlongVoyage _ _ _ _ _ _ (by first | exact hr2 | exact Rds.below hr2 (by (repeat' (first | exact Below.refl _ _ | assumption | refine Below.setCell ?_ ?_ _ | refine Below.drew ?_ | refine Below.alloc ?_ ?_ _ | refine Below.trans ?_ (Below.mono (by assumption) ?_) | (simp; done) | (simp; omega) | omega)))) (by omega)).mono ?_
  rintro e W6 ⟨A6, cp6, rfl, hF6, hb6⟩
  simp only [hB] at hF6 ⊢
  have hc6 := cellOf hb6; have hf6 := frozOf hb6; have hz6 := sizeOf hb6; (try simp at hz6); have hr6 := hF6.rds; have hlo6 := hF6.lo; have hhi6 := hF6.hi; have HF6 := hid hF6; clear hF6; (try simp at hlo6)
  by_cases hn0 : RR.length = 0
  · go_wp2_with (fail)
    have hbV : Below w.heap.size w W6 := by (repeat' (first | exact Below.refl _ _ | assumption | refine Below.setCell ?_ ?_ _ | refine Below.drew ?_ | refine Below.alloc ?_ ?_ _ | refine Below.trans ?_ (Below.mono (by assumption) ?_) | (simp; done) | (simp; omega) | omega))
    clear hbW hzW hb2 hc2 hf2 hz2 hb3 hc3 hf3 hz3 hb4 hc4 hf4 hz4 hb5 hc5 hf5 hz5 hb6 hc6 hf6 hz6 HF2 hr2 hlo2 hhi2 HF5 hr5 hlo5 hhi5 HF6 hr6 hlo6 hhi6
    have hbW := hbV
    clear hbV
    have hzW := hbW.size
    clear hA hB hI hJ HAT
    go_wp2_with (fail)
    refine (c_spec_DrawAlongVoyage A cs cap _ (hr.below (by (repeat' (first | exact Below.refl _ _ | assumption | refine Below.setCell ?_ ?_ _ | refine Below.drew ?_ | refine Below.alloc ?_ ?_ _ | refine Below.trans ?_ (Below.mono (by assumption) ?_) | (simp; done) | (simp; omega) | omega)))) hby (by omega)).mono ?_
    rintro e W21 ⟨a0, b0, A21, cp21, zs, rfl, g1, g2, hF21, hzl, hb21⟩
    have hc21 := cellOf hb21; have hf21 := frozOf hb21; have hz21 := sizeOf hb21; (try simp at hz21)
    have hr21 := hF21.rds; have hlo21 := hF21.lo; have hhi21 := hF21.hi; have HF21 := hid hF21; clear hF21; (try simp at hlo21)
    have hal := alongV_len a0 b0 zs
    obtain ⟨al, told, hA⟩ : ∃ al told, alongV a0 b0 zs = (al, told) := ⟨_, _, rfl⟩
    rw [hA] at hal
    simp only at hal
    go_wp2_with (fail)
    refine (c_impl_AlongVoyage _ _ _ _ _ _ (by first | exact hr21 | exact Rds.below hr21 (by (repeat' (first | exact Below.refl _ _ | assumption | refine Below.setCell ?_ ?_ _ | refine Below.drew ?_ | refine Below.alloc ?_ ?_ _ | refine Below.trans ?_ (Below.mono (by assumption) ?_) | (simp; done) | (simp; omega) | omega)))) (by omega)).mono ?_
    rintro e W22 ⟨A22, cp22, rfl, hF22, hb22⟩
    simp only [hA] at hF22 ⊢
    have hc22 := cellOf hb22; have hf22 := frozOf hb22; have hz22 := sizeOf hb22; (try simp at hz22); have hr22 := hF22.rds; have hlo22 := hF22.lo; have hhi22 := hF22.hi; have HF22 := hid hF22; clear hF22; (try simp at hlo22)
    go_wp2_with (fail)
    refine (c_spec_AlongVoyage _ _ _ _ _ _ (by first | exact hr21 | exact Rds.below hr21 (by (repeat' (first | exact Below.refl _ _ | assumption | refine Below.setCell ?_ ?_ _ | refine Below.drew ?_ | refine Below.alloc ?_ ?_ _ | refine Below.trans ?_ (Below.mono (by assumption) ?_) | (simp; done) | (simp; omega) | omega)))) (by omega)).mono ?_
    rintro e W23 ⟨A23, cp23, rfl, hF23, hb23⟩
    simp only [hA] at hF23 ⊢
    have hc23 := cellOf hb23; have hf23 := frozOf hb23; have hz23 := sizeOf hb23; (try simp at hz23); have hr23 := hF23.rds; have hlo23 := hF23.lo; have hhi23 := hF23.hi; have HF23 := hid hF23; clear hF23; (try simp at hlo23)
    cases told
    all_goals
      go_wp2_with (fail)
      refine (c_laws_vIntervals _ _ _ _ _ _ (by first | exact hr22 | exact Rds.below hr22 (by (repeat' (first | exact Below.refl _ _ | assumption | refine Below.setCell ?_ ?_ _ | refine Below.drew ?_ | refine Below.alloc ?_ ?_ _ | refine Below.trans ?_ (Below.mono (by assumption) ?_) | (simp; done) | (simp; omega) | omega)))) (by first | exact hr23 | exact Rds.below hr23 (by (repeat' (first | exact Below.refl _ _ | assumption | refine Below.setCell ?_ ?_ _ | refine Below.drew ?_ | refine Below.alloc ?_ ?_ _ | refine Below.trans ?_ (Below.mono (by assumption) ?_) | (simp; done) | (simp; omega) | omega)))) (by omega)).mono ?_
      rintro e W24 ⟨rfl, hb24⟩
      have hc24 := cellOf hb24; have hf24 := frozOf hb24; have hz24 := sizeOf hb24; (try simp at hz24)
      go_wp2_with (fail)
      have hbV : Below w.heap.size w W24 := by (repeat' (first | exact Below.refl _ _ | assumption | refine Below.setCell ?_ ?_ _ | refine Below.drew ?_ | refine Below.alloc ?_ ?_ _ | refine Below.trans ?_ (Below.mono (by assumption) ?_) | (simp; done) | (simp; omega) | omega))
      clear hbW hzW hb21 hc21 hf21 hz21 hb22 hc22 hf22 hz22 hb23 hc23 hf23 hz23 hb24 hc24 hf24 hz24 HF21 hr21 hlo21 hhi21 HF22 hr22 hlo22 hhi22 HF23 hr23 hlo23 hhi23
      have hbW := hbV
      clear hbV
      have hzW := hbW.size
      clear hA hal
      go_wp2_with (fail)
      refine (c_spec_DrawNarrowVoyage A cs cap _ (hr.below (by (repeat' (first | exact Below.refl _ _ | assumption | refine Below.setCell ?_ ?_ _ | refine Below.drew ?_ | refine Below.alloc ?_ ?_ _ | refine Below.trans ?_ (Below.mono (by assumption) ?_) | (simp; done) | (simp; omega) | omega)))) hby (by omega)).mono ?_
      rintro e W31 ⟨a, b, A31, cp31, ys, c, d, rfl, h1, h2, hF31, hyl, h3, h4, hb31⟩
      have hc31 := cellOf hb31; have hf31 := frozOf hb31; have hz31 := sizeOf hb31; (try simp at hz31)
      have hr31 := hF31.rds; have hlo31 := hF31.lo; have hhi31 := hF31.hi; have HF31 := hid hF31; clear hF31; (try simp at hlo31)
      obtain ⟨p1, p2, q1, q2, fine, hN⟩ : ∃ p1 p2 q1 q2 fine, narrowV a b ys c d = (((p1, p2), (q1, q2)), fine) := ⟨_, _, _, _, _, rfl⟩
      go_wp2_with (fail)
      refine (c_impl_NarrowVoyage _ _ _ _ _ _ _ _ (by first | exact hr31 | exact Rds.below hr31 (by (repeat' (first | exact Below.refl _ _ | assumption | refine Below.setCell ?_ ?_ _ | refine Below.drew ?_ | refine Below.alloc ?_ ?_ _ | refine Below.trans ?_ (Below.mono (by assumption) ?_) | (simp; done) | (simp; omega) | omega)))) (by omega)).mono ?_
      rintro e W32 ⟨rfl, hb32⟩
      have hc32 := cellOf hb32; have hf32 := frozOf hb32; have hz32 := sizeOf hb32; (try simp at hz32)
      simp only [hN]
      go_wp2_with (fail)
      refine (c_spec_NarrowVoyage _ _ _ _ _ _ _ _ (by first | exact hr31 | exact Rds.below hr31 (by (repeat' (first | exact Below.refl _ _ | assumption | refine Below.setCell ?_ ?_ _ | refine Below.drew ?_ | refine Below.alloc ?_ ?_ _ | refine Below.trans ?_ (Below.mono (by assumption) ?_) | (simp; done) | (simp; omega) | omega)))) (by omega)).mono ?_
      rintro e W33 ⟨rfl, hb33⟩
      have hc33 := cellOf hb33; have hf33 := frozOf hb33; have hz33 := sizeOf hb33; (try simp at hz33)
      simp only [hN]
      cases fine
      · go_wp2_with (fail)
        have hbV : Below w.heap.size w W33 := by (repeat' (first | exact Below.refl _ _ | assumption | refine Below.setCell ?_ ?_ _ | refine Below.drew ?_ | refine Below.alloc ?_ ?_ _ | refine Below.trans ?_ (Below.mono (by assumption) ?_) | (simp; done) | (simp; omega) | omega))
        clear hbW hzW hb31 hc31 hf31 hz31 hb32 hc32 hf32 hz32 hb33 hc33 hf33 hz33 HF31 hr31 hlo31 hhi31
        have hbW := hbV
        clear hbV
        have hzW := hbW.size
        clear hN
        go_wp2_with (fail)
        refine (c_spec_DrawInTime A cs cap _ (hr.below (by (repeat' (first | exact Below.refl _ _ | assumption | refine Below.setCell ?_ ?_ _ | refine Below.drew ?_ | refine Below.alloc ?_ ?_ _ | refine Below.trans ?_ (Below.mono (by assumption) ?_) | (simp; done) | (simp; omega) | omega)))) hby (by omega)).mono ?_
        rintro e W41 ⟨⟨u, v, tt, rfl, j1, j2, j3⟩, hb41⟩
        have hc41 := cellOf hb41; have hf41 := frozOf hb41; have hz41 := sizeOf hb41; (try simp at hz41)
        obtain ⟨sure, known, hS⟩ : ∃ sure known, inTimeI u v tt = (sure, known) := ⟨_, _, rfl⟩
        go_wp2_with (fail)
        refine (c_impl_InTime _ _ _ _ ).mono ?_
        rintro e W42 ⟨rfl, hb42⟩
        have hc42 := cellOf hb42; have hf42 := frozOf hb42; have hz42 := sizeOf hb42; (try simp at hz42)
        simp only [hS]
        go_wp2_with (fail)
        refine (c_spec_InTime _ _ _ _ ).mono ?_
        rintro e W43 ⟨rfl, hb43⟩
        have hc43 := cellOf hb43; have hf43 := frozOf hb43; have hz43 := sizeOf hb43; (try simp at hz43)
        simp only [hS]
        go_wp2_with (fail)
        go_ret
        exact ⟨ret_bool (by simp), by (repeat' (first | exact Below.refl _ _ | assumption | refine Below.setCell ?_ ?_ _ | refine Below.drew ?_ | refine Below.alloc ?_ ?_ _ | refine Below.trans ?_ (Below.mono (by assumption) ?_) | (simp; done) | (simp; omega) | omega))⟩
      obtain ⟨hA, hB, hC⟩ := narrow_true hN
      go_wp2_with (fail)
      refine (c_impl_CommonInterval _ _ _ _ _ ).mono ?_
      rintro e W34 ⟨rfl, hb34⟩
      have hc34 := cellOf hb34; have hf34 := frozOf hb34; have hz34 := sizeOf hb34; (try simp at hz34)
      simp only [hA]
      go_wp2_with (fail)
      refine (c_impl_CommonInterval _ _ _ _ _ ).mono ?_
      rintro e W35 ⟨rfl, hb35⟩
      have hc35 := cellOf hb35; have hf35 := frozOf hb35; have hz35 := sizeOf hb35; (try simp at hz35)
      simp only [hB]
      go_wp2_with (fail)
      refine (c_impl_NarrowVoyage _ _ _ _ _ _ _ _ (by first | exact hr31 | exact Rds.below hr31 (by (repeat' (first | exact Below.refl _ _ | assumption | refine Below.setCell ?_ ?_ _ | refine Below.drew ?_ | refine Below.alloc ?_ ?_ _ | refine Below.trans ?_ (Below.mono (by assumption) ?_) | (simp; done) | (simp; omega) | omega)))) (by omega)).mono ?_
      rintro e W36 ⟨rfl, hb36⟩
      have hc36 := cellOf hb36; have hf36 := frozOf hb36; have hz36 := sizeOf hb36; (try simp at hz36)
      simp only [hC]
      go_wp2_with (fail)
      have hbV : Below w.heap.size w W36 := by (repeat' (first | exact Below.refl _ _ | assumption | refine Below.setCell ?_ ?_ _ | refine Below.drew ?_ | refine Below.alloc ?_ ?_ _ | refine Below.trans ?_ (Below.mono (by assumption) ?_) | (simp; done) | (simp; omega) | omega))
      clear hbW hzW hb31 hc31 hf31 hz31 hb32 hc32 hf32 hz32 hb33 hc33 hf33 hz33 hb34 hc34 hf34 hz34 hb35 hc35 hf35 hz35 hb36 hc36 hf36 hz36 HF31 hr31 hlo31 hhi31
      have hbW := hbV
      clear hbV
      have hzW := hbW.size
      clear hN hA hB hC
      go_wp2_with (fail)
      refine (c_spec_DrawInTime A cs cap _ (hr.below (by (repeat' (first | exact Below.refl _ _ | assumption | refine Below.setCell ?_ ?_ _ | refine Below.drew ?_ | refine Below.alloc ?_ ?_ _ | refine Below.trans ?_ (Below.mono (by assumption) ?_) | (simp; done) | (simp; omega) | omega)))) hby (by omega)).mono ?_
      rintro e W41 ⟨⟨u, v, tt, rfl, j1, j2, j3⟩, hb41⟩
      have hc41 := cellOf hb41; have hf41 := frozOf hb41; have hz41 := sizeOf hb41; (try simp at hz41)
      obtain ⟨sure, known, hS⟩ : ∃ sure known, inTimeI u v tt = (sure, known) := ⟨_, _, rfl⟩
      go_wp2_with (fail)
      refine (c_impl_InTime _ _ _ _ ).mono ?_
      rintro e W42 ⟨rfl, hb42⟩
      have hc42 := cellOf hb42; have hf42 := frozOf hb42; have hz42 := sizeOf hb42; (try simp at hz42)
      simp only [hS]
      go_wp2_with (fail)
      refine (c_spec_InTime _ _ _ _ ).mono ?_
      rintro e W43 ⟨rfl, hb43⟩
      have hc43 := cellOf hb43; have hf43 := frozOf hb43; have hz43 := sizeOf hb43; (try simp at hz43)
      simp only [hS]
      go_wp2_with (fail)
      go_ret
      exact ⟨ret_bool (by simp), by (repeat' (first | exact Below.refl _ _ | assumption | refine Below.setCell ?_ ?_ _ | refine Below.drew ?_ | refine Below.alloc ?_ ?_ _ | refine Below.trans ?_ (Below.mono (by assumption) ?_) | (simp; done) | (simp; omega) | omega))⟩
  obtain ⟨hat1, hat2⟩ := HAT.out (by omega)
  obtain ⟨bx, ox, hAX, hbx, hcx⟩ := hr5 _ _ hat1
  obtain ⟨by_, oy, hAY, hby2, hcy⟩ := hr6 _ _ hat2
  subst hAX hAY
  have hx0 := hcx 0 _ rfl
  have hx1 := hcx 1 _ rfl
  have hy0 := hcy 0 _ rfl
  have hy1 := hcy 1 _ rfl
  clear hcx hcy hat1 hat2
  simp only [Nat.add_zero] at hx0 hy0
  have hbl5 := hlo5 _ rfl
  have hbl6 := hlo6 _ rfl
  simp at hbl5 hbl6
  have hx0f : far W5 bx (ox + (RR.length - 1) * 2) = some (.int .i64 p1) := hx0
  have hx1f : far W5 bx (ox + (RR.length - 1) * 2 + 1) = some (.int .i64 p2) := hx1
  have hy0f : far W6 by_ (oy + (RR.length - 1) * 2) = some (.int .i64 q1) := hy0
  have hy1f : far W6 by_ (oy + (RR.length - 1) * 2 + 1) = some (.int .i64 q2) := hy1
  go_wp2_with (fail)
  refine (c_impl_InTime _ _ _ _ ).mono ?_
  rintro e W7 ⟨rfl, hb7⟩
  have hc7 := cellOf hb7; have hf7 := frozOf hb7; have hz7 := sizeOf hb7; (try simp at hz7)
  simp only [hI]
  go_wp2_with (fail)
  refine (c_impl_InTime _ _ _ _ ).mono ?_
  rintro e W8 ⟨rfl, hb8⟩
  have hc8 := cellOf hb8; have hf8 := frozOf hb8; have hz8 := sizeOf hb8; (try simp at hz8)
  simp only [hJ]
  go_wp2_with (fail)
  have hbV : Below w.heap.size w W8 := by (repeat' (first | exact Below.refl _ _ | assumption | refine Below.setCell ?_ ?_ _ | refine Below.drew ?_ | refine Below.alloc ?_ ?_ _ | refine Below.trans ?_ (Below.mono (by assumption) ?_) | (simp; done) | (simp; omega) | omega))
  clear hbW hzW hb2 hc2 hf2 hz2 hb3 hc3 hf3 hz3 hb4 hc4 hf4 hz4 hb5 hc5 hf5 hz5 hb6 hc6 hf6 hz6 hb7 hc7 hf7 hz7 hb8 hc8 hf8 hz8 HF2 hr2 hlo2 hhi2 HF5 hr5 hlo5 hhi5 HF6 hr6 hlo6 hhi6
  have hbW := hbV
  clear hbV
  have hzW := hbW.size
  clear hA hB hI hJ HAT hx0 hx1 hy0 hy1 hx0f hx1f hy0f hy1f
  go_wp2_with (fail)
  refine (c_spec_DrawAlongVoyage A cs cap _ (hr.below (by (repeat' (first | exact Below.refl _ _ | assumption | refine Below.setCell ?_ ?_ _ | refine Below.drew ?_ | refine Below.alloc ?_ ?_ _ | refine Below.trans ?_ (Below.mono (by assumption) ?_) | (simp; done) | (simp; omega) | omega)))) hby (by omega)).mono ?_
  rintro e W21 ⟨a0, b0, A21, cp21, zs, rfl, g1, g2, hF21, hzl, hb21⟩
  have hc21 := cellOf hb21; have hf21 := frozOf hb21; have hz21 := sizeOf hb21; (try simp at hz21)
  have hr21 := hF21.rds; have hlo21 := hF21.lo; have hhi21 := hF21.hi; have HF21 := hid hF21; clear hF21; (try simp at hlo21)
  have hal := alongV_len a0 b0 zs
  obtain ⟨al, told, hA⟩ : ∃ al told, alongV a0 b0 zs = (al, told) := ⟨_, _, rfl⟩
  rw [hA] at hal
  simp only at hal
  go_wp2_with (fail)
  refine (c_impl_AlongVoyage _ _ _ _ _ _ (by first | exact hr21 | exact Rds.below hr21 (by (repeat' (first | exact Below.refl _ _ | assumption | refine Below.setCell ?_ ?_ _ | refine Below.drew ?_ | refine Below.alloc ?_ ?_ _ | refine Below.trans ?_ (Below.mono (by assumption) ?_) | (simp; done) | (simp; omega) | omega)))) (by omega)).mono ?_
  rintro e W22 ⟨A22, cp22, rfl, hF22, hb22⟩
  simp only [hA] at hF22 ⊢
  have hc22 := cellOf hb22; have hf22 := frozOf hb22; have hz22 := sizeOf hb22; (try simp at hz22); have hr22 := hF22.rds; have hlo22 := hF22.lo; have hhi22 := hF22.hi; have HF22 := hid hF22; clear hF22; (try simp at hlo22)
  go_wp2_with (fail)
  refine (c_spec_AlongVoyage _ _ _ _ _ _ (by first | exact hr21 | exact Rds.below hr21 (by (repeat' (first | exact Below.refl _ _ | assumption | refine Below.setCell ?_ ?_ _ | refine Below.drew ?_ | refine Below.alloc ?_ ?_ _ | refine Below.trans ?_ (Below.mono (by assumption) ?_) | (simp; done) | (simp; omega) | omega)))) (by omega)).mono ?_
  rintro e W23 ⟨A23, cp23, rfl, hF23, hb23⟩
  simp only [hA] at hF23 ⊢
  have hc23 := cellOf hb23; have hf23 := frozOf hb23; have hz23 := sizeOf hb23; (try simp at hz23); have hr23 := hF23.rds; have hlo23 := hF23.lo; have hhi23 := hF23.hi; have HF23 := hid hF23; clear hF23; (try simp at hlo23)
  cases told
  all_goals
    go_wp2_with (fail)
    refine (c_laws_vIntervals _ _ _ _ _ _ (by first | exact hr22 | exact Rds.below hr22 (by (repeat' (first | exact Below.refl _ _ | assumption | refine Below.setCell ?_ ?_ _ | refine Below.drew ?_ | refine Below.alloc ?_ ?_ _ | refine Below.trans ?_ (Below.mono (by assumption) ?_) | (simp; done) | (simp; omega) | omega)))) (by first | exact hr23 | exact Rds.below hr23 (by (repeat' (first | exact Below.refl _ _ | assumption | refine Below.setCell ?_ ?_ _ | refine Below.drew ?_ | refine Below.alloc ?_ ?_ _ | refine Below.trans ?_ (Below.mono (by assumption) ?_) | (simp; done) | (simp; omega) | omega)))) (by omega)).mono ?_
    rintro e W24 ⟨rfl, hb24⟩
    have hc24 := cellOf hb24; have hf24 := frozOf hb24; have hz24 := sizeOf hb24; (try simp at hz24)
    go_wp2_with (fail)
    have hbV : Below w.heap.size w W24 := by (repeat' (first | exact Below.refl _ _ | assumption | refine Below.setCell ?_ ?_ _ | refine Below.drew ?_ | refine Below.alloc ?_ ?_ _ | refine Below.trans ?_ (Below.mono (by assumption) ?_) | (simp; done) | (simp; omega) | omega))
    clear hbW hzW hb21 hc21 hf21 hz21 hb22 hc22 hf22 hz22 hb23 hc23 hf23 hz23 hb24 hc24 hf24 hz24 HF21 hr21 hlo21 hhi21 HF22 hr22 hlo22 hhi22 HF23 hr23 hlo23 hhi23
    have hbW := hbV
    clear hbV
    have hzW := hbW.size
    clear hA hal
    go_wp2_with (fail)
    refine (c_spec_DrawNarrowVoyage A cs cap _ (hr.below (by (repeat' (first | exact Below.refl _ _ | assumption | refine Below.setCell ?_ ?_ _ | refine Below.drew ?_ | refine Below.alloc ?_ ?_ _ | refine Below.trans ?_ (Below.mono (by assumption) ?_) | (simp; done) | (simp; omega) | omega)))) hby (by omega)).mono ?_
    rintro e W31 ⟨a, b, A31, cp31, ys, c, d, rfl, h1, h2, hF31, hyl, h3, h4, hb31⟩
    have hc31 := cellOf hb31; have hf31 := frozOf hb31; have hz31 := sizeOf hb31; (try simp at hz31)
    have hr31 := hF31.rds; have hlo31 := hF31.lo; have hhi31 := hF31.hi; have HF31 := hid hF31; clear hF31; (try simp at hlo31)
    obtain ⟨p1, p2, q1, q2, fine, hN⟩ : ∃ p1 p2 q1 q2 fine, narrowV a b ys c d = (((p1, p2), (q1, q2)), fine) := ⟨_, _, _, _, _, rfl⟩
    go_wp2_with (fail)
    refine (c_impl_NarrowVoyage _ _ _ _ _ _ _ _ (by first | exact hr31 | exact Rds.below hr31 (by (repeat' (first | exact Below.refl _ _ | assumption | refine Below.setCell ?_ ?_ _ | refine Below.drew ?_ | refine Below.alloc ?_ ?_ _ | refine Below.trans ?_ (Below.mono (by assumption) ?_) | (simp; done) | (simp; omega) | omega)))) (by omega)).mono ?_
    rintro e W32 ⟨rfl, hb32⟩
    have hc32 := cellOf hb32; have hf32 := frozOf hb32; have hz32 := sizeOf hb32; (try simp at hz32)
    simp only [hN]
    go_wp2_with (fail)
    refine (c_spec_NarrowVoyage _ _ _ _ _ _ _ _ (by first | exact hr31 | exact Rds.below hr31 (by (repeat' (first | exact Below.refl _ _ | assumption | refine Below.setCell ?_ ?_ _ | refine Below.drew ?_ | refine Below.alloc ?_ ?_ _ | refine Below.trans ?_ (Below.mono (by assumption) ?_) | (simp; done) | (simp; omega) | omega)))) (by omega)).mono ?_
    rintro e W33 ⟨rfl, hb33⟩
    have hc33 := cellOf hb33; have hf33 := frozOf hb33; have hz33 := sizeOf hb33; (try simp at hz33)
    simp only [hN]
    cases fine
    · go_wp2_with (fail)
      have hbV : Below w.heap.size w W33 := by (repeat' (first | exact Below.refl _ _ | assumption | refine Below.setCell ?_ ?_ _ | refine Below.drew ?_ | refine Below.alloc ?_ ?_ _ | refine Below.trans ?_ (Below.mono (by assumption) ?_) | (simp; done) | (simp; omega) | omega))
      clear hbW hzW hb31 hc31 hf31 hz31 hb32 hc32 hf32 hz32 hb33 hc33 hf33 hz33 HF31 hr31 hlo31 hhi31
      have hbW := hbV
      clear hbV
      have hzW := hbW.size
      clear hN
      go_wp2_with (fail)
      refine (c_spec_DrawInTime A cs cap _ (hr.below (by (repeat' (first | exact Below.refl _ _ | assumption | refine Below.setCell ?_ ?_ _ | refine Below.drew ?_ | refine Below.alloc ?_ ?_ _ | refine Below.trans ?_ (Below.mono (by assumption) ?_) | (simp; done) | (simp; omega) | omega)))) hby (by omega)).mono ?_
      rintro e W41 ⟨⟨u, v, tt, rfl, j1, j2, j3⟩, hb41⟩
      have hc41 := cellOf hb41; have hf41 := frozOf hb41; have hz41 := sizeOf hb41; (try simp at hz41)
      obtain ⟨sure, known, hS⟩ : ∃ sure known, inTimeI u v tt = (sure, known) := ⟨_, _, rfl⟩
      go_wp2_with (fail)
      refine (c_impl_InTime _ _ _ _ ).mono ?_
      rintro e W42 ⟨rfl, hb42⟩
      have hc42 := cellOf hb42; have hf42 := frozOf hb42; have hz42 := sizeOf hb42; (try simp at hz42)
      simp only [hS]
      go_wp2_with (fail)
      refine (c_spec_InTime _ _ _ _ ).mono ?_
      rintro e W43 ⟨rfl, hb43⟩
      have hc43 := cellOf hb43; have hf43 := frozOf hb43; have hz43 := sizeOf hb43; (try simp at hz43)
      simp only [hS]
      go_wp2_with (fail)
      go_ret
      exact ⟨ret_bool (by simp), by (repeat' (first | exact Below.refl _ _ | assumption | refine Below.setCell ?_ ?_ _ | refine Below.drew ?_ | refine Below.alloc ?_ ?_ _ | refine Below.trans ?_ (Below.mono (by assumption) ?_) | (simp; done) | (simp; omega) | omega))⟩
    obtain ⟨hA, hB, hC⟩ := narrow_true hN
    go_wp2_with (fail)
    refine (c_impl_CommonInterval _ _ _ _ _ ).mono ?_
    rintro e W34 ⟨rfl, hb34⟩
    have hc34 := cellOf hb34; have hf34 := frozOf hb34; have hz34 := sizeOf hb34; (try simp at hz34)
    simp only [hA]
    go_wp2_with (fail)
    refine (c_impl_CommonInterval _ _ _ _ _ ).mono ?_
    rintro e W35 ⟨rfl, hb35⟩
    have hc35 := cellOf hb35; have hf35 := frozOf hb35; have hz35 := sizeOf hb35; (try simp at hz35)
    simp only [hB]
    go_wp2_with (fail)
    refine (c_impl_NarrowVoyage _ _ _ _ _ _ _ _ (by first | exact hr31 | exact Rds.below hr31 (by (repeat' (first | exact Below.refl _ _ | assumption | refine Below.setCell ?_ ?_ _ | refine Below.drew ?_ | refine Below.alloc ?_ ?_ _ | refine Below.trans ?_ (Below.mono (by assumption) ?_) | (simp; done) | (simp; omega) | omega)))) (by omega)).mono ?_
    rintro e W36 ⟨rfl, hb36⟩
    have hc36 := cellOf hb36; have hf36 := frozOf hb36; have hz36 := sizeOf hb36; (try simp at hz36)
    simp only [hC]
    go_wp2_with (fail)
    have hbV : Below w.heap.size w W36 := by (repeat' (first | exact Below.refl _ _ | assumption | refine Below.setCell ?_ ?_ _ | refine Below.drew ?_ | refine Below.alloc ?_ ?_ _ | refine Below.trans ?_ (Below.mono (by assumption) ?_) | (simp; done) | (simp; omega) | omega))
    clear hbW hzW hb31 hc31 hf31 hz31 hb32 hc32 hf32 hz32 hb33 hc33 hf33 hz33 hb34 hc34 hf34 hz34 hb35 hc35 hf35 hz35 hb36 hc36 hf36 hz36 HF31 hr31 hlo31 hhi31
    have hbW := hbV
    clear hbV
    have hzW := hbW.size
    clear hN hA hB hC
    go_wp2_with (fail)
    refine (c_spec_DrawInTime A cs cap _ (hr.below (by (repeat' (first | exact Below.refl _ _ | assumption | refine Below.setCell ?_ ?_ _ | refine Below.drew ?_ | refine Below.alloc ?_ ?_ _ | refine Below.trans ?_ (Below.mono (by assumption) ?_) | (simp; done) | (simp; omega) | omega)))) hby (by omega)).mono ?_
    rintro e W41 ⟨⟨u, v, tt, rfl, j1, j2, j3⟩, hb41⟩
    have hc41 := cellOf hb41; have hf41 := frozOf hb41; have hz41 := sizeOf hb41; (try simp at hz41)
    obtain ⟨sure, known, hS⟩ : ∃ sure known, inTimeI u v tt = (sure, known) := ⟨_, _, rfl⟩
    go_wp2_with (fail)
    refine (c_impl_InTime _ _ _ _ ).mono ?_
    rintro e W42 ⟨rfl, hb42⟩
    have hc42 := cellOf hb42; have hf42 := frozOf hb42; have hz42 := sizeOf hb42; (try simp at hz42)
    simp only [hS]
    go_wp2_with (fail)
    refine (c_spec_InTime _ _ _ _ ).mono ?_
    rintro e W43 ⟨rfl, hb43⟩
    have hc43 := cellOf hb43; have hf43 := frozOf hb43; have hz43 := sizeOf hb43; (try simp at hz43)
    simp only [hS]
    go_wp2_with (fail)
    go_ret
    exact ⟨ret_bool (by simp), by (repeat' (first | exact Below.refl _ _ | assumption | refine Below.setCell ?_ ?_ _ | refine Below.drew ?_ | refine Below.alloc ?_ ?_ _ | refine Below.trans ?_ (Below.mono (by assumption) ?_) | (simp; done) | (simp; omega) | omega))⟩

end Go.Proofs.Ythlmeofjjmfpnaa
