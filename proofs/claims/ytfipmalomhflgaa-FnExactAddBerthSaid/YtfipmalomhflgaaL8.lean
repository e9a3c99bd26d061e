import Derived.Test.YtfipmalomhflgaaAbi
import Derived.Test.YtfipmalomhflgaaAbs
import Derived.Test.YtfipmalomhflgaaB6t
import Derived.Test.YtfipmalomhflgaaB7t
import Derived.Test.YtfipmalomhflgaaB7m
import Derived.Test.YtfipmalomhflgaaB8
namespace Go.Proofs.Ytfipmalomhflgaa
set_option linter.unusedSimpArgs false
set_option linter.unusedVariables false
open Go.RowKit

set_option maxRecDepth 100000 in
set_option maxHeartbeats 8000000 in
theorem c_laws_FnExactAddBerth (q : Int) (A : Option Addr) (xs : List (Int × Int × Int × Int × Int)) (cap : Nat) (z1 z2 z3 z4 z5 : Int) (w : World) (hr_xs : Rds cBer 5 w A xs) (hn : xs.length ≤ 9223372036854775807) :
    Calls Try.prog 10 #[.int .i64 q, .slice A xs.length cap, .agg #[.int .i64 z1, .int .i64 z2, .int .i64 z3, .int .i64 z4, .int .i64 z5]] w fun e w' => e = .returned (.bool true) ∧ Below w.heap.size w w' := by
  by_cases hsz_xs : xs.length ≤ 1048576
  rotate_left
  · go_enter Try.func10, Try.ntmps10
    go_wp2_with (go_at_call 14; refine (c_laws_szBerthS _ _ _ _ _ (by omega) (by omega)).mono ?_; rintro e w' ⟨rfl, hb⟩; have hc := cellOf hb; have hf := frozOf hb; have hz := sizeOf hb; try simp at hz)
    all_goals go_ret
    all_goals exact ⟨rfl, by (repeat' (first | exact Below.refl _ _ | assumption | refine Below.setCell ?_ ?_ _ | refine Below.drew ?_ | refine Below.alloc ?_ ?_ _ | refine Below.trans ?_ (Below.mono (by assumption) ?_) | (simp; done) | (simp; omega) | omega))⟩
  have hLl := addV_len q xs (z1, z2, z3, z4, z5)
  go_enter Try.func10, Try.ntmps10
  go_wp2_with (fail)
  refine (c_laws_szBerthS _ _ _ _ _ (by omega) (by omega)).mono ?_
  rintro e W1 ⟨rfl, hb1⟩
  have hc1 := cellOf hb1
  have hf1 := frozOf hb1
  have hz1 := sizeOf hb1
  try simp at hz1
  go_wp2_with (fail)
  refine wp_named ?_
  intro WA1 hWA
  have p0 : WA1.cell? ⟨w.heap.size, 0, none⟩ = some (.int .i64 z1) := by (try rw [hWA]); first | (simp [go_sem, ↓IntWalk.iteOmega, *]; done) | (simp [go_sem, ↓IntWalk.iteOmega, *]; intros; omega)
  have p1 : WA1.cell? ⟨w.heap.size, 1, none⟩ = some (.int .i64 z2) := by (try rw [hWA]); first | (simp [go_sem, ↓IntWalk.iteOmega, *]; done) | (simp [go_sem, ↓IntWalk.iteOmega, *]; intros; omega)
  have p2 : WA1.cell? ⟨w.heap.size, 2, none⟩ = some (.int .i64 z3) := by (try rw [hWA]); first | (simp [go_sem, ↓IntWalk.iteOmega, *]; done) | (simp [go_sem, ↓IntWalk.iteOmega, *]; intros; omega)
  have p3 : WA1.cell? ⟨w.heap.size, 3, none⟩ = some (.int .i64 z4) := by (try rw [hWA]); first | (simp [go_sem, ↓IntWalk.iteOmega, *]; done) | (simp [go_sem, ↓IntWalk.iteOmega, *]; intros; omega)
  have p4 : WA1.cell? ⟨w.heap.size, 4, none⟩ = some (.int .i64 z5) := by (try rw [hWA]); first | (simp [go_sem, ↓IntWalk.iteOmega, *]; done) | (simp [go_sem, ↓IntWalk.iteOmega, *]; intros; omega)
  have hbWA1 : Below w.heap.size w WA1 := by rw [hWA]; (repeat' (first | exact Below.refl _ _ | assumption | refine Below.setCell ?_ ?_ _ | refine Below.drew ?_ | refine Below.alloc ?_ ?_ _ | refine Below.trans ?_ (Below.mono (by assumption) ?_) | (simp; done) | (simp; omega) | omega))
  have hzWA1 := hbWA1.size
  have hkWA1 : Below W1.heap.size W1 WA1 := by rw [hWA]; (repeat' (first | exact Below.refl _ _ | assumption | refine Below.setCell ?_ ?_ _ | refine Below.drew ?_ | refine Below.alloc ?_ ?_ _ | refine Below.trans ?_ (Below.mono (by assumption) ?_) | (simp; done) | (simp; omega) | omega))
  have hzkWA1 := hkWA1.size
  clear hWA
  have HKEEP1 : Hid (∀ w', Below WA1.heap.size WA1 w' → w'.cell? ⟨w.heap.size, 0, none⟩ = some (.int .i64 z1) ∧ w'.cell? ⟨w.heap.size, 1, none⟩ = some (.int .i64 z2) ∧ w'.cell? ⟨w.heap.size, 2, none⟩ = some (.int .i64 z3) ∧ w'.cell? ⟨w.heap.size, 3, none⟩ = some (.int .i64 z4) ∧ w'.cell? ⟨w.heap.size, 4, none⟩ = some (.int .i64 z5)) := fun w' hb => ⟨(hb.cell (p := ⟨w.heap.size, 0, none⟩) (by show w.heap.size < _; omega)).trans p0, (hb.cell (p := ⟨w.heap.size, 1, none⟩) (by show w.heap.size < _; omega)).trans p1, (hb.cell (p := ⟨w.heap.size, 2, none⟩) (by show w.heap.size < _; omega)).trans p2, (hb.cell (p := ⟨w.heap.size, 3, none⟩) (by show w.heap.size < _; omega)).trans p3, (hb.cell (p := ⟨w.heap.size, 4, none⟩) (by show w.heap.size < _; omega)).trans p4⟩
  go_region_held3 (fun w' => w'.cell? ⟨w.heap.size, 0, none⟩ = some (.int .i64 z1) ∧ w'.cell? ⟨w.heap.size, 1, none⟩ = some (.int .i64 z2) ∧ w'.cell? ⟨w.heap.size, 2, none⟩ = some (.int .i64 z3) ∧ w'.cell? ⟨w.heap.size, 3, none⟩ = some (.int .i64 z4) ∧ w'.cell? ⟨w.heap.size, 4, none⟩ = some (.int .i64 z5)) (first | assumption | exact HKEEP1.out _ (by (repeat' (first | exact Below.refl _ _ | assumption | refine Below.setCell ?_ ?_ _ | refine Below.drew ?_ | refine Below.alloc ?_ ?_ _ | refine Below.trans ?_ (Below.mono (by assumption) ?_) | (simp; done) | (simp; omega) | omega)))) (first | (go_at_call 16; refine (c_laws_toBerthS _ _ _ _ (by first | exact hr_xs | exact Rds.below hr_xs (by (repeat' (first | exact Below.refl _ _ | assumption | refine Below.setCell ?_ ?_ _ | refine Below.drew ?_ | refine Below.alloc ?_ ?_ _ | refine Below.trans ?_ (Below.mono (by assumption) ?_) | (simp; done) | (simp; omega) | omega)))) (by omega)).mono ?_; rintro e W2 ⟨g2, rfl, hg2, ho2, hb2⟩; have hF2 : FreshA cBer 5 48 _ _ _ _ _ := .inr ⟨g2, rfl, hg2, ho2⟩; have hr2 := hF2.rds; have hlo2 := hF2.lo; have hhi2 := hF2.hi; have HF2 := hid hF2; clear hF2; (try simp at hlo2); clear ho2 hg2; have hc2 := cellOf hb2; have hf2 := frozOf hb2; have hz2 := sizeOf hb2; (try simp at hz2)) | (go_at_call 37; refine (c_laws_toBerth _ _ _ _ _ _).mono ?_; rintro e W3 ⟨rfl, hb3⟩; have hc3 := cellOf hb3; have hf3 := frozOf hb3; have hz3 := sizeOf hb3; (try simp at hz3)) | (go_at_call 36; refine (c_spec_AddBerth _ _ _ _ _ _ _ _ _ _ (by first | exact hr2 | exact Rds.below hr2 (by (repeat' (first | exact Below.refl _ _ | assumption | refine Below.setCell ?_ ?_ _ | refine Below.drew ?_ | refine Below.alloc ?_ ?_ _ | refine Below.trans ?_ (Below.mono (by assumption) ?_) | (simp; done) | (simp; omega) | omega)))) (by omega) (by omega)).mono ?_; rintro e W4 ⟨A4, cp4, rfl, hF4, hb4⟩; have hr4 := hF4.rds; have hlo4 := hF4.lo; have hhi4 := hF4.hi; have HF4 := hid hF4; clear hF4; (try simp at hlo4); have hc4 := cellOf hb4; have hf4 := frozOf hb4; have hz4 := sizeOf hb4; (try simp at hz4)))
  go_wp2_with (fail)
  refine (c_laws_toBerthS _ _ _ _ (by first | exact hr_xs | exact Rds.below hr_xs (by (repeat' (first | exact Below.refl _ _ | assumption | refine Below.setCell ?_ ?_ _ | refine Below.drew ?_ | refine Below.alloc ?_ ?_ _ | refine Below.trans ?_ (Below.mono (by assumption) ?_) | (simp; done) | (simp; omega) | omega)))) (by omega)).mono ?_
  rintro e W5 ⟨g5, rfl, hg5, ho5, hb5⟩
  have hF5 : FreshA cBer 5 48 _ _ _ _ _ := .inr ⟨g5, rfl, hg5, ho5⟩
  have hr5 := hF5.rds
  have hlo5 := hF5.lo
  have hhi5 := hF5.hi
  have HF5 := hid hF5
  clear hF5
  try simp at hlo5
  clear ho5 hg5
  have hc5 := cellOf hb5
  have hf5 := frozOf hb5
  have hz5 := sizeOf hb5
  try simp at hz5
  go_wp2_with (fail)
  refine (c_laws_toBerth _ _ _ _ _ _).mono ?_
  rintro e W6 ⟨rfl, hb6⟩
  have hc6 := cellOf hb6
  have hf6 := frozOf hb6
  have hz6 := sizeOf hb6
  try simp at hz6
  go_wp2_with (fail)
  refine (c_impl_AddBerth _ _ _ _ _ _ _ _ _ _ (by first | exact hr5 | exact Rds.below hr5 (by (repeat' (first | exact Below.refl _ _ | assumption | refine Below.setCell ?_ ?_ _ | refine Below.drew ?_ | refine Below.alloc ?_ ?_ _ | refine Below.trans ?_ (Below.mono (by assumption) ?_) | (simp; done) | (simp; omega) | omega)))) (by omega) (by omega) (by omega) ).mono ?_
  rintro e W7 ⟨A7, cp7, rfl, hF7, hb7⟩
  have hr7 := hF7.rds
  have hlo7 := hF7.lo
  have hhi7 := hF7.hi
  have HF7 := hid hF7
  clear hF7
  try simp at hlo7
  have hc7 := cellOf hb7
  have hf7 := frozOf hb7
  have hz7 := sizeOf hb7
  try simp at hz7
  go_wp2_with (fail)
  refine (c_laws_eqBerthS _ _ _ _ _ _ _ (by first | exact hr7 | exact Rds.below hr7 (by (repeat' (first | exact Below.refl _ _ | assumption | refine Below.setCell ?_ ?_ _ | refine Below.drew ?_ | refine Below.alloc ?_ ?_ _ | refine Below.trans ?_ (Below.mono (by assumption) ?_) | (simp; done) | (simp; omega) | omega)))) (by first | exact hr4 | exact Rds.below hr4 (by (repeat' (first | exact Below.refl _ _ | assumption | refine Below.setCell ?_ ?_ _ | refine Below.drew ?_ | refine Below.alloc ?_ ?_ _ | refine Below.trans ?_ (Below.mono (by assumption) ?_) | (simp; done) | (simp; omega) | omega)))) (by omega) (by omega)).mono ?_
  rintro e W8 ⟨rfl, hb8⟩
  have hc8 := cellOf hb8
  have hf8 := frozOf hb8
  have hz8 := sizeOf hb8
  try simp at hz8
  go_wp2_with (fail)
  refine (c_laws_toBerthS _ _ _ _ (by first | exact hr_xs | exact Rds.below hr_xs (by (repeat' (first | exact Below.refl _ _ | assumption | refine Below.setCell ?_ ?_ _ | refine Below.drew ?_ | refine Below.alloc ?_ ?_ _ | refine Below.trans ?_ (Below.mono (by assumption) ?_) | (simp; done) | (simp; omega) | omega)))) (by omega)).mono ?_
  rintro e W9 ⟨g9, rfl, hg9, ho9, hb9⟩
  have hF9 : FreshA cBer 5 48 _ _ _ _ _ := .inr ⟨g9, rfl, hg9, ho9⟩
  have hr9 := hF9.rds
  have hlo9 := hF9.lo
  have hhi9 := hF9.hi
  have HF9 := hid hF9
  clear hF9
  try simp at hlo9
  clear ho9 hg9
  have hc9 := cellOf hb9
  have hf9 := frozOf hb9
  have hz9 := sizeOf hb9
  try simp at hz9
  go_wp2_with (fail)
  refine (c_laws_eqBerthS _ _ _ _ _ _ _ (by first | exact hr5 | exact Rds.below hr5 (by (repeat' (first | exact Below.refl _ _ | assumption | refine Below.setCell ?_ ?_ _ | refine Below.drew ?_ | refine Below.alloc ?_ ?_ _ | refine Below.trans ?_ (Below.mono (by assumption) ?_) | (simp; done) | (simp; omega) | omega)))) (by first | exact hr9 | exact Rds.below hr9 (by (repeat' (first | exact Below.refl _ _ | assumption | refine Below.setCell ?_ ?_ _ | refine Below.drew ?_ | refine Below.alloc ?_ ?_ _ | refine Below.trans ?_ (Below.mono (by assumption) ?_) | (simp; done) | (simp; omega) | omega)))) (by omega) (by omega)).mono ?_
  rintro e W10 ⟨rfl, hb10⟩
  have hc10 := cellOf hb10
  have hf10 := frozOf hb10
  have hz10 := sizeOf hb10
  try simp at hz10
  go_wp2_with (fail)
  refine (c_laws_markBerthS _ _ _ _ _ _ (FreshA.below HF5.out (by (repeat' (first | exact Below.refl _ _ | assumption | refine Below.setCell ?_ ?_ _ | refine Below.drew ?_ | refine Below.alloc ?_ ?_ _ | refine Below.trans ?_ (Below.mono (by assumption) ?_) | (simp; done) | (simp; omega) | omega)))) (by omega) (by omega)).mono ?_
  rintro e W11 ⟨rfl, hF11, hg11⟩
  have hb11 := below_of_grown hg11 hlo5 (by (try simp); omega)
  have hc11 := cellGrown hg11 hlo5 hhi5
  have hf11 := frozGrown hg11 hlo5 hhi5
  have hz11 := hg11.size
  try simp at hz11
  have hn11_aList := RdsN.past (Rds.toN hr_xs) (by first | exact Nat.le_refl _ | omega) (by (repeat' (first | exact Below.refl _ _ | assumption | refine Below.setCell ?_ ?_ _ | refine Below.drew ?_ | refine Below.alloc ?_ ?_ _ | refine Below.trans ?_ (Below.mono (by assumption) ?_) | (simp; done) | (simp; omega) | omega))) hg11 hlo5 (by omega)
  have hr11_aList := RdsN.rds hn11_aList (by omega)
  have hn11_w0 := RdsN.past (Rds.toN hr4) (by first | exact Nat.le_refl _ | omega) (by (repeat' (first | exact Below.refl _ _ | assumption | refine Below.setCell ?_ ?_ _ | refine Below.drew ?_ | refine Below.alloc ?_ ?_ _ | refine Below.trans ?_ (Below.mono (by assumption) ?_) | (simp; done) | (simp; omega) | omega))) hg11 hlo5 (by omega)
  have hr11_w0 := RdsN.rds hn11_w0 (by omega)
  have hF11_g0 := FreshA.grown (FreshA.below HF7.out (by (repeat' (first | exact Below.refl _ _ | assumption | refine Below.setCell ?_ ?_ _ | refine Below.drew ?_ | refine Below.alloc ?_ ?_ _ | refine Below.trans ?_ (Below.mono (by assumption) ?_) | (simp; done) | (simp; omega) | omega)))) hg11 (apart_hl (Lo.mono hlo7 (by omega)) hhi5)
  have hr11_g0 := hF11_g0.rds
  have HF11_g0 := hid hF11_g0
  clear hF11_g0
  have hr11 := hF11.rds
  have HF11 := hid hF11
  clear hF11
  go_wp2_with (fail)
  refine (c_laws_eqBerthS _ _ _ _ _ _ _ (by first | exact hr11_g0 | exact Rds.below hr11_g0 (by (repeat' (first | exact Below.refl _ _ | assumption | refine Below.setCell ?_ ?_ _ | refine Below.drew ?_ | refine Below.alloc ?_ ?_ _ | refine Below.trans ?_ (Below.mono (by assumption) ?_) | (simp; done) | (simp; omega) | omega)))) (by first | exact hr11_w0 | exact Rds.below hr11_w0 (by (repeat' (first | exact Below.refl _ _ | assumption | refine Below.setCell ?_ ?_ _ | refine Below.drew ?_ | refine Below.alloc ?_ ?_ _ | refine Below.trans ?_ (Below.mono (by assumption) ?_) | (simp; done) | (simp; omega) | omega)))) (by omega) (by omega)).mono ?_
  rintro e W12 ⟨rfl, hb12⟩
  have hc12 := cellOf hb12
  have hf12 := frozOf hb12
  have hz12 := sizeOf hb12
  try simp at hz12
  go_wp2_with (fail)
  refine (c_laws_markBerthS _ _ _ _ _ _ (FreshA.below HF11_g0.out (by (repeat' (first | exact Below.refl _ _ | assumption | refine Below.setCell ?_ ?_ _ | refine Below.drew ?_ | refine Below.alloc ?_ ?_ _ | refine Below.trans ?_ (Below.mono (by assumption) ?_) | (simp; done) | (simp; omega) | omega)))) (by omega) (by omega)).mono ?_
  rintro e W13 ⟨rfl, hF13, hg13⟩
  have hb13 := below_of_grown hg13 hlo7 (by (try simp); omega)
  have hc13 := cellGrown hg13 hlo7 hhi7
  have hf13 := frozGrown hg13 hlo7 hhi7
  have hz13 := hg13.size
  try simp at hz13
  have hn13_aList := RdsN.past (hn11_aList) (by first | exact Nat.le_refl _ | omega) (by (repeat' (first | exact Below.refl _ _ | assumption | refine Below.setCell ?_ ?_ _ | refine Below.drew ?_ | refine Below.alloc ?_ ?_ _ | refine Below.trans ?_ (Below.mono (by assumption) ?_) | (simp; done) | (simp; omega) | omega))) hg13 hlo7 (by omega)
  have hr13_aList := RdsN.rds hn13_aList (by omega)
  have hn13_w0 := RdsN.past (hn11_w0) (by first | exact Nat.le_refl _ | omega) (by (repeat' (first | exact Below.refl _ _ | assumption | refine Below.setCell ?_ ?_ _ | refine Below.drew ?_ | refine Below.alloc ?_ ?_ _ | refine Below.trans ?_ (Below.mono (by assumption) ?_) | (simp; done) | (simp; omega) | omega))) hg13 hlo7 (by omega)
  have hr13_w0 := RdsN.rds hn13_w0 (by omega)
  have hn13_x1 := RdsN.past (RdsN.ofHi hr11 hhi5) (by first | exact Nat.le_refl _ | omega) (by (repeat' (first | exact Below.refl _ _ | assumption | refine Below.setCell ?_ ?_ _ | refine Below.drew ?_ | refine Below.alloc ?_ ?_ _ | refine Below.trans ?_ (Below.mono (by assumption) ?_) | (simp; done) | (simp; omega) | omega))) hg13 hlo7 (by omega)
  have hr13_x1 := RdsN.rds hn13_x1 (by omega)
  have hr13 := hF13.rds
  have HF13 := hid hF13
  clear hF13
  go_wp2_with (fail)
  refine (c_laws_heldBerthS _ _ _ _ _ (by first | exact hr13 | exact Rds.below hr13 (by (repeat' (first | exact Below.refl _ _ | assumption | refine Below.setCell ?_ ?_ _ | refine Below.drew ?_ | refine Below.alloc ?_ ?_ _ | refine Below.trans ?_ (Below.mono (by assumption) ?_) | (simp; done) | (simp; omega) | omega)))) (by omega) (by omega)).mono ?_
  rintro e W14 ⟨rfl, hb14⟩
  have hc14 := cellOf hb14
  have hf14 := frozOf hb14
  have hz14 := sizeOf hb14
  try simp at hz14
  go_wp2_with (fail)
  refine wp_named ?_
  intro WA2 hWA
  have p0 : WA2.cell? ⟨w.heap.size, 0, none⟩ = some (.int .i64 z1) := by (try rw [hWA]); first | (simp [go_sem, ↓IntWalk.iteOmega, *]; done) | (simp [go_sem, ↓IntWalk.iteOmega, *]; intros; omega)
  have p1 : WA2.cell? ⟨w.heap.size, 1, none⟩ = some (.int .i64 z2) := by (try rw [hWA]); first | (simp [go_sem, ↓IntWalk.iteOmega, *]; done) | (simp [go_sem, ↓IntWalk.iteOmega, *]; intros; omega)
  have p2 : WA2.cell? ⟨w.heap.size, 2, none⟩ = some (.int .i64 z3) := by (try rw [hWA]); first | (simp [go_sem, ↓IntWalk.iteOmega, *]; done) | (simp [go_sem, ↓IntWalk.iteOmega, *]; intros; omega)
  have p3 : WA2.cell? ⟨w.heap.size, 3, none⟩ = some (.int .i64 z4) := by (try rw [hWA]); first | (simp [go_sem, ↓IntWalk.iteOmega, *]; done) | (simp [go_sem, ↓IntWalk.iteOmega, *]; intros; omega)
  have p4 : WA2.cell? ⟨w.heap.size, 4, none⟩ = some (.int .i64 z5) := by (try rw [hWA]); first | (simp [go_sem, ↓IntWalk.iteOmega, *]; done) | (simp [go_sem, ↓IntWalk.iteOmega, *]; intros; omega)
  have hbWA2 : Below w.heap.size w WA2 := by rw [hWA]; (repeat' (first | exact Below.refl _ _ | assumption | refine Below.setCell ?_ ?_ _ | refine Below.drew ?_ | refine Below.alloc ?_ ?_ _ | refine Below.trans ?_ (Below.mono (by assumption) ?_) | (simp; done) | (simp; omega) | omega))
  have hzWA2 := hbWA2.size
  have hkWA2 : Below W14.heap.size W14 WA2 := by rw [hWA]; (repeat' (first | exact Below.refl _ _ | assumption | refine Below.setCell ?_ ?_ _ | refine Below.drew ?_ | refine Below.alloc ?_ ?_ _ | refine Below.trans ?_ (Below.mono (by assumption) ?_) | (simp; done) | (simp; omega) | omega))
  have hzkWA2 := hkWA2.size
  clear hWA
  have HKEEP2 : Hid (∀ w', Below WA2.heap.size WA2 w' → w'.cell? ⟨w.heap.size, 0, none⟩ = some (.int .i64 z1) ∧ w'.cell? ⟨w.heap.size, 1, none⟩ = some (.int .i64 z2) ∧ w'.cell? ⟨w.heap.size, 2, none⟩ = some (.int .i64 z3) ∧ w'.cell? ⟨w.heap.size, 3, none⟩ = some (.int .i64 z4) ∧ w'.cell? ⟨w.heap.size, 4, none⟩ = some (.int .i64 z5)) := fun w' hb => ⟨(hb.cell (p := ⟨w.heap.size, 0, none⟩) (by show w.heap.size < _; omega)).trans p0, (hb.cell (p := ⟨w.heap.size, 1, none⟩) (by show w.heap.size < _; omega)).trans p1, (hb.cell (p := ⟨w.heap.size, 2, none⟩) (by show w.heap.size < _; omega)).trans p2, (hb.cell (p := ⟨w.heap.size, 3, none⟩) (by show w.heap.size < _; omega)).trans p3, (hb.cell (p := ⟨w.heap.size, 4, none⟩) (by show w.heap.size < _; omega)).trans p4⟩
  go_region_held3 (fun w' => w'.cell? ⟨w.heap.size, 0, none⟩ = some (.int .i64 z1) ∧ w'.cell? ⟨w.heap.size, 1, none⟩ = some (.int .i64 z2) ∧ w'.cell? ⟨w.heap.size, 2, none⟩ = some (.int .i64 z3) ∧ w'.cell? ⟨w.heap.size, 3, none⟩ = some (.int .i64 z4) ∧ w'.cell? ⟨w.heap.size, 4, none⟩ = some (.int .i64 z5)) (first | assumption | exact HKEEP2.out _ (by (repeat' (first | exact Below.refl _ _ | assumption | refine Below.setCell ?_ ?_ _ | refine Below.drew ?_ | refine Below.alloc ?_ ?_ _ | refine Below.trans ?_ (Below.mono (by assumption) ?_) | (simp; done) | (simp; omega) | omega)))) (first | (go_at_call 16; refine (c_laws_toBerthS _ _ _ _ (by first | exact hr13_aList | exact Rds.below hr13_aList (by (repeat' (first | exact Below.refl _ _ | assumption | refine Below.setCell ?_ ?_ _ | refine Below.drew ?_ | refine Below.alloc ?_ ?_ _ | refine Below.trans ?_ (Below.mono (by assumption) ?_) | (simp; done) | (simp; omega) | omega)))) (by omega)).mono ?_; rintro e W15 ⟨g15, rfl, hg15, ho15, hb15⟩; have hF15 : FreshA cBer 5 48 _ _ _ _ _ := .inr ⟨g15, rfl, hg15, ho15⟩; have hr15 := hF15.rds; have hlo15 := hF15.lo; have hhi15 := hF15.hi; have HF15 := hid hF15; clear hF15; (try simp at hlo15); clear ho15 hg15; have hc15 := cellOf hb15; have hf15 := frozOf hb15; have hz15 := sizeOf hb15; (try simp at hz15)) | (go_at_call 37; refine (c_laws_toBerth _ _ _ _ _ _).mono ?_; rintro e W16 ⟨rfl, hb16⟩; have hc16 := cellOf hb16; have hf16 := frozOf hb16; have hz16 := sizeOf hb16; (try simp at hz16)) | (go_at_call 38; refine (c_impl_AddBerth _ _ _ _ _ _ _ _ _ _ (by first | exact hr15 | exact Rds.below hr15 (by (repeat' (first | exact Below.refl _ _ | assumption | refine Below.setCell ?_ ?_ _ | refine Below.drew ?_ | refine Below.alloc ?_ ?_ _ | refine Below.trans ?_ (Below.mono (by assumption) ?_) | (simp; done) | (simp; omega) | omega)))) (by omega) (by omega) (by omega) ).mono ?_; rintro e W17 ⟨A17, cp17, rfl, hF17, hb17⟩; have hr17 := hF17.rds; have hlo17 := hF17.lo; have hhi17 := hF17.hi; have HF17 := hid hF17; clear hF17; (try simp at hlo17); have hc17 := cellOf hb17; have hf17 := frozOf hb17; have hz17 := sizeOf hb17; (try simp at hz17)))
  go_wp2_with (fail)
  refine (c_laws_eqBerthS _ _ _ _ _ _ _ (by first | exact hr17 | exact Rds.below hr17 (by (repeat' (first | exact Below.refl _ _ | assumption | refine Below.setCell ?_ ?_ _ | refine Below.drew ?_ | refine Below.alloc ?_ ?_ _ | refine Below.trans ?_ (Below.mono (by assumption) ?_) | (simp; done) | (simp; omega) | omega)))) (by first | exact hr13_w0 | exact Rds.below hr13_w0 (by (repeat' (first | exact Below.refl _ _ | assumption | refine Below.setCell ?_ ?_ _ | refine Below.drew ?_ | refine Below.alloc ?_ ?_ _ | refine Below.trans ?_ (Below.mono (by assumption) ?_) | (simp; done) | (simp; omega) | omega)))) (by omega) (by omega)).mono ?_
  rintro e W18 ⟨rfl, hb18⟩
  have hc18 := cellOf hb18
  have hf18 := frozOf hb18
  have hz18 := sizeOf hb18
  try simp at hz18
  go_wp2_with (fail)
  refine (c_laws_heldBerthS _ _ _ _ _ (by first | exact hr13 | exact Rds.below hr13 (by (repeat' (first | exact Below.refl _ _ | assumption | refine Below.setCell ?_ ?_ _ | refine Below.drew ?_ | refine Below.alloc ?_ ?_ _ | refine Below.trans ?_ (Below.mono (by assumption) ?_) | (simp; done) | (simp; omega) | omega)))) (by omega) (by omega)).mono ?_
  rintro e W19 ⟨rfl, hb19⟩
  have hc19 := cellOf hb19
  have hf19 := frozOf hb19
  have hz19 := sizeOf hb19
  try simp at hz19
  go_wp2_with (fail)
  all_goals go_ret
  all_goals exact ⟨rfl, by (repeat' (first | exact Below.refl _ _ | assumption | refine Below.setCell ?_ ?_ _ | refine Below.drew ?_ | refine Below.alloc ?_ ?_ _ | refine Below.trans ?_ (Below.mono (by assumption) ?_) | (simp; done) | (simp; omega) | omega))⟩

end Go.Proofs.Ytfipmalomhflgaa
