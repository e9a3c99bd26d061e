import Derived.Test.YthlmeofjjmfpnaaS12
import Derived.Test.YthlmeofjjmfpnaaS2
import Derived.Test.YthlmeofjjmfpnaaS3
import Derived.Test.YthlmeofjjmfpnaaS4
namespace Go.Proofs.Ythlmeofjjmfpnaa
open Go.RowKit

set_option maxRecDepth 100000 in
set_option maxHeartbeats 8000000 in
theorem c_laws_FnExactAlongVoyage (a b : Int) (A : Option Addr) (xs : List (Int × Int)) (cap : Nat) (w : World) (hr_xs : Rds cLeg 2 w A xs) (hn : xs.length ≤ 9223372036854775807) :
    Calls Try.prog 12 #[.agg #[.int .i64 a, .int .i64 b], .slice A xs.length cap] w fun e w' => e = .returned (.bool true) ∧ Below w.heap.size w w' := by
  by_cases hsz : xs.length ≤ 1048576
  rotate_left
  · go_enter Try.func12, Try.ntmps12
    go_wp2_with (go_at_call 32; refine (c_laws_szLegS _ _ _ _ _ (by omega) (by omega)).mono ?_; rintro e w' ⟨rfl, hb⟩; have hc := cellOf hb; have hf := frozOf hb; have hz := sizeOf hb; try simp at hz)
    all_goals go_ret
    all_goals exact ⟨rfl, by (repeat' (first | exact Below.refl _ _ | assumption | refine Below.setCell ?_ ?_ _ | refine Below.drew ?_ | refine Below.alloc ?_ ?_ _ | refine Below.trans ?_ (Below.mono (by assumption) ?_) | (simp; done) | (simp; omega) | omega))⟩
  have hLl := alongV_len a b xs
  go_enter Try.func12, Try.ntmps12
  go_wp2_with (fail)
  refine (c_laws_szLegS _ _ _ _ _ (by omega) (by omega)).mono ?_
  rintro e W1 ⟨rfl, hb1⟩
  have hc1 := cellOf hb1
  have hf1 := frozOf hb1
  have hz1 := sizeOf hb1
  try simp at hz1
  go_wp2_with (fail)
  refine (c_laws_toInterval _ _ _).mono ?_
  rintro e W2 ⟨rfl, hb2⟩
  have hc2 := cellOf hb2
  have hf2 := frozOf hb2
  have hz2 := sizeOf hb2
  try simp at hz2
  go_wp2_with (fail)
  refine (c_laws_toLegS _ _ _ _ (by first | assumption | exact Rds.below hr_xs (by (repeat' (first | exact Below.refl _ _ | assumption | refine Below.setCell ?_ ?_ _ | refine Below.drew ?_ | refine Below.alloc ?_ ?_ _ | refine Below.trans ?_ (Below.mono (by assumption) ?_) | (simp; done) | (simp; omega) | omega)))) (by omega)).mono ?_
  rintro e W3 ⟨g3, rfl, hg3, ho3, hb3⟩
  have hF3 : FreshA cLeg 2 39 _ _ _ _ _ := .inr ⟨g3, rfl, hg3, ho3⟩
  have hr3 := hF3.rds
  have hlo3 := hF3.lo
  have hhi3 := hF3.hi
  have HF3 := hid hF3
  clear hF3
  try simp at hlo3
  clear ho3 hg3
  have hc3 := cellOf hb3
  have hf3 := frozOf hb3
  have hz3 := sizeOf hb3
  try simp at hz3
  go_wp2_with (fail)
  refine (c_spec_AlongVoyage _ _ _ _ _ _ (by first | assumption | exact Rds.below hr3 (by (repeat' (first | exact Below.refl _ _ | assumption | refine Below.setCell ?_ ?_ _ | refine Below.drew ?_ | refine Below.alloc ?_ ?_ _ | refine Below.trans ?_ (Below.mono (by assumption) ?_) | (simp; done) | (simp; omega) | omega)))) (by omega)).mono ?_
  rintro e W4 ⟨A4, cp4, rfl, hF4, hb4⟩
  have hr4 := hF4.rds
  have hlo4 := hF4.lo
  have hhi4 := hF4.hi
  have HF4 := hid hF4
  clear hF4
  try simp at hlo4
  have hc4 := cellOf hb4
  have hf4 := frozOf hb4
  have hz4 := sizeOf hb4
  try simp at hz4
  go_wp2_with (fail)
  refine (c_laws_toLegS _ _ _ _ (by first | assumption | exact Rds.below hr_xs (by (repeat' (first | exact Below.refl _ _ | assumption | refine Below.setCell ?_ ?_ _ | refine Below.drew ?_ | refine Below.alloc ?_ ?_ _ | refine Below.trans ?_ (Below.mono (by assumption) ?_) | (simp; done) | (simp; omega) | omega)))) (by omega)).mono ?_
  rintro e W5 ⟨g5, rfl, hg5, ho5, hb5⟩
  have hF5 : FreshA cLeg 2 39 _ _ _ _ _ := .inr ⟨g5, rfl, hg5, ho5⟩
  have hr5 := hF5.rds
  have hlo5 := hF5.lo
  have hhi5 := hF5.hi
  have HF5 := hid hF5
  clear hF5
  try simp at hlo5
  clear ho5 hg5
  have hc5 := cellOf hb5
  have hf5 := frozOf hb5
  have hz5 := sizeOf hb5
  try simp at hz5
  go_wp2_with (fail)
  refine (c_laws_toInterval _ _ _).mono ?_
  rintro e W6 ⟨rfl, hb6⟩
  have hc6 := cellOf hb6
  have hf6 := frozOf hb6
  have hz6 := sizeOf hb6
  try simp at hz6
  go_wp2_with (fail)
  refine (c_impl_AlongVoyage _ _ _ _ _ _ (by first | assumption | exact Rds.below hr5 (by (repeat' (first | exact Below.refl _ _ | assumption | refine Below.setCell ?_ ?_ _ | refine Below.drew ?_ | refine Below.alloc ?_ ?_ _ | refine Below.trans ?_ (Below.mono (by assumption) ?_) | (simp; done) | (simp; omega) | omega)))) (by omega)).mono ?_
  rintro e W7 ⟨A7, cp7, rfl, hF7, hb7⟩
  have hr7 := hF7.rds
  have hlo7 := hF7.lo
  have hhi7 := hF7.hi
  have HF7 := hid hF7
  clear hF7
  try simp at hlo7
  have hc7 := cellOf hb7
  have hf7 := frozOf hb7
  have hz7 := sizeOf hb7
  try simp at hz7
  go_wp2_with (fail)
  refine (c_laws_eqIntervalS _ _ _ _ _ _ _ (by first | assumption | exact Rds.below hr7 (by (repeat' (first | exact Below.refl _ _ | assumption | refine Below.setCell ?_ ?_ _ | refine Below.drew ?_ | refine Below.alloc ?_ ?_ _ | refine Below.trans ?_ (Below.mono (by assumption) ?_) | (simp; done) | (simp; omega) | omega)))) (by first | assumption | exact Rds.below hr4 (by (repeat' (first | exact Below.refl _ _ | assumption | refine Below.setCell ?_ ?_ _ | refine Below.drew ?_ | refine Below.alloc ?_ ?_ _ | refine Below.trans ?_ (Below.mono (by assumption) ?_) | (simp; done) | (simp; omega) | omega)))) (by omega) (by omega)).mono ?_
  rintro e W8 ⟨rfl, hb8⟩
  have hc8 := cellOf hb8
  have hf8 := frozOf hb8
  have hz8 := sizeOf hb8
  try simp at hz8
  go_wp2_with (fail)
  refine (c_laws_toLegS _ _ _ _ (by first | assumption | exact Rds.below hr_xs (by (repeat' (first | exact Below.refl _ _ | assumption | refine Below.setCell ?_ ?_ _ | refine Below.drew ?_ | refine Below.alloc ?_ ?_ _ | refine Below.trans ?_ (Below.mono (by assumption) ?_) | (simp; done) | (simp; omega) | omega)))) (by omega)).mono ?_
  rintro e W9 ⟨g9, rfl, hg9, ho9, hb9⟩
  have hF9 : FreshA cLeg 2 39 _ _ _ _ _ := .inr ⟨g9, rfl, hg9, ho9⟩
  have hr9 := hF9.rds
  have hlo9 := hF9.lo
  have hhi9 := hF9.hi
  have HF9 := hid hF9
  clear hF9
  try simp at hlo9
  clear ho9 hg9
  have hc9 := cellOf hb9
  have hf9 := frozOf hb9
  have hz9 := sizeOf hb9
  try simp at hz9
  go_wp2_with (fail)
  refine (c_laws_eqLegS _ _ _ _ _ _ _ (by first | assumption | exact Rds.below hr5 (by (repeat' (first | exact Below.refl _ _ | assumption | refine Below.setCell ?_ ?_ _ | refine Below.drew ?_ | refine Below.alloc ?_ ?_ _ | refine Below.trans ?_ (Below.mono (by assumption) ?_) | (simp; done) | (simp; omega) | omega)))) (by first | assumption | exact Rds.below hr9 (by (repeat' (first | exact Below.refl _ _ | assumption | refine Below.setCell ?_ ?_ _ | refine Below.drew ?_ | refine Below.alloc ?_ ?_ _ | refine Below.trans ?_ (Below.mono (by assumption) ?_) | (simp; done) | (simp; omega) | omega)))) (by omega) (by omega)).mono ?_
  rintro e W10 ⟨rfl, hb10⟩
  have hc10 := cellOf hb10
  have hf10 := frozOf hb10
  have hz10 := sizeOf hb10
  try simp at hz10
  go_wp2_with (fail)
  refine (c_laws_markLegS _ _ _ _ _ _ (FreshA.below HF5.out (by (repeat' (first | exact Below.refl _ _ | assumption | refine Below.setCell ?_ ?_ _ | refine Below.drew ?_ | refine Below.alloc ?_ ?_ _ | refine Below.trans ?_ (Below.mono (by assumption) ?_) | (simp; done) | (simp; omega) | omega)))) (by omega) (by omega)).mono ?_
  rintro e W11 ⟨rfl, hF11, hg11⟩
  have hb11 := below_of_grown hg11 hlo5 (by (try simp); omega)
  have hc11 := cellGrown hg11 hlo5 hhi5
  have hf11 := frozGrown hg11 hlo5 hhi5
  have hz11 := hg11.size
  try simp at hz11
  have hn11_aLegs := RdsN.past (Rds.toN hr_xs) (by first | exact Nat.le_refl _ | omega) (by (repeat' (first | exact Below.refl _ _ | assumption | refine Below.setCell ?_ ?_ _ | refine Below.drew ?_ | refine Below.alloc ?_ ?_ _ | refine Below.trans ?_ (Below.mono (by assumption) ?_) | (simp; done) | (simp; omega) | omega))) hg11 hlo5 (by omega)
  have hr11_aLegs := RdsN.rds hn11_aLegs (by omega)
  have hn11_w0 := RdsN.past (Rds.toN hr4) (by first | exact Nat.le_refl _ | omega) (by (repeat' (first | exact Below.refl _ _ | assumption | refine Below.setCell ?_ ?_ _ | refine Below.drew ?_ | refine Below.alloc ?_ ?_ _ | refine Below.trans ?_ (Below.mono (by assumption) ?_) | (simp; done) | (simp; omega) | omega))) hg11 hlo5 (by omega)
  have hr11_w0 := RdsN.rds hn11_w0 (by omega)
  have hF11_g0 := FreshA.grown (FreshA.below HF7.out (by (repeat' (first | exact Below.refl _ _ | assumption | refine Below.setCell ?_ ?_ _ | refine Below.drew ?_ | refine Below.alloc ?_ ?_ _ | refine Below.trans ?_ (Below.mono (by assumption) ?_) | (simp; done) | (simp; omega) | omega)))) hg11 (apart_hl (Lo.mono hlo7 (by omega)) hhi5)
  have hr11_g0 := hF11_g0.rds
  have HF11_g0 := hid hF11_g0
  clear hF11_g0
  have hr11 := hF11.rds
  have HF11 := hid hF11
  clear hF11
  go_wp2_with (fail)
  refine (c_laws_eqIntervalS _ _ _ _ _ _ _ (by first | assumption | exact Rds.below hr11_g0 (by (repeat' (first | exact Below.refl _ _ | assumption | refine Below.setCell ?_ ?_ _ | refine Below.drew ?_ | refine Below.alloc ?_ ?_ _ | refine Below.trans ?_ (Below.mono (by assumption) ?_) | (simp; done) | (simp; omega) | omega)))) (by first | assumption | exact Rds.below hr11_w0 (by (repeat' (first | exact Below.refl _ _ | assumption | refine Below.setCell ?_ ?_ _ | refine Below.drew ?_ | refine Below.alloc ?_ ?_ _ | refine Below.trans ?_ (Below.mono (by assumption) ?_) | (simp; done) | (simp; omega) | omega)))) (by omega) (by omega)).mono ?_
  rintro e W12 ⟨rfl, hb12⟩
  have hc12 := cellOf hb12
  have hf12 := frozOf hb12
  have hz12 := sizeOf hb12
  try simp at hz12
  go_wp2_with (fail)
  refine (c_laws_markIntervalS _ _ _ _ _ _ (FreshA.below HF11_g0.out (by (repeat' (first | exact Below.refl _ _ | assumption | refine Below.setCell ?_ ?_ _ | refine Below.drew ?_ | refine Below.alloc ?_ ?_ _ | refine Below.trans ?_ (Below.mono (by assumption) ?_) | (simp; done) | (simp; omega) | omega)))) (by omega) (by omega)).mono ?_
  rintro e W13 ⟨rfl, hF13, hg13⟩
  have hb13 := below_of_grown hg13 hlo7 (by (try simp); omega)
  have hc13 := cellGrown hg13 hlo7 hhi7
  have hf13 := frozGrown hg13 hlo7 hhi7
  have hz13 := hg13.size
  try simp at hz13
  have hn13_aLegs := RdsN.past (hn11_aLegs) (by first | exact Nat.le_refl _ | omega) (by (repeat' (first | exact Below.refl _ _ | assumption | refine Below.setCell ?_ ?_ _ | refine Below.drew ?_ | refine Below.alloc ?_ ?_ _ | refine Below.trans ?_ (Below.mono (by assumption) ?_) | (simp; done) | (simp; omega) | omega))) hg13 hlo7 (by omega)
  have hr13_aLegs := RdsN.rds hn13_aLegs (by omega)
  have hn13_w0 := RdsN.past (hn11_w0) (by first | exact Nat.le_refl _ | omega) (by (repeat' (first | exact Below.refl _ _ | assumption | refine Below.setCell ?_ ?_ _ | refine Below.drew ?_ | refine Below.alloc ?_ ?_ _ | refine Below.trans ?_ (Below.mono (by assumption) ?_) | (simp; done) | (simp; omega) | omega))) hg13 hlo7 (by omega)
  have hr13_w0 := RdsN.rds hn13_w0 (by omega)
  have hn13_x1 := RdsN.past (RdsN.ofHi hr11 hhi5) (by first | exact Nat.le_refl _ | omega) (by (repeat' (first | exact Below.refl _ _ | assumption | refine Below.setCell ?_ ?_ _ | refine Below.drew ?_ | refine Below.alloc ?_ ?_ _ | refine Below.trans ?_ (Below.mono (by assumption) ?_) | (simp; done) | (simp; omega) | omega))) hg13 hlo7 (by omega)
  have hr13_x1 := RdsN.rds hn13_x1 (by omega)
  have hr13 := hF13.rds
  have HF13 := hid hF13
  clear hF13
  go_wp2_with (fail)
  refine (c_laws_heldIntervalS _ _ _ _ _ (by first | assumption | exact Rds.below hr13 (by (repeat' (first | exact Below.refl _ _ | assumption | refine Below.setCell ?_ ?_ _ | refine Below.drew ?_ | refine Below.alloc ?_ ?_ _ | refine Below.trans ?_ (Below.mono (by assumption) ?_) | (simp; done) | (simp; omega) | omega)))) (by omega) (by omega)).mono ?_
  rintro e W14 ⟨rfl, hb14⟩
  have hc14 := cellOf hb14
  have hf14 := frozOf hb14
  have hz14 := sizeOf hb14
  try simp at hz14
  go_wp2_with (fail)
  refine (c_laws_toInterval _ _ _).mono ?_
  rintro e W15 ⟨rfl, hb15⟩
  have hc15 := cellOf hb15
  have hf15 := frozOf hb15
  have hz15 := sizeOf hb15
  try simp at hz15
  go_wp2_with (fail)
  refine (c_laws_toLegS _ _ _ _ (by first | assumption | exact Rds.below hr13_aLegs (by (repeat' (first | exact Below.refl _ _ | assumption | refine Below.setCell ?_ ?_ _ | refine Below.drew ?_ | refine Below.alloc ?_ ?_ _ | refine Below.trans ?_ (Below.mono (by assumption) ?_) | (simp; done) | (simp; omega) | omega)))) (by omega)).mono ?_
  rintro e W16 ⟨g16, rfl, hg16, ho16, hb16⟩
  have hF16 : FreshA cLeg 2 39 _ _ _ _ _ := .inr ⟨g16, rfl, hg16, ho16⟩
  have hr16 := hF16.rds
  have hlo16 := hF16.lo
  have hhi16 := hF16.hi
  have HF16 := hid hF16
  clear hF16
  try simp at hlo16
  clear ho16 hg16
  have hc16 := cellOf hb16
  have hf16 := frozOf hb16
  have hz16 := sizeOf hb16
  try simp at hz16
  go_wp2_with (fail)
  refine (c_impl_AlongVoyage _ _ _ _ _ _ (by first | assumption | exact Rds.below hr16 (by (repeat' (first | exact Below.refl _ _ | assumption | refine Below.setCell ?_ ?_ _ | refine Below.drew ?_ | refine Below.alloc ?_ ?_ _ | refine Below.trans ?_ (Below.mono (by assumption) ?_) | (simp; done) | (simp; omega) | omega)))) (by omega)).mono ?_
  rintro e W17 ⟨A17, cp17, rfl, hF17, hb17⟩
  have hr17 := hF17.rds
  have hlo17 := hF17.lo
  have hhi17 := hF17.hi
  have HF17 := hid hF17
  clear hF17
  try simp at hlo17
  have hc17 := cellOf hb17
  have hf17 := frozOf hb17
  have hz17 := sizeOf hb17
  try simp at hz17
  go_wp2_with (fail)
  refine (c_laws_eqIntervalS _ _ _ _ _ _ _ (by first | assumption | exact Rds.below hr17 (by (repeat' (first | exact Below.refl _ _ | assumption | refine Below.setCell ?_ ?_ _ | refine Below.drew ?_ | refine Below.alloc ?_ ?_ _ | refine Below.trans ?_ (Below.mono (by assumption) ?_) | (simp; done) | (simp; omega) | omega)))) (by first | assumption | exact Rds.below hr13_w0 (by (repeat' (first | exact Below.refl _ _ | assumption | refine Below.setCell ?_ ?_ _ | refine Below.drew ?_ | refine Below.alloc ?_ ?_ _ | refine Below.trans ?_ (Below.mono (by assumption) ?_) | (simp; done) | (simp; omega) | omega)))) (by omega) (by omega)).mono ?_
  rintro e W18 ⟨rfl, hb18⟩
  have hc18 := cellOf hb18
  have hf18 := frozOf hb18
  have hz18 := sizeOf hb18
  try simp at hz18
  go_wp2_with (fail)
  refine (c_laws_heldIntervalS _ _ _ _ _ (by first | assumption | exact Rds.below hr13 (by (repeat' (first | exact Below.refl _ _ | assumption | refine Below.setCell ?_ ?_ _ | refine Below.drew ?_ | refine Below.alloc ?_ ?_ _ | refine Below.trans ?_ (Below.mono (by assumption) ?_) | (simp; done) | (simp; omega) | omega)))) (by omega) (by omega)).mono ?_
  rintro e W19 ⟨rfl, hb19⟩
  have hc19 := cellOf hb19
  have hf19 := frozOf hb19
  have hz19 := sizeOf hb19
  try simp at hz19
  go_wp2_with (fail)
  all_goals go_ret
  all_goals exact ⟨rfl, by (repeat' (first | exact Below.refl _ _ | assumption | refine Below.setCell ?_ ?_ _ | refine Below.drew ?_ | refine Below.alloc ?_ ?_ _ | refine Below.trans ?_ (Below.mono (by assumption) ?_) | (simp; done) | (simp; omega) | omega))⟩

end Go.Proofs.Ythlmeofjjmfpnaa
