import Derived.Test.YtipipicfkjigdaaB5
import Derived.Test.YtipipicfkjigdaaG6
import Derived.Test.YtipipicfkjigdaaG6j
import Derived.Test.YtipipicfkjigdaaG7
import Derived.Test.YtipipicfkjigdaaG7n
import Derived.Test.YtipipicfkjigdaaG7m
import Derived.Test.YtipipicfkjigdaaG8
namespace Go.Proofs.Ytipipicfkjigdaa
set_option linter.unusedSimpArgs false
set_option linter.unusedVariables false
open Go.RowKit

set_option maxRecDepth 100000 in
set_option maxHeartbeats 8000000 in
theorem c_laws_FnExactBestTugs (A : Option Addr) (ts : List (Int × Int × Int)) (capt : Nat) (B : Option Addr) (js : List (Int × Int × Int × Int × Int)) (capj : Nat) (w : World) (hr_ts : Rds cTug 3 w A ts) (hn : ts.length ≤ 9223372036854775807) (hr_js : Rds cJob 5 w B js) (hm : js.length ≤ 9223372036854775807) :
    Calls Try.prog 10 #[.slice A ts.length capt, .slice B js.length capj] w fun e w' => e = .returned (.bool true) ∧ Below w.heap.size w w' := by
  by_cases hsz_ts : ts.length ≤ 1048576
  rotate_left
  · go_enter Try.func10, Try.ntmps10
    go_wp2_with (first | (go_at_call 12; refine (c_laws_szTugS _ _ _ _ _ (by omega) (by omega)).mono ?_; rintro e w' ⟨rfl, hb⟩; have hc := cellOf hb; have hf := frozOf hb; have hz := sizeOf hb; try simp at hz) | (go_at_call 17; refine (c_laws_szTugJobS _ _ _ _ _ (by omega) (by omega)).mono ?_; rintro e w' ⟨rfl, hb⟩; have hc := cellOf hb; have hf := frozOf hb; have hz := sizeOf hb; try simp at hz))
    all_goals go_ret
    all_goals exact ⟨rfl, by (repeat' (first | exact Below.refl _ _ | assumption | refine Below.setCell ?_ ?_ _ | refine Below.drew ?_ | refine Below.alloc ?_ ?_ _ | refine Below.trans ?_ (Below.mono (by assumption) ?_) | (simp; done) | (simp; omega) | omega))⟩
  by_cases hsum : ts.length + js.length ≤ 1048576
  rotate_left
  · go_enter Try.func10, Try.ntmps10
    go_wp2_with (first | (go_at_call 12; refine (c_laws_szTugS _ _ _ _ _ (by omega) (by omega)).mono ?_; rintro e w' ⟨rfl, hb⟩; have hc := cellOf hb; have hf := frozOf hb; have hz := sizeOf hb; try simp at hz) | (go_at_call 17; refine (c_laws_szTugJobS _ _ _ _ _ (by omega) (by omega)).mono ?_; rintro e w' ⟨rfl, hb⟩; have hc := cellOf hb; have hf := frozOf hb; have hz := sizeOf hb; try simp at hz))
    all_goals go_ret
    all_goals exact ⟨rfl, by (repeat' (first | exact Below.refl _ _ | assumption | refine Below.setCell ?_ ?_ _ | refine Below.drew ?_ | refine Below.alloc ?_ ?_ _ | refine Below.trans ?_ (Below.mono (by assumption) ?_) | (simp; done) | (simp; omega) | omega))⟩
  have hLl := bestTV_len ts js
  go_enter Try.func10, Try.ntmps10
  go_wp2_with (fail)
  refine (c_laws_szTugS _ _ _ _ _ (by omega) (by omega)).mono ?_
  rintro e W1 ⟨rfl, hb1⟩
  have hc1 := cellOf hb1
  have hf1 := frozOf hb1
  have hz1 := sizeOf hb1
  try simp at hz1
  go_wp2_with (fail)
  refine (c_laws_szTugJobS _ _ _ _ _ (by omega) (by omega)).mono ?_
  rintro e W2 ⟨rfl, hb2⟩
  have hc2 := cellOf hb2
  have hf2 := frozOf hb2
  have hz2 := sizeOf hb2
  try simp at hz2
  go_wp2_with (fail)
  refine (c_laws_toTugS _ _ _ _ (by first | exact hr_ts | exact Rds.below hr_ts (by (repeat' (first | exact Below.refl _ _ | assumption | refine Below.setCell ?_ ?_ _ | refine Below.drew ?_ | refine Below.alloc ?_ ?_ _ | refine Below.trans ?_ (Below.mono (by assumption) ?_) | (simp; done) | (simp; omega) | omega)))) (by omega)).mono ?_
  rintro e W3 ⟨g3, rfl, hg3, ho3, hb3⟩
  have hF3 : FreshA cTug 3 62 _ _ _ _ _ := .inr ⟨g3, rfl, hg3, ho3⟩
  have hr3 := hF3.rds
  have hlo3 := hF3.lo
  have hhi3 := hF3.hi
  have HF3 := hid hF3
  clear hF3
  try simp at hlo3
  clear ho3 hg3
  have hc3 := cellOf hb3
  have hf3 := frozOf hb3
  have hz3 := sizeOf hb3
  try simp at hz3
  go_wp2_with (fail)
  refine (c_laws_toTugJobS _ _ _ _ (by first | exact hr_js | exact Rds.below hr_js (by (repeat' (first | exact Below.refl _ _ | assumption | refine Below.setCell ?_ ?_ _ | refine Below.drew ?_ | refine Below.alloc ?_ ?_ _ | refine Below.trans ?_ (Below.mono (by assumption) ?_) | (simp; done) | (simp; omega) | omega)))) (by omega)).mono ?_
  rintro e W4 ⟨g4, rfl, hg4, ho4, hb4⟩
  have hF4 : FreshA cJob 5 40 _ _ _ _ _ := .inr ⟨g4, rfl, hg4, ho4⟩
  have hr4 := hF4.rds
  have hlo4 := hF4.lo
  have hhi4 := hF4.hi
  have HF4 := hid hF4
  clear hF4
  try simp at hlo4
  clear ho4 hg4
  have hc4 := cellOf hb4
  have hf4 := frozOf hb4
  have hz4 := sizeOf hb4
  try simp at hz4
  go_wp2_with (fail)
  refine (c_spec_BestTugs _ _ _ _ _ _ _ (by first | exact hr3 | exact Rds.below hr3 (by (repeat' (first | exact Below.refl _ _ | assumption | refine Below.setCell ?_ ?_ _ | refine Below.drew ?_ | refine Below.alloc ?_ ?_ _ | refine Below.trans ?_ (Below.mono (by assumption) ?_) | (simp; done) | (simp; omega) | omega)))) (by omega) (by first | exact hr4 | exact Rds.below hr4 (by (repeat' (first | exact Below.refl _ _ | assumption | refine Below.setCell ?_ ?_ _ | refine Below.drew ?_ | refine Below.alloc ?_ ?_ _ | refine Below.trans ?_ (Below.mono (by assumption) ?_) | (simp; done) | (simp; omega) | omega)))) (by omega) ).mono ?_
  rintro e W5 ⟨A5, cp5, rfl, hF5, hb5⟩
  have hr5 := hF5.rds
  have hlo5 := hF5.lo
  have hhi5 := hF5.hi
  have HF5 := hid hF5
  clear hF5
  try simp at hlo5
  have hc5 := cellOf hb5
  have hf5 := frozOf hb5
  have hz5 := sizeOf hb5
  try simp at hz5
  go_wp2_with (fail)
  refine (c_laws_toTugS _ _ _ _ (by first | exact hr_ts | exact Rds.below hr_ts (by (repeat' (first | exact Below.refl _ _ | assumption | refine Below.setCell ?_ ?_ _ | refine Below.drew ?_ | refine Below.alloc ?_ ?_ _ | refine Below.trans ?_ (Below.mono (by assumption) ?_) | (simp; done) | (simp; omega) | omega)))) (by omega)).mono ?_
  rintro e W6 ⟨g6, rfl, hg6, ho6, hb6⟩
  have hF6 : FreshA cTug 3 62 _ _ _ _ _ := .inr ⟨g6, rfl, hg6, ho6⟩
  have hr6 := hF6.rds
  have hlo6 := hF6.lo
  have hhi6 := hF6.hi
  have HF6 := hid hF6
  clear hF6
  try simp at hlo6
  clear ho6 hg6
  have hc6 := cellOf hb6
  have hf6 := frozOf hb6
  have hz6 := sizeOf hb6
  try simp at hz6
  go_wp2_with (fail)
  refine (c_laws_toTugJobS _ _ _ _ (by first | exact hr_js | exact Rds.below hr_js (by (repeat' (first | exact Below.refl _ _ | assumption | refine Below.setCell ?_ ?_ _ | refine Below.drew ?_ | refine Below.alloc ?_ ?_ _ | refine Below.trans ?_ (Below.mono (by assumption) ?_) | (simp; done) | (simp; omega) | omega)))) (by omega)).mono ?_
  rintro e W7 ⟨g7, rfl, hg7, ho7, hb7⟩
  have hF7 : FreshA cJob 5 40 _ _ _ _ _ := .inr ⟨g7, rfl, hg7, ho7⟩
  have hr7 := hF7.rds
  have hlo7 := hF7.lo
  have hhi7 := hF7.hi
  have HF7 := hid hF7
  clear hF7
  try simp at hlo7
  clear ho7 hg7
  have hc7 := cellOf hb7
  have hf7 := frozOf hb7
  have hz7 := sizeOf hb7
  try simp at hz7
  go_wp2_with (fail)
  refine (c_impl_BestTugs _ _ _ _ _ _ _ (by first | exact hr6 | exact Rds.below hr6 (by (repeat' (first | exact Below.refl _ _ | assumption | refine Below.setCell ?_ ?_ _ | refine Below.drew ?_ | refine Below.alloc ?_ ?_ _ | refine Below.trans ?_ (Below.mono (by assumption) ?_) | (simp; done) | (simp; omega) | omega)))) (by omega) (by first | exact hr7 | exact Rds.below hr7 (by (repeat' (first | exact Below.refl _ _ | assumption | refine Below.setCell ?_ ?_ _ | refine Below.drew ?_ | refine Below.alloc ?_ ?_ _ | refine Below.trans ?_ (Below.mono (by assumption) ?_) | (simp; done) | (simp; omega) | omega)))) (by omega) ).mono ?_
  rintro e W8 ⟨A8, cp8, rfl, hF8, hb8⟩
  have hr8 := hF8.rds
  have hlo8 := hF8.lo
  have hhi8 := hF8.hi
  have HF8 := hid hF8
  clear hF8
  try simp at hlo8
  have hc8 := cellOf hb8
  have hf8 := frozOf hb8
  have hz8 := sizeOf hb8
  try simp at hz8
  go_wp2_with (fail)
  refine (c_laws_eqIntS _ _ _ _ _ _ _ (by first | exact hr8 | exact Rds.below hr8 (by (repeat' (first | exact Below.refl _ _ | assumption | refine Below.setCell ?_ ?_ _ | refine Below.drew ?_ | refine Below.alloc ?_ ?_ _ | refine Below.trans ?_ (Below.mono (by assumption) ?_) | (simp; done) | (simp; omega) | omega)))) (by first | exact hr5 | exact Rds.below hr5 (by (repeat' (first | exact Below.refl _ _ | assumption | refine Below.setCell ?_ ?_ _ | refine Below.drew ?_ | refine Below.alloc ?_ ?_ _ | refine Below.trans ?_ (Below.mono (by assumption) ?_) | (simp; done) | (simp; omega) | omega)))) (by omega) (by omega)).mono ?_
  rintro e W9 ⟨rfl, hb9⟩
  have hc9 := cellOf hb9
  have hf9 := frozOf hb9
  have hz9 := sizeOf hb9
  try simp at hz9
  go_wp2_with (fail)
  refine (c_laws_toTugS _ _ _ _ (by first | exact hr_ts | exact Rds.below hr_ts (by (repeat' (first | exact Below.refl _ _ | assumption | refine Below.setCell ?_ ?_ _ | refine Below.drew ?_ | refine Below.alloc ?_ ?_ _ | refine Below.trans ?_ (Below.mono (by assumption) ?_) | (simp; done) | (simp; omega) | omega)))) (by omega)).mono ?_
  rintro e W10 ⟨g10, rfl, hg10, ho10, hb10⟩
  have hF10 : FreshA cTug 3 62 _ _ _ _ _ := .inr ⟨g10, rfl, hg10, ho10⟩
  have hr10 := hF10.rds
  have hlo10 := hF10.lo
  have hhi10 := hF10.hi
  have HF10 := hid hF10
  clear hF10
  try simp at hlo10
  clear ho10 hg10
  have hc10 := cellOf hb10
  have hf10 := frozOf hb10
  have hz10 := sizeOf hb10
  try simp at hz10
  go_wp2_with (fail)
  refine (c_laws_eqTugS _ _ _ _ _ _ _ (by first | exact hr6 | exact Rds.below hr6 (by (repeat' (first | exact Below.refl _ _ | assumption | refine Below.setCell ?_ ?_ _ | refine Below.drew ?_ | refine Below.alloc ?_ ?_ _ | refine Below.trans ?_ (Below.mono (by assumption) ?_) | (simp; done) | (simp; omega) | omega)))) (by first | exact hr10 | exact Rds.below hr10 (by (repeat' (first | exact Below.refl _ _ | assumption | refine Below.setCell ?_ ?_ _ | refine Below.drew ?_ | refine Below.alloc ?_ ?_ _ | refine Below.trans ?_ (Below.mono (by assumption) ?_) | (simp; done) | (simp; omega) | omega)))) (by omega) (by omega)).mono ?_
  rintro e W11 ⟨rfl, hb11⟩
  have hc11 := cellOf hb11
  have hf11 := frozOf hb11
  have hz11 := sizeOf hb11
  try simp at hz11
  go_wp2_with (fail)
  refine (c_laws_toTugJobS _ _ _ _ (by first | exact hr_js | exact Rds.below hr_js (by (repeat' (first | exact Below.refl _ _ | assumption | refine Below.setCell ?_ ?_ _ | refine Below.drew ?_ | refine Below.alloc ?_ ?_ _ | refine Below.trans ?_ (Below.mono (by assumption) ?_) | (simp; done) | (simp; omega) | omega)))) (by omega)).mono ?_
  rintro e W12 ⟨g12, rfl, hg12, ho12, hb12⟩
  have hF12 : FreshA cJob 5 40 _ _ _ _ _ := .inr ⟨g12, rfl, hg12, ho12⟩
  have hr12 := hF12.rds
  have hlo12 := hF12.lo
  have hhi12 := hF12.hi
  have HF12 := hid hF12
  clear hF12
  try simp at hlo12
  clear ho12 hg12
  have hc12 := cellOf hb12
  have hf12 := frozOf hb12
  have hz12 := sizeOf hb12
  try simp at hz12
  go_wp2_with (fail)
  refine (c_laws_eqTugJobS _ _ _ _ _ _ _ (by first | exact hr7 | exact Rds.below hr7 (by (repeat' (first | exact Below.refl _ _ | assumption | refine Below.setCell ?_ ?_ _ | refine Below.drew ?_ | refine Below.alloc ?_ ?_ _ | refine Below.trans ?_ (Below.mono (by assumption) ?_) | (simp; done) | (simp; omega) | omega)))) (by first | exact hr12 | exact Rds.below hr12 (by (repeat' (first | exact Below.refl _ _ | assumption | refine Below.setCell ?_ ?_ _ | refine Below.drew ?_ | refine Below.alloc ?_ ?_ _ | refine Below.trans ?_ (Below.mono (by assumption) ?_) | (simp; done) | (simp; omega) | omega)))) (by omega) (by omega)).mono ?_
  rintro e W13 ⟨rfl, hb13⟩
  have hc13 := cellOf hb13
  have hf13 := frozOf hb13
  have hz13 := sizeOf hb13
  try simp at hz13
  go_wp2_with (fail)
  refine (c_laws_markTugS _ _ _ _ _ _ (FreshA.below HF6.out (by (repeat' (first | exact Below.refl _ _ | assumption | refine Below.setCell ?_ ?_ _ | refine Below.drew ?_ | refine Below.alloc ?_ ?_ _ | refine Below.trans ?_ (Below.mono (by assumption) ?_) | (simp; done) | (simp; omega) | omega)))) (by omega) (by omega)).mono ?_
  rintro e W14 ⟨rfl, hF14, hg14⟩
  have hb14 := below_of_grown hg14 hlo6 (by (try simp); omega)
  have hc14 := cellGrown hg14 hlo6 hhi6
  have hf14 := frozGrown hg14 hlo6 hhi6
  have hz14 := hg14.size
  try simp at hz14
  have hn14_aTugs := RdsN.past (Rds.toN hr_ts) (by first | exact Nat.le_refl _ | omega) (by (repeat' (first | exact Below.refl _ _ | assumption | refine Below.setCell ?_ ?_ _ | refine Below.drew ?_ | refine Below.alloc ?_ ?_ _ | refine Below.trans ?_ (Below.mono (by assumption) ?_) | (simp; done) | (simp; omega) | omega))) hg14 hlo6 (by omega)
  have hr14_aTugs := RdsN.rds hn14_aTugs (by omega)
  have hn14_aJobs := RdsN.past (Rds.toN hr_js) (by first | exact Nat.le_refl _ | omega) (by (repeat' (first | exact Below.refl _ _ | assumption | refine Below.setCell ?_ ?_ _ | refine Below.drew ?_ | refine Below.alloc ?_ ?_ _ | refine Below.trans ?_ (Below.mono (by assumption) ?_) | (simp; done) | (simp; omega) | omega))) hg14 hlo6 (by omega)
  have hr14_aJobs := RdsN.rds hn14_aJobs (by omega)
  have hn14_w0 := RdsN.past (Rds.toN hr5) (by first | exact Nat.le_refl _ | omega) (by (repeat' (first | exact Below.refl _ _ | assumption | refine Below.setCell ?_ ?_ _ | refine Below.drew ?_ | refine Below.alloc ?_ ?_ _ | refine Below.trans ?_ (Below.mono (by assumption) ?_) | (simp; done) | (simp; omega) | omega))) hg14 hlo6 (by omega)
  have hr14_w0 := RdsN.rds hn14_w0 (by omega)
  have hF14_x1 := FreshA.grown (FreshA.below HF7.out (by (repeat' (first | exact Below.refl _ _ | assumption | refine Below.setCell ?_ ?_ _ | refine Below.drew ?_ | refine Below.alloc ?_ ?_ _ | refine Below.trans ?_ (Below.mono (by assumption) ?_) | (simp; done) | (simp; omega) | omega)))) hg14 (apart_hl (Lo.mono hlo7 (by omega)) hhi6)
  have hr14_x1 := hF14_x1.rds
  have HF14_x1 := hid hF14_x1
  clear hF14_x1
  have hF14_g0 := FreshA.grown (FreshA.below HF8.out (by (repeat' (first | exact Below.refl _ _ | assumption | refine Below.setCell ?_ ?_ _ | refine Below.drew ?_ | refine Below.alloc ?_ ?_ _ | refine Below.trans ?_ (Below.mono (by assumption) ?_) | (simp; done) | (simp; omega) | omega)))) hg14 (apart_hl (Lo.mono hlo8 (by omega)) hhi6)
  have hr14_g0 := hF14_g0.rds
  have HF14_g0 := hid hF14_g0
  clear hF14_g0
  have hr14 := hF14.rds
  have HF14 := hid hF14
  clear hF14
  go_wp2_with (fail)
  refine (c_laws_markTugJobS _ _ _ _ _ _ (FreshA.below HF14_x1.out (by (repeat' (first | exact Below.refl _ _ | assumption | refine Below.setCell ?_ ?_ _ | refine Below.drew ?_ | refine Below.alloc ?_ ?_ _ | refine Below.trans ?_ (Below.mono (by assumption) ?_) | (simp; done) | (simp; omega) | omega)))) (by omega) (by omega)).mono ?_
  rintro e W15 ⟨rfl, hF15, hg15⟩
  have hb15 := below_of_grown hg15 hlo7 (by (try simp); omega)
  have hc15 := cellGrown hg15 hlo7 hhi7
  have hf15 := frozGrown hg15 hlo7 hhi7
  have hz15 := hg15.size
  try simp at hz15
  have hn15_aTugs := RdsN.past (hn14_aTugs) (by first | exact Nat.le_refl _ | omega) (by (repeat' (first | exact Below.refl _ _ | assumption | refine Below.setCell ?_ ?_ _ | refine Below.drew ?_ | refine Below.alloc ?_ ?_ _ | refine Below.trans ?_ (Below.mono (by assumption) ?_) | (simp; done) | (simp; omega) | omega))) hg15 hlo7 (by omega)
  have hr15_aTugs := RdsN.rds hn15_aTugs (by omega)
  have hn15_aJobs := RdsN.past (hn14_aJobs) (by first | exact Nat.le_refl _ | omega) (by (repeat' (first | exact Below.refl _ _ | assumption | refine Below.setCell ?_ ?_ _ | refine Below.drew ?_ | refine Below.alloc ?_ ?_ _ | refine Below.trans ?_ (Below.mono (by assumption) ?_) | (simp; done) | (simp; omega) | omega))) hg15 hlo7 (by omega)
  have hr15_aJobs := RdsN.rds hn15_aJobs (by omega)
  have hn15_w0 := RdsN.past (hn14_w0) (by first | exact Nat.le_refl _ | omega) (by (repeat' (first | exact Below.refl _ _ | assumption | refine Below.setCell ?_ ?_ _ | refine Below.drew ?_ | refine Below.alloc ?_ ?_ _ | refine Below.trans ?_ (Below.mono (by assumption) ?_) | (simp; done) | (simp; omega) | omega))) hg15 hlo7 (by omega)
  have hr15_w0 := RdsN.rds hn15_w0 (by omega)
  have hn15_x0 := RdsN.past (RdsN.ofHi hr14 hhi6) (by first | exact Nat.le_refl _ | omega) (by (repeat' (first | exact Below.refl _ _ | assumption | refine Below.setCell ?_ ?_ _ | refine Below.drew ?_ | refine Below.alloc ?_ ?_ _ | refine Below.trans ?_ (Below.mono (by assumption) ?_) | (simp; done) | (simp; omega) | omega))) hg15 hlo7 (by omega)
  have hr15_x0 := RdsN.rds hn15_x0 (by omega)
  have hF15_g0 := FreshA.grown (FreshA.below HF14_g0.out (by (repeat' (first | exact Below.refl _ _ | assumption | refine Below.setCell ?_ ?_ _ | refine Below.drew ?_ | refine Below.alloc ?_ ?_ _ | refine Below.trans ?_ (Below.mono (by assumption) ?_) | (simp; done) | (simp; omega) | omega)))) hg15 (apart_hl (Lo.mono hlo8 (by omega)) hhi7)
  have hr15_g0 := hF15_g0.rds
  have HF15_g0 := hid hF15_g0
  clear hF15_g0
  have hr15 := hF15.rds
  have HF15 := hid hF15
  clear hF15
  go_wp2_with (fail)
  refine (c_laws_eqIntS _ _ _ _ _ _ _ (by first | exact hr15_g0 | exact Rds.below hr15_g0 (by (repeat' (first | exact Below.refl _ _ | assumption | refine Below.setCell ?_ ?_ _ | refine Below.drew ?_ | refine Below.alloc ?_ ?_ _ | refine Below.trans ?_ (Below.mono (by assumption) ?_) | (simp; done) | (simp; omega) | omega)))) (by first | exact hr15_w0 | exact Rds.below hr15_w0 (by (repeat' (first | exact Below.refl _ _ | assumption | refine Below.setCell ?_ ?_ _ | refine Below.drew ?_ | refine Below.alloc ?_ ?_ _ | refine Below.trans ?_ (Below.mono (by assumption) ?_) | (simp; done) | (simp; omega) | omega)))) (by omega) (by omega)).mono ?_
  rintro e W16 ⟨rfl, hb16⟩
  have hc16 := cellOf hb16
  have hf16 := frozOf hb16
  have hz16 := sizeOf hb16
  try simp at hz16
  go_wp2_with (fail)
  refine (c_laws_markIntS _ _ _ _ _ _ (FreshA.below HF15_g0.out (by (repeat' (first | exact Below.refl _ _ | assumption | refine Below.setCell ?_ ?_ _ | refine Below.drew ?_ | refine Below.alloc ?_ ?_ _ | refine Below.trans ?_ (Below.mono (by assumption) ?_) | (simp; done) | (simp; omega) | omega)))) (by omega) (by omega)).mono ?_
  rintro e W17 ⟨rfl, hF17, hg17⟩
  have hb17 := below_of_grown hg17 hlo8 (by (try simp); omega)
  have hc17 := cellGrown hg17 hlo8 hhi8
  have hf17 := frozGrown hg17 hlo8 hhi8
  have hz17 := hg17.size
  try simp at hz17
  have hn17_aTugs := RdsN.past (hn15_aTugs) (by first | exact Nat.le_refl _ | omega) (by (repeat' (first | exact Below.refl _ _ | assumption | refine Below.setCell ?_ ?_ _ | refine Below.drew ?_ | refine Below.alloc ?_ ?_ _ | refine Below.trans ?_ (Below.mono (by assumption) ?_) | (simp; done) | (simp; omega) | omega))) hg17 hlo8 (by omega)
  have hr17_aTugs := RdsN.rds hn17_aTugs (by omega)
  have hn17_aJobs := RdsN.past (hn15_aJobs) (by first | exact Nat.le_refl _ | omega) (by (repeat' (first | exact Below.refl _ _ | assumption | refine Below.setCell ?_ ?_ _ | refine Below.drew ?_ | refine Below.alloc ?_ ?_ _ | refine Below.trans ?_ (Below.mono (by assumption) ?_) | (simp; done) | (simp; omega) | omega))) hg17 hlo8 (by omega)
  have hr17_aJobs := RdsN.rds hn17_aJobs (by omega)
  have hn17_w0 := RdsN.past (hn15_w0) (by first | exact Nat.le_refl _ | omega) (by (repeat' (first | exact Below.refl _ _ | assumption | refine Below.setCell ?_ ?_ _ | refine Below.drew ?_ | refine Below.alloc ?_ ?_ _ | refine Below.trans ?_ (Below.mono (by assumption) ?_) | (simp; done) | (simp; omega) | omega))) hg17 hlo8 (by omega)
  have hr17_w0 := RdsN.rds hn17_w0 (by omega)
  have hn17_x0 := RdsN.past (hn15_x0) (by first | exact Nat.le_refl _ | omega) (by (repeat' (first | exact Below.refl _ _ | assumption | refine Below.setCell ?_ ?_ _ | refine Below.drew ?_ | refine Below.alloc ?_ ?_ _ | refine Below.trans ?_ (Below.mono (by assumption) ?_) | (simp; done) | (simp; omega) | omega))) hg17 hlo8 (by omega)
  have hr17_x0 := RdsN.rds hn17_x0 (by omega)
  have hn17_x1 := RdsN.past (RdsN.ofHi hr15 hhi7) (by first | exact Nat.le_refl _ | omega) (by (repeat' (first | exact Below.refl _ _ | assumption | refine Below.setCell ?_ ?_ _ | refine Below.drew ?_ | refine Below.alloc ?_ ?_ _ | refine Below.trans ?_ (Below.mono (by assumption) ?_) | (simp; done) | (simp; omega) | omega))) hg17 hlo8 (by omega)
  have hr17_x1 := RdsN.rds hn17_x1 (by omega)
  have hr17 := hF17.rds
  have HF17 := hid hF17
  clear hF17
  go_wp2_with (fail)
  refine (c_laws_heldIntS _ _ _ _ _ (by first | exact hr17 | exact Rds.below hr17 (by (repeat' (first | exact Below.refl _ _ | assumption | refine Below.setCell ?_ ?_ _ | refine Below.drew ?_ | refine Below.alloc ?_ ?_ _ | refine Below.trans ?_ (Below.mono (by assumption) ?_) | (simp; done) | (simp; omega) | omega)))) (by omega) (by omega)).mono ?_
  rintro e W18 ⟨rfl, hb18⟩
  have hc18 := cellOf hb18
  have hf18 := frozOf hb18
  have hz18 := sizeOf hb18
  try simp at hz18
  go_wp2_with (fail)
  refine (c_laws_toTugS _ _ _ _ (by first | exact hr17_aTugs | exact Rds.below hr17_aTugs (by (repeat' (first | exact Below.refl _ _ | assumption | refine Below.setCell ?_ ?_ _ | refine Below.drew ?_ | refine Below.alloc ?_ ?_ _ | refine Below.trans ?_ (Below.mono (by assumption) ?_) | (simp; done) | (simp; omega) | omega)))) (by omega)).mono ?_
  rintro e W19 ⟨g19, rfl, hg19, ho19, hb19⟩
  have hF19 : FreshA cTug 3 62 _ _ _ _ _ := .inr ⟨g19, rfl, hg19, ho19⟩
  have hr19 := hF19.rds
  have hlo19 := hF19.lo
  have hhi19 := hF19.hi
  have HF19 := hid hF19
  clear hF19
  try simp at hlo19
  clear ho19 hg19
  have hc19 := cellOf hb19
  have hf19 := frozOf hb19
  have hz19 := sizeOf hb19
  try simp at hz19
  go_wp2_with (fail)
  refine (c_laws_toTugJobS _ _ _ _ (by first | exact hr17_aJobs | exact Rds.below hr17_aJobs (by (repeat' (first | exact Below.refl _ _ | assumption | refine Below.setCell ?_ ?_ _ | refine Below.drew ?_ | refine Below.alloc ?_ ?_ _ | refine Below.trans ?_ (Below.mono (by assumption) ?_) | (simp; done) | (simp; omega) | omega)))) (by omega)).mono ?_
  rintro e W20 ⟨g20, rfl, hg20, ho20, hb20⟩
  have hF20 : FreshA cJob 5 40 _ _ _ _ _ := .inr ⟨g20, rfl, hg20, ho20⟩
  have hr20 := hF20.rds
  have hlo20 := hF20.lo
  have hhi20 := hF20.hi
  have HF20 := hid hF20
  clear hF20
  try simp at hlo20
  clear ho20 hg20
  have hc20 := cellOf hb20
  have hf20 := frozOf hb20
  have hz20 := sizeOf hb20
  try simp at hz20
  go_wp2_with (fail)
  refine (c_impl_BestTugs _ _ _ _ _ _ _ (by first | exact hr19 | exact Rds.below hr19 (by (repeat' (first | exact Below.refl _ _ | assumption | refine Below.setCell ?_ ?_ _ | refine Below.drew ?_ | refine Below.alloc ?_ ?_ _ | refine Below.trans ?_ (Below.mono (by assumption) ?_) | (simp; done) | (simp; omega) | omega)))) (by omega) (by first | exact hr20 | exact Rds.below hr20 (by (repeat' (first | exact Below.refl _ _ | assumption | refine Below.setCell ?_ ?_ _ | refine Below.drew ?_ | refine Below.alloc ?_ ?_ _ | refine Below.trans ?_ (Below.mono (by assumption) ?_) | (simp; done) | (simp; omega) | omega)))) (by omega) ).mono ?_
  rintro e W21 ⟨A21, cp21, rfl, hF21, hb21⟩
  have hr21 := hF21.rds
  have hlo21 := hF21.lo
  have hhi21 := hF21.hi
  have HF21 := hid hF21
  clear hF21
  try simp at hlo21
  have hc21 := cellOf hb21
  have hf21 := frozOf hb21
  have hz21 := sizeOf hb21
  try simp at hz21
  go_wp2_with (fail)
  refine (c_laws_eqIntS _ _ _ _ _ _ _ (by first | exact hr21 | exact Rds.below hr21 (by (repeat' (first | exact Below.refl _ _ | assumption | refine Below.setCell ?_ ?_ _ | refine Below.drew ?_ | refine Below.alloc ?_ ?_ _ | refine Below.trans ?_ (Below.mono (by assumption) ?_) | (simp; done) | (simp; omega) | omega)))) (by first | exact hr17_w0 | exact Rds.below hr17_w0 (by (repeat' (first | exact Below.refl _ _ | assumption | refine Below.setCell ?_ ?_ _ | refine Below.drew ?_ | refine Below.alloc ?_ ?_ _ | refine Below.trans ?_ (Below.mono (by assumption) ?_) | (simp; done) | (simp; omega) | omega)))) (by omega) (by omega)).mono ?_
  rintro e W22 ⟨rfl, hb22⟩
  have hc22 := cellOf hb22
  have hf22 := frozOf hb22
  have hz22 := sizeOf hb22
  try simp at hz22
  go_wp2_with (fail)
  refine (c_laws_heldIntS _ _ _ _ _ (by first | exact hr17 | exact Rds.below hr17 (by (repeat' (first | exact Below.refl _ _ | assumption | refine Below.setCell ?_ ?_ _ | refine Below.drew ?_ | refine Below.alloc ?_ ?_ _ | refine Below.trans ?_ (Below.mono (by assumption) ?_) | (simp; done) | (simp; omega) | omega)))) (by omega) (by omega)).mono ?_
  rintro e W23 ⟨rfl, hb23⟩
  have hc23 := cellOf hb23
  have hf23 := frozOf hb23
  have hz23 := sizeOf hb23
  try simp at hz23
  go_wp2_with (fail)
  all_goals go_ret
  all_goals exact ⟨rfl, by (repeat' (first | exact Below.refl _ _ | assumption | refine Below.setCell ?_ ?_ _ | refine Below.drew ?_ | refine Below.alloc ?_ ?_ _ | refine Below.trans ?_ (Below.mono (by assumption) ?_) | (simp; done) | (simp; omega) | omega))⟩

end Go.Proofs.Ytipipicfkjigdaa
