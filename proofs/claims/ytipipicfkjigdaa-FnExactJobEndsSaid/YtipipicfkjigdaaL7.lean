import Derived.Test.YtipipicfkjigdaaT6i
import Derived.Test.YtipipicfkjigdaaT6s
import Derived.Test.YtipipicfkjigdaaG6
import Derived.Test.YtipipicfkjigdaaG6j
import Derived.Test.YtipipicfkjigdaaG7
import Derived.Test.YtipipicfkjigdaaG7t
import Derived.Test.YtipipicfkjigdaaG7n
import Derived.Test.YtipipicfkjigdaaG7m
import Derived.Test.YtipipicfkjigdaaG8
namespace Go.Proofs.Ytipipicfkjigdaa
set_option linter.unusedSimpArgs false
set_option linter.unusedVariables false
open Go.RowKit

set_option maxRecDepth 100000 in
set_option maxHeartbeats 8000000 in
theorem c_laws_FnExactJobEnds (A : Option Addr) (ts : List (Int × Int × Int)) (capt : Nat) (B : Option Addr) (js : List (Int × Int × Int × Int × Int)) (capj : Nat) (C : Option Addr) (who : List Int) (capw : Nat) (w : World) (hr_ts : Rds cTug 3 w A ts) (hn : ts.length ≤ 9223372036854775807) (hr_js : Rds cJob 5 w B js) (hm : js.length ≤ 9223372036854775807) (hr_who : Rds cIn 1 w C who) (hq : who.length ≤ 9223372036854775807) :
    Calls Try.prog 9 #[.slice A ts.length capt, .slice B js.length capj, .slice C who.length capw] w fun e w' => e = .returned (.bool true) ∧ Below w.heap.size w w' := by
  by_cases hsz_who : who.length ≤ 1048576
  rotate_left
  · go_enter Try.func9, Try.ntmps9
    go_wp2_with (first | (go_at_call 12; refine (c_laws_szTugS _ _ _ _ _ (by omega) (by omega)).mono ?_; rintro e w' ⟨rfl, hb⟩; have hc := cellOf hb; have hf := frozOf hb; have hz := sizeOf hb; try simp at hz) | (go_at_call 17; refine (c_laws_szTugJobS _ _ _ _ _ (by omega) (by omega)).mono ?_; rintro e w' ⟨rfl, hb⟩; have hc := cellOf hb; have hf := frozOf hb; have hz := sizeOf hb; try simp at hz))
    all_goals go_ret
    all_goals exact ⟨rfl, by (repeat' (first | exact Below.refl _ _ | assumption | refine Below.setCell ?_ ?_ _ | refine Below.drew ?_ | refine Below.alloc ?_ ?_ _ | refine Below.trans ?_ (Below.mono (by assumption) ?_) | (simp; done) | (simp; omega) | omega))⟩
  by_cases hsz_ts : ts.length ≤ 1048576
  rotate_left
  · go_enter Try.func9, Try.ntmps9
    go_wp2_with (first | (go_at_call 12; refine (c_laws_szTugS _ _ _ _ _ (by omega) (by omega)).mono ?_; rintro e w' ⟨rfl, hb⟩; have hc := cellOf hb; have hf := frozOf hb; have hz := sizeOf hb; try simp at hz) | (go_at_call 17; refine (c_laws_szTugJobS _ _ _ _ _ (by omega) (by omega)).mono ?_; rintro e w' ⟨rfl, hb⟩; have hc := cellOf hb; have hf := frozOf hb; have hz := sizeOf hb; try simp at hz))
    all_goals go_ret
    all_goals exact ⟨rfl, by (repeat' (first | exact Below.refl _ _ | assumption | refine Below.setCell ?_ ?_ _ | refine Below.drew ?_ | refine Below.alloc ?_ ?_ _ | refine Below.trans ?_ (Below.mono (by assumption) ?_) | (simp; done) | (simp; omega) | omega))⟩
  by_cases hsum : ts.length + js.length ≤ 1048576
  rotate_left
  · go_enter Try.func9, Try.ntmps9
    go_wp2_with (first | (go_at_call 12; refine (c_laws_szTugS _ _ _ _ _ (by omega) (by omega)).mono ?_; rintro e w' ⟨rfl, hb⟩; have hc := cellOf hb; have hf := frozOf hb; have hz := sizeOf hb; try simp at hz) | (go_at_call 17; refine (c_laws_szTugJobS _ _ _ _ _ (by omega) (by omega)).mono ?_; rintro e w' ⟨rfl, hb⟩; have hc := cellOf hb; have hf := frozOf hb; have hz := sizeOf hb; try simp at hz))
    all_goals go_ret
    all_goals exact ⟨rfl, by (repeat' (first | exact Below.refl _ _ | assumption | refine Below.setCell ?_ ?_ _ | refine Below.drew ?_ | refine Below.alloc ?_ ?_ _ | refine Below.trans ?_ (Below.mono (by assumption) ?_) | (simp; done) | (simp; omega) | omega))⟩
  have hLl := endsV_len ts js who
  go_enter Try.func9, Try.ntmps9
  go_wp2_with (fail)
  refine (c_laws_szTugS _ _ _ _ _ (by omega) (by omega)).mono ?_
  rintro e W1 ⟨rfl, hb1⟩
  have hc1 := cellOf hb1
  have hf1 := frozOf hb1
  have hz1 := sizeOf hb1
  try simp at hz1
  go_wp2_with (fail)
  refine (c_laws_szTugJobS _ _ _ _ _ (by omega) (by omega)).mono ?_
  rintro e W2 ⟨rfl, hb2⟩
  have hc2 := cellOf hb2
  have hf2 := frozOf hb2
  have hz2 := sizeOf hb2
  try simp at hz2
  go_wp2_with (fail)
  refine (c_laws_toTugS _ _ _ _ (by first | exact hr_ts | exact Rds.below hr_ts (by (repeat' (first | exact Below.refl _ _ | assumption | refine Below.setCell ?_ ?_ _ | refine Below.drew ?_ | refine Below.alloc ?_ ?_ _ | refine Below.trans ?_ (Below.mono (by assumption) ?_) | (simp; done) | (simp; omega) | omega)))) (by omega)).mono ?_
  rintro e W3 ⟨g3, rfl, hg3, ho3, hb3⟩
  have hF3 : FreshA cTug 3 62 _ _ _ _ _ := .inr ⟨g3, rfl, hg3, ho3⟩
  have hr3 := hF3.rds
  have hlo3 := hF3.lo
  have hhi3 := hF3.hi
  have HF3 := hid hF3
  clear hF3
  try simp at hlo3
  clear ho3 hg3
  have hc3 := cellOf hb3
  have hf3 := frozOf hb3
  have hz3 := sizeOf hb3
  try simp at hz3
  go_wp2_with (fail)
  refine (c_laws_toTugJobS _ _ _ _ (by first | exact hr_js | exact Rds.below hr_js (by (repeat' (first | exact Below.refl _ _ | assumption | refine Below.setCell ?_ ?_ _ | refine Below.drew ?_ | refine Below.alloc ?_ ?_ _ | refine Below.trans ?_ (Below.mono (by assumption) ?_) | (simp; done) | (simp; omega) | omega)))) (by omega)).mono ?_
  rintro e W4 ⟨g4, rfl, hg4, ho4, hb4⟩
  have hF4 : FreshA cJob 5 40 _ _ _ _ _ := .inr ⟨g4, rfl, hg4, ho4⟩
  have hr4 := hF4.rds
  have hlo4 := hF4.lo
  have hhi4 := hF4.hi
  have HF4 := hid hF4
  clear hF4
  try simp at hlo4
  clear ho4 hg4
  have hc4 := cellOf hb4
  have hf4 := frozOf hb4
  have hz4 := sizeOf hb4
  try simp at hz4
  go_wp2_with (fail)
  refine (c_laws_toIntS _ _ _ _ (by first | exact hr_who | exact Rds.below hr_who (by (repeat' (first | exact Below.refl _ _ | assumption | refine Below.setCell ?_ ?_ _ | refine Below.drew ?_ | refine Below.alloc ?_ ?_ _ | refine Below.trans ?_ (Below.mono (by assumption) ?_) | (simp; done) | (simp; omega) | omega)))) (by omega)).mono ?_
  rintro e W5 ⟨g5, rfl, hg5, ho5, hb5⟩
  have hF5 : FreshA cIn 1 3 _ _ _ _ _ := .inr ⟨g5, rfl, hg5, ho5⟩
  have hr5 := hF5.rds
  have hlo5 := hF5.lo
  have hhi5 := hF5.hi
  have HF5 := hid hF5
  clear hF5
  try simp at hlo5
  clear ho5 hg5
  have hc5 := cellOf hb5
  have hf5 := frozOf hb5
  have hz5 := sizeOf hb5
  try simp at hz5
  go_wp2_with (fail)
  refine (c_spec_JobEnds _ _ _ _ _ _ _ _ _ _ (by first | exact hr3 | exact Rds.below hr3 (by (repeat' (first | exact Below.refl _ _ | assumption | refine Below.setCell ?_ ?_ _ | refine Below.drew ?_ | refine Below.alloc ?_ ?_ _ | refine Below.trans ?_ (Below.mono (by assumption) ?_) | (simp; done) | (simp; omega) | omega)))) (by omega) (by first | exact hr4 | exact Rds.below hr4 (by (repeat' (first | exact Below.refl _ _ | assumption | refine Below.setCell ?_ ?_ _ | refine Below.drew ?_ | refine Below.alloc ?_ ?_ _ | refine Below.trans ?_ (Below.mono (by assumption) ?_) | (simp; done) | (simp; omega) | omega)))) (by omega) (by first | exact hr5 | exact Rds.below hr5 (by (repeat' (first | exact Below.refl _ _ | assumption | refine Below.setCell ?_ ?_ _ | refine Below.drew ?_ | refine Below.alloc ?_ ?_ _ | refine Below.trans ?_ (Below.mono (by assumption) ?_) | (simp; done) | (simp; omega) | omega)))) (by omega) ).mono ?_
  rintro e W6 ⟨A6, cp6, rfl, hF6, hb6⟩
  have hr6 := hF6.rds
  have hlo6 := hF6.lo
  have hhi6 := hF6.hi
  have HF6 := hid hF6
  clear hF6
  try simp at hlo6
  have hc6 := cellOf hb6
  have hf6 := frozOf hb6
  have hz6 := sizeOf hb6
  try simp at hz6
  go_wp2_with (fail)
  refine (c_laws_toTugS _ _ _ _ (by first | exact hr_ts | exact Rds.below hr_ts (by (repeat' (first | exact Below.refl _ _ | assumption | refine Below.setCell ?_ ?_ _ | refine Below.drew ?_ | refine Below.alloc ?_ ?_ _ | refine Below.trans ?_ (Below.mono (by assumption) ?_) | (simp; done) | (simp; omega) | omega)))) (by omega)).mono ?_
  rintro e W7 ⟨g7, rfl, hg7, ho7, hb7⟩
  have hF7 : FreshA cTug 3 62 _ _ _ _ _ := .inr ⟨g7, rfl, hg7, ho7⟩
  have hr7 := hF7.rds
  have hlo7 := hF7.lo
  have hhi7 := hF7.hi
  have HF7 := hid hF7
  clear hF7
  try simp at hlo7
  clear ho7 hg7
  have hc7 := cellOf hb7
  have hf7 := frozOf hb7
  have hz7 := sizeOf hb7
  try simp at hz7
  go_wp2_with (fail)
  refine (c_laws_toTugJobS _ _ _ _ (by first | exact hr_js | exact Rds.below hr_js (by (repeat' (first | exact Below.refl _ _ | assumption | refine Below.setCell ?_ ?_ _ | refine Below.drew ?_ | refine Below.alloc ?_ ?_ _ | refine Below.trans ?_ (Below.mono (by assumption) ?_) | (simp; done) | (simp; omega) | omega)))) (by omega)).mono ?_
  rintro e W8 ⟨g8, rfl, hg8, ho8, hb8⟩
  have hF8 : FreshA cJob 5 40 _ _ _ _ _ := .inr ⟨g8, rfl, hg8, ho8⟩
  have hr8 := hF8.rds
  have hlo8 := hF8.lo
  have hhi8 := hF8.hi
  have HF8 := hid hF8
  clear hF8
  try simp at hlo8
  clear ho8 hg8
  have hc8 := cellOf hb8
  have hf8 := frozOf hb8
  have hz8 := sizeOf hb8
  try simp at hz8
  go_wp2_with (fail)
  refine (c_laws_toIntS _ _ _ _ (by first | exact hr_who | exact Rds.below hr_who (by (repeat' (first | exact Below.refl _ _ | assumption | refine Below.setCell ?_ ?_ _ | refine Below.drew ?_ | refine Below.alloc ?_ ?_ _ | refine Below.trans ?_ (Below.mono (by assumption) ?_) | (simp; done) | (simp; omega) | omega)))) (by omega)).mono ?_
  rintro e W9 ⟨g9, rfl, hg9, ho9, hb9⟩
  have hF9 : FreshA cIn 1 3 _ _ _ _ _ := .inr ⟨g9, rfl, hg9, ho9⟩
  have hr9 := hF9.rds
  have hlo9 := hF9.lo
  have hhi9 := hF9.hi
  have HF9 := hid hF9
  clear hF9
  try simp at hlo9
  clear ho9 hg9
  have hc9 := cellOf hb9
  have hf9 := frozOf hb9
  have hz9 := sizeOf hb9
  try simp at hz9
  go_wp2_with (fail)
  refine (c_impl_JobEnds _ _ _ _ _ _ _ _ _ _ (by first | exact hr7 | exact Rds.below hr7 (by (repeat' (first | exact Below.refl _ _ | assumption | refine Below.setCell ?_ ?_ _ | refine Below.drew ?_ | refine Below.alloc ?_ ?_ _ | refine Below.trans ?_ (Below.mono (by assumption) ?_) | (simp; done) | (simp; omega) | omega)))) (by omega) (by first | exact hr8 | exact Rds.below hr8 (by (repeat' (first | exact Below.refl _ _ | assumption | refine Below.setCell ?_ ?_ _ | refine Below.drew ?_ | refine Below.alloc ?_ ?_ _ | refine Below.trans ?_ (Below.mono (by assumption) ?_) | (simp; done) | (simp; omega) | omega)))) (by omega) (by first | exact hr9 | exact Rds.below hr9 (by (repeat' (first | exact Below.refl _ _ | assumption | refine Below.setCell ?_ ?_ _ | refine Below.drew ?_ | refine Below.alloc ?_ ?_ _ | refine Below.trans ?_ (Below.mono (by assumption) ?_) | (simp; done) | (simp; omega) | omega)))) (by omega) ).mono ?_
  rintro e W10 ⟨A10, cp10, rfl, hF10, hb10⟩
  have hr10 := hF10.rds
  have hlo10 := hF10.lo
  have hhi10 := hF10.hi
  have HF10 := hid hF10
  clear hF10
  try simp at hlo10
  have hc10 := cellOf hb10
  have hf10 := frozOf hb10
  have hz10 := sizeOf hb10
  try simp at hz10
  go_wp2_with (fail)
  refine (c_laws_eqIntS _ _ _ _ _ _ _ (by first | exact hr10 | exact Rds.below hr10 (by (repeat' (first | exact Below.refl _ _ | assumption | refine Below.setCell ?_ ?_ _ | refine Below.drew ?_ | refine Below.alloc ?_ ?_ _ | refine Below.trans ?_ (Below.mono (by assumption) ?_) | (simp; done) | (simp; omega) | omega)))) (by first | exact hr6 | exact Rds.below hr6 (by (repeat' (first | exact Below.refl _ _ | assumption | refine Below.setCell ?_ ?_ _ | refine Below.drew ?_ | refine Below.alloc ?_ ?_ _ | refine Below.trans ?_ (Below.mono (by assumption) ?_) | (simp; done) | (simp; omega) | omega)))) (by omega) (by omega)).mono ?_
  rintro e W11 ⟨rfl, hb11⟩
  have hc11 := cellOf hb11
  have hf11 := frozOf hb11
  have hz11 := sizeOf hb11
  try simp at hz11
  go_wp2_with (fail)
  refine (c_laws_toTugS _ _ _ _ (by first | exact hr_ts | exact Rds.below hr_ts (by (repeat' (first | exact Below.refl _ _ | assumption | refine Below.setCell ?_ ?_ _ | refine Below.drew ?_ | refine Below.alloc ?_ ?_ _ | refine Below.trans ?_ (Below.mono (by assumption) ?_) | (simp; done) | (simp; omega) | omega)))) (by omega)).mono ?_
  rintro e W12 ⟨g12, rfl, hg12, ho12, hb12⟩
  have hF12 : FreshA cTug 3 62 _ _ _ _ _ := .inr ⟨g12, rfl, hg12, ho12⟩
  have hr12 := hF12.rds
  have hlo12 := hF12.lo
  have hhi12 := hF12.hi
  have HF12 := hid hF12
  clear hF12
  try simp at hlo12
  clear ho12 hg12
  have hc12 := cellOf hb12
  have hf12 := frozOf hb12
  have hz12 := sizeOf hb12
  try simp at hz12
  go_wp2_with (fail)
  refine (c_laws_eqTugS _ _ _ _ _ _ _ (by first | exact hr7 | exact Rds.below hr7 (by (repeat' (first | exact Below.refl _ _ | assumption | refine Below.setCell ?_ ?_ _ | refine Below.drew ?_ | refine Below.alloc ?_ ?_ _ | refine Below.trans ?_ (Below.mono (by assumption) ?_) | (simp; done) | (simp; omega) | omega)))) (by first | exact hr12 | exact Rds.below hr12 (by (repeat' (first | exact Below.refl _ _ | assumption | refine Below.setCell ?_ ?_ _ | refine Below.drew ?_ | refine Below.alloc ?_ ?_ _ | refine Below.trans ?_ (Below.mono (by assumption) ?_) | (simp; done) | (simp; omega) | omega)))) (by omega) (by omega)).mono ?_
  rintro e W13 ⟨rfl, hb13⟩
  have hc13 := cellOf hb13
  have hf13 := frozOf hb13
  have hz13 := sizeOf hb13
  try simp at hz13
  go_wp2_with (fail)
  refine (c_laws_toTugJobS _ _ _ _ (by first | exact hr_js | exact Rds.below hr_js (by (repeat' (first | exact Below.refl _ _ | assumption | refine Below.setCell ?_ ?_ _ | refine Below.drew ?_ | refine Below.alloc ?_ ?_ _ | refine Below.trans ?_ (Below.mono (by assumption) ?_) | (simp; done) | (simp; omega) | omega)))) (by omega)).mono ?_
  rintro e W14 ⟨g14, rfl, hg14, ho14, hb14⟩
  have hF14 : FreshA cJob 5 40 _ _ _ _ _ := .inr ⟨g14, rfl, hg14, ho14⟩
  have hr14 := hF14.rds
  have hlo14 := hF14.lo
  have hhi14 := hF14.hi
  have HF14 := hid hF14
  clear hF14
  try simp at hlo14
  clear ho14 hg14
  have hc14 := cellOf hb14
  have hf14 := frozOf hb14
  have hz14 := sizeOf hb14
  try simp at hz14
  go_wp2_with (fail)
  refine (c_laws_eqTugJobS _ _ _ _ _ _ _ (by first | exact hr8 | exact Rds.below hr8 (by (repeat' (first | exact Below.refl _ _ | assumption | refine Below.setCell ?_ ?_ _ | refine Below.drew ?_ | refine Below.alloc ?_ ?_ _ | refine Below.trans ?_ (Below.mono (by assumption) ?_) | (simp; done) | (simp; omega) | omega)))) (by first | exact hr14 | exact Rds.below hr14 (by (repeat' (first | exact Below.refl _ _ | assumption | refine Below.setCell ?_ ?_ _ | refine Below.drew ?_ | refine Below.alloc ?_ ?_ _ | refine Below.trans ?_ (Below.mono (by assumption) ?_) | (simp; done) | (simp; omega) | omega)))) (by omega) (by omega)).mono ?_
  rintro e W15 ⟨rfl, hb15⟩
  have hc15 := cellOf hb15
  have hf15 := frozOf hb15
  have hz15 := sizeOf hb15
  try simp at hz15
  go_wp2_with (fail)
  refine (c_laws_toIntS _ _ _ _ (by first | exact hr_who | exact Rds.below hr_who (by (repeat' (first | exact Below.refl _ _ | assumption | refine Below.setCell ?_ ?_ _ | refine Below.drew ?_ | refine Below.alloc ?_ ?_ _ | refine Below.trans ?_ (Below.mono (by assumption) ?_) | (simp; done) | (simp; omega) | omega)))) (by omega)).mono ?_
  rintro e W16 ⟨g16, rfl, hg16, ho16, hb16⟩
  have hF16 : FreshA cIn 1 3 _ _ _ _ _ := .inr ⟨g16, rfl, hg16, ho16⟩
  have hr16 := hF16.rds
  have hlo16 := hF16.lo
  have hhi16 := hF16.hi
  have HF16 := hid hF16
  clear hF16
  try simp at hlo16
  clear ho16 hg16
  have hc16 := cellOf hb16
  have hf16 := frozOf hb16
  have hz16 := sizeOf hb16
  try simp at hz16
  go_wp2_with (fail)
  refine (c_laws_eqIntS _ _ _ _ _ _ _ (by first | exact hr9 | exact Rds.below hr9 (by (repeat' (first | exact Below.refl _ _ | assumption | refine Below.setCell ?_ ?_ _ | refine Below.drew ?_ | refine Below.alloc ?_ ?_ _ | refine Below.trans ?_ (Below.mono (by assumption) ?_) | (simp; done) | (simp; omega) | omega)))) (by first | exact hr16 | exact Rds.below hr16 (by (repeat' (first | exact Below.refl _ _ | assumption | refine Below.setCell ?_ ?_ _ | refine Below.drew ?_ | refine Below.alloc ?_ ?_ _ | refine Below.trans ?_ (Below.mono (by assumption) ?_) | (simp; done) | (simp; omega) | omega)))) (by omega) (by omega)).mono ?_
  rintro e W17 ⟨rfl, hb17⟩
  have hc17 := cellOf hb17
  have hf17 := frozOf hb17
  have hz17 := sizeOf hb17
  try simp at hz17
  go_wp2_with (fail)
  refine (c_laws_markTugS _ _ _ _ _ _ (FreshA.below HF7.out (by (repeat' (first | exact Below.refl _ _ | assumption | refine Below.setCell ?_ ?_ _ | refine Below.drew ?_ | refine Below.alloc ?_ ?_ _ | refine Below.trans ?_ (Below.mono (by assumption) ?_) | (simp; done) | (simp; omega) | omega)))) (by omega) (by omega)).mono ?_
  rintro e W18 ⟨rfl, hF18, hg18⟩
  have hb18 := below_of_grown hg18 hlo7 (by (try simp); omega)
  have hc18 := cellGrown hg18 hlo7 hhi7
  have hf18 := frozGrown hg18 hlo7 hhi7
  have hz18 := hg18.size
  try simp at hz18
  have hn18_aTugs := RdsN.past (Rds.toN hr_ts) (by first | exact Nat.le_refl _ | omega) (by (repeat' (first | exact Below.refl _ _ | assumption | refine Below.setCell ?_ ?_ _ | refine Below.drew ?_ | refine Below.alloc ?_ ?_ _ | refine Below.trans ?_ (Below.mono (by assumption) ?_) | (simp; done) | (simp; omega) | omega))) hg18 hlo7 (by omega)
  have hr18_aTugs := RdsN.rds hn18_aTugs (by omega)
  have hn18_aJobs := RdsN.past (Rds.toN hr_js) (by first | exact Nat.le_refl _ | omega) (by (repeat' (first | exact Below.refl _ _ | assumption | refine Below.setCell ?_ ?_ _ | refine Below.drew ?_ | refine Below.alloc ?_ ?_ _ | refine Below.trans ?_ (Below.mono (by assumption) ?_) | (simp; done) | (simp; omega) | omega))) hg18 hlo7 (by omega)
  have hr18_aJobs := RdsN.rds hn18_aJobs (by omega)
  have hn18_aWho := RdsN.past (Rds.toN hr_who) (by first | exact Nat.le_refl _ | omega) (by (repeat' (first | exact Below.refl _ _ | assumption | refine Below.setCell ?_ ?_ _ | refine Below.drew ?_ | refine Below.alloc ?_ ?_ _ | refine Below.trans ?_ (Below.mono (by assumption) ?_) | (simp; done) | (simp; omega) | omega))) hg18 hlo7 (by omega)
  have hr18_aWho := RdsN.rds hn18_aWho (by omega)
  have hn18_w0 := RdsN.past (Rds.toN hr6) (by first | exact Nat.le_refl _ | omega) (by (repeat' (first | exact Below.refl _ _ | assumption | refine Below.setCell ?_ ?_ _ | refine Below.drew ?_ | refine Below.alloc ?_ ?_ _ | refine Below.trans ?_ (Below.mono (by assumption) ?_) | (simp; done) | (simp; omega) | omega))) hg18 hlo7 (by omega)
  have hr18_w0 := RdsN.rds hn18_w0 (by omega)
  have hF18_x1 := FreshA.grown (FreshA.below HF8.out (by (repeat' (first | exact Below.refl _ _ | assumption | refine Below.setCell ?_ ?_ _ | refine Below.drew ?_ | refine Below.alloc ?_ ?_ _ | refine Below.trans ?_ (Below.mono (by assumption) ?_) | (simp; done) | (simp; omega) | omega)))) hg18 (apart_hl (Lo.mono hlo8 (by omega)) hhi7)
  have hr18_x1 := hF18_x1.rds
  have HF18_x1 := hid hF18_x1
  clear hF18_x1
  have hF18_x2 := FreshA.grown (FreshA.below HF9.out (by (repeat' (first | exact Below.refl _ _ | assumption | refine Below.setCell ?_ ?_ _ | refine Below.drew ?_ | refine Below.alloc ?_ ?_ _ | refine Below.trans ?_ (Below.mono (by assumption) ?_) | (simp; done) | (simp; omega) | omega)))) hg18 (apart_hl (Lo.mono hlo9 (by omega)) hhi7)
  have hr18_x2 := hF18_x2.rds
  have HF18_x2 := hid hF18_x2
  clear hF18_x2
  have hF18_g0 := FreshA.grown (FreshA.below HF10.out (by (repeat' (first | exact Below.refl _ _ | assumption | refine Below.setCell ?_ ?_ _ | refine Below.drew ?_ | refine Below.alloc ?_ ?_ _ | refine Below.trans ?_ (Below.mono (by assumption) ?_) | (simp; done) | (simp; omega) | omega)))) hg18 (apart_hl (Lo.mono hlo10 (by omega)) hhi7)
  have hr18_g0 := hF18_g0.rds
  have HF18_g0 := hid hF18_g0
  clear hF18_g0
  have hr18 := hF18.rds
  have HF18 := hid hF18
  clear hF18
  go_wp2_with (fail)
  refine (c_laws_markTugJobS _ _ _ _ _ _ (FreshA.below HF18_x1.out (by (repeat' (first | exact Below.refl _ _ | assumption | refine Below.setCell ?_ ?_ _ | refine Below.drew ?_ | refine Below.alloc ?_ ?_ _ | refine Below.trans ?_ (Below.mono (by assumption) ?_) | (simp; done) | (simp; omega) | omega)))) (by omega) (by omega)).mono ?_
  rintro e W19 ⟨rfl, hF19, hg19⟩
  have hb19 := below_of_grown hg19 hlo8 (by (try simp); omega)
  have hc19 := cellGrown hg19 hlo8 hhi8
  have hf19 := frozGrown hg19 hlo8 hhi8
  have hz19 := hg19.size
  try simp at hz19
  have hn19_aTugs := RdsN.past (hn18_aTugs) (by first | exact Nat.le_refl _ | omega) (by (repeat' (first | exact Below.refl _ _ | assumption | refine Below.setCell ?_ ?_ _ | refine Below.drew ?_ | refine Below.alloc ?_ ?_ _ | refine Below.trans ?_ (Below.mono (by assumption) ?_) | (simp; done) | (simp; omega) | omega))) hg19 hlo8 (by omega)
  have hr19_aTugs := RdsN.rds hn19_aTugs (by omega)
  have hn19_aJobs := RdsN.past (hn18_aJobs) (by first | exact Nat.le_refl _ | omega) (by (repeat' (first | exact Below.refl _ _ | assumption | refine Below.setCell ?_ ?_ _ | refine Below.drew ?_ | refine Below.alloc ?_ ?_ _ | refine Below.trans ?_ (Below.mono (by assumption) ?_) | (simp; done) | (simp; omega) | omega))) hg19 hlo8 (by omega)
  have hr19_aJobs := RdsN.rds hn19_aJobs (by omega)
  have hn19_aWho := RdsN.past (hn18_aWho) (by first | exact Nat.le_refl _ | omega) (by (repeat' (first | exact Below.refl _ _ | assumption | refine Below.setCell ?_ ?_ _ | refine Below.drew ?_ | refine Below.alloc ?_ ?_ _ | refine Below.trans ?_ (Below.mono (by assumption) ?_) | (simp; done) | (simp; omega) | omega))) hg19 hlo8 (by omega)
  have hr19_aWho := RdsN.rds hn19_aWho (by omega)
  have hn19_w0 := RdsN.past (hn18_w0) (by first | exact Nat.le_refl _ | omega) (by (repeat' (first | exact Below.refl _ _ | assumption | refine Below.setCell ?_ ?_ _ | refine Below.drew ?_ | refine Below.alloc ?_ ?_ _ | refine Below.trans ?_ (Below.mono (by assumption) ?_) | (simp; done) | (simp; omega) | omega))) hg19 hlo8 (by omega)
  have hr19_w0 := RdsN.rds hn19_w0 (by omega)
  have hn19_x0 := RdsN.past (RdsN.ofHi hr18 hhi7) (by first | exact Nat.le_refl _ | omega) (by (repeat' (first | exact Below.refl _ _ | assumption | refine Below.setCell ?_ ?_ _ | refine Below.drew ?_ | refine Below.alloc ?_ ?_ _ | refine Below.trans ?_ (Below.mono (by assumption) ?_) | (simp; done) | (simp; omega) | omega))) hg19 hlo8 (by omega)
  have hr19_x0 := RdsN.rds hn19_x0 (by omega)
  have hF19_x2 := FreshA.grown (FreshA.below HF18_x2.out (by (repeat' (first | exact Below.refl _ _ | assumption | refine Below.setCell ?_ ?_ _ | refine Below.drew ?_ | refine Below.alloc ?_ ?_ _ | refine Below.trans ?_ (Below.mono (by assumption) ?_) | (simp; done) | (simp; omega) | omega)))) hg19 (apart_hl (Lo.mono hlo9 (by omega)) hhi8)
  have hr19_x2 := hF19_x2.rds
  have HF19_x2 := hid hF19_x2
  clear hF19_x2
  have hF19_g0 := FreshA.grown (FreshA.below HF18_g0.out (by (repeat' (first | exact Below.refl _ _ | assumption | refine Below.setCell ?_ ?_ _ | refine Below.drew ?_ | refine Below.alloc ?_ ?_ _ | refine Below.trans ?_ (Below.mono (by assumption) ?_) | (simp; done) | (simp; omega) | omega)))) hg19 (apart_hl (Lo.mono hlo10 (by omega)) hhi8)
  have hr19_g0 := hF19_g0.rds
  have HF19_g0 := hid hF19_g0
  clear hF19_g0
  have hr19 := hF19.rds
  have HF19 := hid hF19
  clear hF19
  go_wp2_with (fail)
  refine (c_laws_markIntS _ _ _ _ _ _ (FreshA.below HF19_x2.out (by (repeat' (first | exact Below.refl _ _ | assumption | refine Below.setCell ?_ ?_ _ | refine Below.drew ?_ | refine Below.alloc ?_ ?_ _ | refine Below.trans ?_ (Below.mono (by assumption) ?_) | (simp; done) | (simp; omega) | omega)))) (by omega) (by omega)).mono ?_
  rintro e W20 ⟨rfl, hF20, hg20⟩
  have hb20 := below_of_grown hg20 hlo9 (by (try simp); omega)
  have hc20 := cellGrown hg20 hlo9 hhi9
  have hf20 := frozGrown hg20 hlo9 hhi9
  have hz20 := hg20.size
  try simp at hz20
  have hn20_aTugs := RdsN.past (hn19_aTugs) (by first | exact Nat.le_refl _ | omega) (by (repeat' (first | exact Below.refl _ _ | assumption | refine Below.setCell ?_ ?_ _ | refine Below.drew ?_ | refine Below.alloc ?_ ?_ _ | refine Below.trans ?_ (Below.mono (by assumption) ?_) | (simp; done) | (simp; omega) | omega))) hg20 hlo9 (by omega)
  have hr20_aTugs := RdsN.rds hn20_aTugs (by omega)
  have hn20_aJobs := RdsN.past (hn19_aJobs) (by first | exact Nat.le_refl _ | omega) (by (repeat' (first | exact Below.refl _ _ | assumption | refine Below.setCell ?_ ?_ _ | refine Below.drew ?_ | refine Below.alloc ?_ ?_ _ | refine Below.trans ?_ (Below.mono (by assumption) ?_) | (simp; done) | (simp; omega) | omega))) hg20 hlo9 (by omega)
  have hr20_aJobs := RdsN.rds hn20_aJobs (by omega)
  have hn20_aWho := RdsN.past (hn19_aWho) (by first | exact Nat.le_refl _ | omega) (by (repeat' (first | exact Below.refl _ _ | assumption | refine Below.setCell ?_ ?_ _ | refine Below.drew ?_ | refine Below.alloc ?_ ?_ _ | refine Below.trans ?_ (Below.mono (by assumption) ?_) | (simp; done) | (simp; omega) | omega))) hg20 hlo9 (by omega)
  have hr20_aWho := RdsN.rds hn20_aWho (by omega)
  have hn20_w0 := RdsN.past (hn19_w0) (by first | exact Nat.le_refl _ | omega) (by (repeat' (first | exact Below.refl _ _ | assumption | refine Below.setCell ?_ ?_ _ | refine Below.drew ?_ | refine Below.alloc ?_ ?_ _ | refine Below.trans ?_ (Below.mono (by assumption) ?_) | (simp; done) | (simp; omega) | omega))) hg20 hlo9 (by omega)
  have hr20_w0 := RdsN.rds hn20_w0 (by omega)
  have hn20_x0 := RdsN.past (hn19_x0) (by first | exact Nat.le_refl _ | omega) (by (repeat' (first | exact Below.refl _ _ | assumption | refine Below.setCell ?_ ?_ _ | refine Below.drew ?_ | refine Below.alloc ?_ ?_ _ | refine Below.trans ?_ (Below.mono (by assumption) ?_) | (simp; done) | (simp; omega) | omega))) hg20 hlo9 (by omega)
  have hr20_x0 := RdsN.rds hn20_x0 (by omega)
  have hn20_x1 := RdsN.past (RdsN.ofHi hr19 hhi8) (by first | exact Nat.le_refl _ | omega) (by (repeat' (first | exact Below.refl _ _ | assumption | refine Below.setCell ?_ ?_ _ | refine Below.drew ?_ | refine Below.alloc ?_ ?_ _ | refine Below.trans ?_ (Below.mono (by assumption) ?_) | (simp; done) | (simp; omega) | omega))) hg20 hlo9 (by omega)
  have hr20_x1 := RdsN.rds hn20_x1 (by omega)
  have hF20_g0 := FreshA.grown (FreshA.below HF19_g0.out (by (repeat' (first | exact Below.refl _ _ | assumption | refine Below.setCell ?_ ?_ _ | refine Below.drew ?_ | refine Below.alloc ?_ ?_ _ | refine Below.trans ?_ (Below.mono (by assumption) ?_) | (simp; done) | (simp; omega) | omega)))) hg20 (apart_hl (Lo.mono hlo10 (by omega)) hhi9)
  have hr20_g0 := hF20_g0.rds
  have HF20_g0 := hid hF20_g0
  clear hF20_g0
  have hr20 := hF20.rds
  have HF20 := hid hF20
  clear hF20
  go_wp2_with (fail)
  refine (c_laws_eqIntS _ _ _ _ _ _ _ (by first | exact hr20_g0 | exact Rds.below hr20_g0 (by (repeat' (first | exact Below.refl _ _ | assumption | refine Below.setCell ?_ ?_ _ | refine Below.drew ?_ | refine Below.alloc ?_ ?_ _ | refine Below.trans ?_ (Below.mono (by assumption) ?_) | (simp; done) | (simp; omega) | omega)))) (by first | exact hr20_w0 | exact Rds.below hr20_w0 (by (repeat' (first | exact Below.refl _ _ | assumption | refine Below.setCell ?_ ?_ _ | refine Below.drew ?_ | refine Below.alloc ?_ ?_ _ | refine Below.trans ?_ (Below.mono (by assumption) ?_) | (simp; done) | (simp; omega) | omega)))) (by omega) (by omega)).mono ?_
  rintro e W21 ⟨rfl, hb21⟩
  have hc21 := cellOf hb21
  have hf21 := frozOf hb21
  have hz21 := sizeOf hb21
  try simp at hz21
  go_wp2_with (fail)
  refine (c_laws_markIntS _ _ _ _ _ _ (FreshA.below HF20_g0.out (by (repeat' (first | exact Below.refl _ _ | assumption | refine Below.setCell ?_ ?_ _ | refine Below.drew ?_ | refine Below.alloc ?_ ?_ _ | refine Below.trans ?_ (Below.mono (by assumption) ?_) | (simp; done) | (simp; omega) | omega)))) (by omega) (by omega)).mono ?_
  rintro e W22 ⟨rfl, hF22, hg22⟩
  have hb22 := below_of_grown hg22 hlo10 (by (try simp); omega)
  have hc22 := cellGrown hg22 hlo10 hhi10
  have hf22 := frozGrown hg22 hlo10 hhi10
  have hz22 := hg22.size
  try simp at hz22
  have hn22_aTugs := RdsN.past (hn20_aTugs) (by first | exact Nat.le_refl _ | omega) (by (repeat' (first | exact Below.refl _ _ | assumption | refine Below.setCell ?_ ?_ _ | refine Below.drew ?_ | refine Below.alloc ?_ ?_ _ | refine Below.trans ?_ (Below.mono (by assumption) ?_) | (simp; done) | (simp; omega) | omega))) hg22 hlo10 (by omega)
  have hr22_aTugs := RdsN.rds hn22_aTugs (by omega)
  have hn22_aJobs := RdsN.past (hn20_aJobs) (by first | exact Nat.le_refl _ | omega) (by (repeat' (first | exact Below.refl _ _ | assumption | refine Below.setCell ?_ ?_ _ | refine Below.drew ?_ | refine Below.alloc ?_ ?_ _ | refine Below.trans ?_ (Below.mono (by assumption) ?_) | (simp; done) | (simp; omega) | omega))) hg22 hlo10 (by omega)
  have hr22_aJobs := RdsN.rds hn22_aJobs (by omega)
  have hn22_aWho := RdsN.past (hn20_aWho) (by first | exact Nat.le_refl _ | omega) (by (repeat' (first | exact Below.refl _ _ | assumption | refine Below.setCell ?_ ?_ _ | refine Below.drew ?_ | refine Below.alloc ?_ ?_ _ | refine Below.trans ?_ (Below.mono (by assumption) ?_) | (simp; done) | (simp; omega) | omega))) hg22 hlo10 (by omega)
  have hr22_aWho := RdsN.rds hn22_aWho (by omega)
  have hn22_w0 := RdsN.past (hn20_w0) (by first | exact Nat.le_refl _ | omega) (by (repeat' (first | exact Below.refl _ _ | assumption | refine Below.setCell ?_ ?_ _ | refine Below.drew ?_ | refine Below.alloc ?_ ?_ _ | refine Below.trans ?_ (Below.mono (by assumption) ?_) | (simp; done) | (simp; omega) | omega))) hg22 hlo10 (by omega)
  have hr22_w0 := RdsN.rds hn22_w0 (by omega)
  have hn22_x0 := RdsN.past (hn20_x0) (by first | exact Nat.le_refl _ | omega) (by (repeat' (first | exact Below.refl _ _ | assumption | refine Below.setCell ?_ ?_ _ | refine Below.drew ?_ | refine Below.alloc ?_ ?_ _ | refine Below.trans ?_ (Below.mono (by assumption) ?_) | (simp; done) | (simp; omega) | omega))) hg22 hlo10 (by omega)
  have hr22_x0 := RdsN.rds hn22_x0 (by omega)
  have hn22_x1 := RdsN.past (hn20_x1) (by first | exact Nat.le_refl _ | omega) (by (repeat' (first | exact Below.refl _ _ | assumption | refine Below.setCell ?_ ?_ _ | refine Below.drew ?_ | refine Below.alloc ?_ ?_ _ | refine Below.trans ?_ (Below.mono (by assumption) ?_) | (simp; done) | (simp; omega) | omega))) hg22 hlo10 (by omega)
  have hr22_x1 := RdsN.rds hn22_x1 (by omega)
  have hn22_x2 := RdsN.past (RdsN.ofHi hr20 hhi9) (by first | exact Nat.le_refl _ | omega) (by (repeat' (first | exact Below.refl _ _ | assumption | refine Below.setCell ?_ ?_ _ | refine Below.drew ?_ | refine Below.alloc ?_ ?_ _ | refine Below.trans ?_ (Below.mono (by assumption) ?_) | (simp; done) | (simp; omega) | omega))) hg22 hlo10 (by omega)
  have hr22_x2 := RdsN.rds hn22_x2 (by omega)
  have hr22 := hF22.rds
  have HF22 := hid hF22
  clear hF22
  go_wp2_with (fail)
  refine (c_laws_heldIntS _ _ _ _ _ (by first | exact hr22 | exact Rds.below hr22 (by (repeat' (first | exact Below.refl _ _ | assumption | refine Below.setCell ?_ ?_ _ | refine Below.drew ?_ | refine Below.alloc ?_ ?_ _ | refine Below.trans ?_ (Below.mono (by assumption) ?_) | (simp; done) | (simp; omega) | omega)))) (by omega) (by omega)).mono ?_
  rintro e W23 ⟨rfl, hb23⟩
  have hc23 := cellOf hb23
  have hf23 := frozOf hb23
  have hz23 := sizeOf hb23
  try simp at hz23
  go_wp2_with (fail)
  refine (c_laws_toTugS _ _ _ _ (by first | exact hr22_aTugs | exact Rds.below hr22_aTugs (by (repeat' (first | exact Below.refl _ _ | assumption | refine Below.setCell ?_ ?_ _ | refine Below.drew ?_ | refine Below.alloc ?_ ?_ _ | refine Below.trans ?_ (Below.mono (by assumption) ?_) | (simp; done) | (simp; omega) | omega)))) (by omega)).mono ?_
  rintro e W24 ⟨g24, rfl, hg24, ho24, hb24⟩
  have hF24 : FreshA cTug 3 62 _ _ _ _ _ := .inr ⟨g24, rfl, hg24, ho24⟩
  have hr24 := hF24.rds
  have hlo24 := hF24.lo
  have hhi24 := hF24.hi
  have HF24 := hid hF24
  clear hF24
  try simp at hlo24
  clear ho24 hg24
  have hc24 := cellOf hb24
  have hf24 := frozOf hb24
  have hz24 := sizeOf hb24
  try simp at hz24
  go_wp2_with (fail)
  refine (c_laws_toTugJobS _ _ _ _ (by first | exact hr22_aJobs | exact Rds.below hr22_aJobs (by (repeat' (first | exact Below.refl _ _ | assumption | refine Below.setCell ?_ ?_ _ | refine Below.drew ?_ | refine Below.alloc ?_ ?_ _ | refine Below.trans ?_ (Below.mono (by assumption) ?_) | (simp; done) | (simp; omega) | omega)))) (by omega)).mono ?_
  rintro e W25 ⟨g25, rfl, hg25, ho25, hb25⟩
  have hF25 : FreshA cJob 5 40 _ _ _ _ _ := .inr ⟨g25, rfl, hg25, ho25⟩
  have hr25 := hF25.rds
  have hlo25 := hF25.lo
  have hhi25 := hF25.hi
  have HF25 := hid hF25
  clear hF25
  try simp at hlo25
  clear ho25 hg25
  have hc25 := cellOf hb25
  have hf25 := frozOf hb25
  have hz25 := sizeOf hb25
  try simp at hz25
  go_wp2_with (fail)
  refine (c_laws_toIntS _ _ _ _ (by first | exact hr22_aWho | exact Rds.below hr22_aWho (by (repeat' (first | exact Below.refl _ _ | assumption | refine Below.setCell ?_ ?_ _ | refine Below.drew ?_ | refine Below.alloc ?_ ?_ _ | refine Below.trans ?_ (Below.mono (by assumption) ?_) | (simp; done) | (simp; omega) | omega)))) (by omega)).mono ?_
  rintro e W26 ⟨g26, rfl, hg26, ho26, hb26⟩
  have hF26 : FreshA cIn 1 3 _ _ _ _ _ := .inr ⟨g26, rfl, hg26, ho26⟩
  have hr26 := hF26.rds
  have hlo26 := hF26.lo
  have hhi26 := hF26.hi
  have HF26 := hid hF26
  clear hF26
  try simp at hlo26
  clear ho26 hg26
  have hc26 := cellOf hb26
  have hf26 := frozOf hb26
  have hz26 := sizeOf hb26
  try simp at hz26
  go_wp2_with (fail)
  refine (c_impl_JobEnds _ _ _ _ _ _ _ _ _ _ (by first | exact hr24 | exact Rds.below hr24 (by (repeat' (first | exact Below.refl _ _ | assumption | refine Below.setCell ?_ ?_ _ | refine Below.drew ?_ | refine Below.alloc ?_ ?_ _ | refine Below.trans ?_ (Below.mono (by assumption) ?_) | (simp; done) | (simp; omega) | omega)))) (by omega) (by first | exact hr25 | exact Rds.below hr25 (by (repeat' (first | exact Below.refl _ _ | assumption | refine Below.setCell ?_ ?_ _ | refine Below.drew ?_ | refine Below.alloc ?_ ?_ _ | refine Below.trans ?_ (Below.mono (by assumption) ?_) | (simp; done) | (simp; omega) | omega)))) (by omega) (by first | exact hr26 | exact Rds.below hr26 (by (repeat' (first | exact Below.refl _ _ | assumption | refine Below.setCell ?_ ?_ _ | refine Below.drew ?_ | refine Below.alloc ?_ ?_ _ | refine Below.trans ?_ (Below.mono (by assumption) ?_) | (simp; done) | (simp; omega) | omega)))) (by omega) ).mono ?_
  rintro e W27 ⟨A27, cp27, rfl, hF27, hb27⟩
  have hr27 := hF27.rds
  have hlo27 := hF27.lo
  have hhi27 := hF27.hi
  have HF27 := hid hF27
  clear hF27
  try simp at hlo27
  have hc27 := cellOf hb27
  have hf27 := frozOf hb27
  have hz27 := sizeOf hb27
  try simp at hz27
  go_wp2_with (fail)
  refine (c_laws_eqIntS _ _ _ _ _ _ _ (by first | exact hr27 | exact Rds.below hr27 (by (repeat' (first | exact Below.refl _ _ | assumption | refine Below.setCell ?_ ?_ _ | refine Below.drew ?_ | refine Below.alloc ?_ ?_ _ | refine Below.trans ?_ (Below.mono (by assumption) ?_) | (simp; done) | (simp; omega) | omega)))) (by first | exact hr22_w0 | exact Rds.below hr22_w0 (by (repeat' (first | exact Below.refl _ _ | assumption | refine Below.setCell ?_ ?_ _ | refine Below.drew ?_ | refine Below.alloc ?_ ?_ _ | refine Below.trans ?_ (Below.mono (by assumption) ?_) | (simp; done) | (simp; omega) | omega)))) (by omega) (by omega)).mono ?_
  rintro e W28 ⟨rfl, hb28⟩
  have hc28 := cellOf hb28
  have hf28 := frozOf hb28
  have hz28 := sizeOf hb28
  try simp at hz28
  go_wp2_with (fail)
  refine (c_laws_heldIntS _ _ _ _ _ (by first | exact hr22 | exact Rds.below hr22 (by (repeat' (first | exact Below.refl _ _ | assumption | refine Below.setCell ?_ ?_ _ | refine Below.drew ?_ | refine Below.alloc ?_ ?_ _ | refine Below.trans ?_ (Below.mono (by assumption) ?_) | (simp; done) | (simp; omega) | omega)))) (by omega) (by omega)).mono ?_
  rintro e W29 ⟨rfl, hb29⟩
  have hc29 := cellOf hb29
  have hf29 := frozOf hb29
  have hz29 := sizeOf hb29
  try simp at hz29
  go_wp2_with (fail)
  all_goals go_ret
  all_goals exact ⟨rfl, by (repeat' (first | exact Below.refl _ _ | assumption | refine Below.setCell ?_ ?_ _ | refine Below.drew ?_ | refine Below.alloc ?_ ?_ _ | refine Below.trans ?_ (Below.mono (by assumption) ?_) | (simp; done) | (simp; omega) | omega))⟩

end Go.Proofs.Ytipipicfkjigdaa
