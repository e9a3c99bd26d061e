import Derived.Test.YtipipicfkjigdaaT7i
import Derived.Test.YtipipicfkjigdaaT7s
import Derived.Test.YtipipicfkjigdaaG6
import Derived.Test.YtipipicfkjigdaaG6j
import Derived.Test.YtipipicfkjigdaaG7
import Derived.Test.YtipipicfkjigdaaG7t
import Derived.Test.YtipipicfkjigdaaG7n
import Derived.Test.YtipipicfkjigdaaG7m
import Derived.Test.YtipipicfkjigdaaG8
namespace Go.Proofs.Ytipipicfkjigdaa
set_option linter.unusedSimpArgs false
set_option linter.unusedVariables false
open Go.RowKit

set_option maxRecDepth 100000 in
set_option maxHeartbeats 8000000 in
theorem c_laws_FnExactTowedKilometers (A : Option Addr) (ts : List (Int × Int × Int)) (capt : Nat) (B : Option Addr) (js : List (Int × Int × Int × Int × Int)) (capj : Nat) (C : Option Addr) (who : List Int) (capw : Nat) (z : Int) (w : World) (hr_ts : Rds cTug 3 w A ts) (hn : ts.length ≤ 9223372036854775807) (hr_js : Rds cJob 5 w B js) (hm : js.length ≤ 9223372036854775807) (hr_who : Rds cIn 1 w C who) (hq : who.length ≤ 9223372036854775807) :
    Calls Try.prog 11 #[.slice A ts.length capt, .slice B js.length capj, .slice C who.length capw, .int .i64 z] w fun e w' => e = .returned (.bool true) ∧ Below w.heap.size w w' := by
  by_cases hsz_who : who.length ≤ 1048576
  rotate_left
  · go_enter Try.func11, Try.ntmps11
    go_wp2_with (first | (go_at_call 12; refine (c_laws_szTugS _ _ _ _ _ (by omega) (by omega)).mono ?_; rintro e w' ⟨rfl, hb⟩; have hc := cellOf hb; have hf := frozOf hb; have hz := sizeOf hb; try simp at hz) | (go_at_call 17; refine (c_laws_szTugJobS _ _ _ _ _ (by omega) (by omega)).mono ?_; rintro e w' ⟨rfl, hb⟩; have hc := cellOf hb; have hf := frozOf hb; have hz := sizeOf hb; try simp at hz))
    all_goals go_ret
    all_goals exact ⟨rfl, by (repeat' (first | exact Below.refl _ _ | assumption | refine Below.setCell ?_ ?_ _ | refine Below.drew ?_ | refine Below.alloc ?_ ?_ _ | refine Below.trans ?_ (Below.mono (by assumption) ?_) | (simp; done) | (simp; omega) | omega))⟩
  by_cases hsz_ts : ts.length ≤ 1048576
  rotate_left
  · go_enter Try.func11, Try.ntmps11
    go_wp2_with (first | (go_at_call 12; refine (c_laws_szTugS _ _ _ _ _ (by omega) (by omega)).mono ?_; rintro e w' ⟨rfl, hb⟩; have hc := cellOf hb; have hf := frozOf hb; have hz := sizeOf hb; try simp at hz) | (go_at_call 17; refine (c_laws_szTugJobS _ _ _ _ _ (by omega) (by omega)).mono ?_; rintro e w' ⟨rfl, hb⟩; have hc := cellOf hb; have hf := frozOf hb; have hz := sizeOf hb; try simp at hz))
    all_goals go_ret
    all_goals exact ⟨rfl, by (repeat' (first | exact Below.refl _ _ | assumption | refine Below.setCell ?_ ?_ _ | refine Below.drew ?_ | refine Below.alloc ?_ ?_ _ | refine Below.trans ?_ (Below.mono (by assumption) ?_) | (simp; done) | (simp; omega) | omega))⟩
  by_cases hsum : ts.length + js.length ≤ 1048576
  rotate_left
  · go_enter Try.func11, Try.ntmps11
    go_wp2_with (first | (go_at_call 12; refine (c_laws_szTugS _ _ _ _ _ (by omega) (by omega)).mono ?_; rintro e w' ⟨rfl, hb⟩; have hc := cellOf hb; have hf := frozOf hb; have hz := sizeOf hb; try simp at hz) | (go_at_call 17; refine (c_laws_szTugJobS _ _ _ _ _ (by omega) (by omega)).mono ?_; rintro e w' ⟨rfl, hb⟩; have hc := cellOf hb; have hf := frozOf hb; have hz := sizeOf hb; try simp at hz))
    all_goals go_ret
    all_goals exact ⟨rfl, by (repeat' (first | exact Below.refl _ _ | assumption | refine Below.setCell ?_ ?_ _ | refine Below.drew ?_ | refine Below.alloc ?_ ?_ _ | refine Below.trans ?_ (Below.mono (by assumption) ?_) | (simp; done) | (simp; omega) | omega))⟩
  go_enter Try.func11, Try.ntmps11
  go_wp2_with (fail)
  refine (c_laws_szTugS _ _ _ _ _ (by omega) (by omega)).mono ?_
  rintro e W1 ⟨rfl, hb1⟩
  have hc1 := cellOf hb1
  have hf1 := frozOf hb1
  have hz1 := sizeOf hb1
  try simp at hz1
  go_wp2_with (fail)
  refine (c_laws_szTugJobS _ _ _ _ _ (by omega) (by omega)).mono ?_
  rintro e W2 ⟨rfl, hb2⟩
  have hc2 := cellOf hb2
  have hf2 := frozOf hb2
  have hz2 := sizeOf hb2
  try simp at hz2
  go_wp2_with (fail)
  refine (c_laws_toTugS _ _ _ _ (by first | exact hr_ts | exact Rds.below hr_ts (by (repeat' (first | exact Below.refl _ _ | assumption | refine Below.setCell ?_ ?_ _ | refine Below.drew ?_ | refine Below.alloc ?_ ?_ _ | refine Below.trans ?_ (Below.mono (by assumption) ?_) | (simp; done) | (simp; omega) | omega)))) (by omega)).mono ?_
  rintro e W3 ⟨g3, rfl, hg3, ho3, hb3⟩
  have hF3 : FreshA cTug 3 62 _ _ _ _ _ := .inr ⟨g3, rfl, hg3, ho3⟩
  have hr3 := hF3.rds
  have hlo3 := hF3.lo
  have hhi3 := hF3.hi
  have HF3 := hid hF3
  clear hF3
  try simp at hlo3
  clear ho3 hg3
  have hc3 := cellOf hb3
  have hf3 := frozOf hb3
  have hz3 := sizeOf hb3
  try simp at hz3
  go_wp2_with (fail)
  refine (c_laws_toTugJobS _ _ _ _ (by first | exact hr_js | exact Rds.below hr_js (by (repeat' (first | exact Below.refl _ _ | assumption | refine Below.setCell ?_ ?_ _ | refine Below.drew ?_ | refine Below.alloc ?_ ?_ _ | refine Below.trans ?_ (Below.mono (by assumption) ?_) | (simp; done) | (simp; omega) | omega)))) (by omega)).mono ?_
  rintro e W4 ⟨g4, rfl, hg4, ho4, hb4⟩
  have hF4 : FreshA cJob 5 40 _ _ _ _ _ := .inr ⟨g4, rfl, hg4, ho4⟩
  have hr4 := hF4.rds
  have hlo4 := hF4.lo
  have hhi4 := hF4.hi
  have HF4 := hid hF4
  clear hF4
  try simp at hlo4
  clear ho4 hg4
  have hc4 := cellOf hb4
  have hf4 := frozOf hb4
  have hz4 := sizeOf hb4
  try simp at hz4
  go_wp2_with (fail)
  refine (c_laws_toIntS _ _ _ _ (by first | exact hr_who | exact Rds.below hr_who (by (repeat' (first | exact Below.refl _ _ | assumption | refine Below.setCell ?_ ?_ _ | refine Below.drew ?_ | refine Below.alloc ?_ ?_ _ | refine Below.trans ?_ (Below.mono (by assumption) ?_) | (simp; done) | (simp; omega) | omega)))) (by omega)).mono ?_
  rintro e W5 ⟨g5, rfl, hg5, ho5, hb5⟩
  have hF5 : FreshA cIn 1 3 _ _ _ _ _ := .inr ⟨g5, rfl, hg5, ho5⟩
  have hr5 := hF5.rds
  have hlo5 := hF5.lo
  have hhi5 := hF5.hi
  have HF5 := hid hF5
  clear hF5
  try simp at hlo5
  clear ho5 hg5
  have hc5 := cellOf hb5
  have hf5 := frozOf hb5
  have hz5 := sizeOf hb5
  try simp at hz5
  go_wp2_with (fail)
  refine (c_spec_TowedKilometers _ _ _ _ _ _ _ _ _ _ _ (by first | exact hr3 | exact Rds.below hr3 (by (repeat' (first | exact Below.refl _ _ | assumption | refine Below.setCell ?_ ?_ _ | refine Below.drew ?_ | refine Below.alloc ?_ ?_ _ | refine Below.trans ?_ (Below.mono (by assumption) ?_) | (simp; done) | (simp; omega) | omega)))) (by omega) (by first | exact hr4 | exact Rds.below hr4 (by (repeat' (first | exact Below.refl _ _ | assumption | refine Below.setCell ?_ ?_ _ | refine Below.drew ?_ | refine Below.alloc ?_ ?_ _ | refine Below.trans ?_ (Below.mono (by assumption) ?_) | (simp; done) | (simp; omega) | omega)))) (by omega) (by first | exact hr5 | exact Rds.below hr5 (by (repeat' (first | exact Below.refl _ _ | assumption | refine Below.setCell ?_ ?_ _ | refine Below.drew ?_ | refine Below.alloc ?_ ?_ _ | refine Below.trans ?_ (Below.mono (by assumption) ?_) | (simp; done) | (simp; omega) | omega)))) (by omega) ).mono ?_
  rintro e W6 ⟨rfl, hb6⟩
  have hc6 := cellOf hb6
  have hf6 := frozOf hb6
  have hz6 := sizeOf hb6
  try simp at hz6
  go_wp2_with (fail)
  refine (c_laws_toTugS _ _ _ _ (by first | exact hr_ts | exact Rds.below hr_ts (by (repeat' (first | exact Below.refl _ _ | assumption | refine Below.setCell ?_ ?_ _ | refine Below.drew ?_ | refine Below.alloc ?_ ?_ _ | refine Below.trans ?_ (Below.mono (by assumption) ?_) | (simp; done) | (simp; omega) | omega)))) (by omega)).mono ?_
  rintro e W7 ⟨g7, rfl, hg7, ho7, hb7⟩
  have hF7 : FreshA cTug 3 62 _ _ _ _ _ := .inr ⟨g7, rfl, hg7, ho7⟩
  have hr7 := hF7.rds
  have hlo7 := hF7.lo
  have hhi7 := hF7.hi
  have HF7 := hid hF7
  clear hF7
  try simp at hlo7
  clear ho7 hg7
  have hc7 := cellOf hb7
  have hf7 := frozOf hb7
  have hz7 := sizeOf hb7
  try simp at hz7
  go_wp2_with (fail)
  refine (c_laws_toTugJobS _ _ _ _ (by first | exact hr_js | exact Rds.below hr_js (by (repeat' (first | exact Below.refl _ _ | assumption | refine Below.setCell ?_ ?_ _ | refine Below.drew ?_ | refine Below.alloc ?_ ?_ _ | refine Below.trans ?_ (Below.mono (by assumption) ?_) | (simp; done) | (simp; omega) | omega)))) (by omega)).mono ?_
  rintro e W8 ⟨g8, rfl, hg8, ho8, hb8⟩
  have hF8 : FreshA cJob 5 40 _ _ _ _ _ := .inr ⟨g8, rfl, hg8, ho8⟩
  have hr8 := hF8.rds
  have hlo8 := hF8.lo
  have hhi8 := hF8.hi
  have HF8 := hid hF8
  clear hF8
  try simp at hlo8
  clear ho8 hg8
  have hc8 := cellOf hb8
  have hf8 := frozOf hb8
  have hz8 := sizeOf hb8
  try simp at hz8
  go_wp2_with (fail)
  refine (c_laws_toIntS _ _ _ _ (by first | exact hr_who | exact Rds.below hr_who (by (repeat' (first | exact Below.refl _ _ | assumption | refine Below.setCell ?_ ?_ _ | refine Below.drew ?_ | refine Below.alloc ?_ ?_ _ | refine Below.trans ?_ (Below.mono (by assumption) ?_) | (simp; done) | (simp; omega) | omega)))) (by omega)).mono ?_
  rintro e W9 ⟨g9, rfl, hg9, ho9, hb9⟩
  have hF9 : FreshA cIn 1 3 _ _ _ _ _ := .inr ⟨g9, rfl, hg9, ho9⟩
  have hr9 := hF9.rds
  have hlo9 := hF9.lo
  have hhi9 := hF9.hi
  have HF9 := hid hF9
  clear hF9
  try simp at hlo9
  clear ho9 hg9
  have hc9 := cellOf hb9
  have hf9 := frozOf hb9
  have hz9 := sizeOf hb9
  try simp at hz9
  go_wp2_with (fail)
  refine (c_impl_TowedKilometers _ _ _ _ _ _ _ _ _ _ _ (by first | exact hr7 | exact Rds.below hr7 (by (repeat' (first | exact Below.refl _ _ | assumption | refine Below.setCell ?_ ?_ _ | refine Below.drew ?_ | refine Below.alloc ?_ ?_ _ | refine Below.trans ?_ (Below.mono (by assumption) ?_) | (simp; done) | (simp; omega) | omega)))) (by omega) (by first | exact hr8 | exact Rds.below hr8 (by (repeat' (first | exact Below.refl _ _ | assumption | refine Below.setCell ?_ ?_ _ | refine Below.drew ?_ | refine Below.alloc ?_ ?_ _ | refine Below.trans ?_ (Below.mono (by assumption) ?_) | (simp; done) | (simp; omega) | omega)))) (by omega) (by first | exact hr9 | exact Rds.below hr9 (by (repeat' (first | exact Below.refl _ _ | assumption | refine Below.setCell ?_ ?_ _ | refine Below.drew ?_ | refine Below.alloc ?_ ?_ _ | refine Below.trans ?_ (Below.mono (by assumption) ?_) | (simp; done) | (simp; omega) | omega)))) (by omega) ).mono ?_
  rintro e W10 ⟨rfl, hb10⟩
  have hc10 := cellOf hb10
  have hf10 := frozOf hb10
  have hz10 := sizeOf hb10
  try simp at hz10
  go_wp2_with (fail)
  refine (c_laws_toTugS _ _ _ _ (by first | exact hr_ts | exact Rds.below hr_ts (by (repeat' (first | exact Below.refl _ _ | assumption | refine Below.setCell ?_ ?_ _ | refine Below.drew ?_ | refine Below.alloc ?_ ?_ _ | refine Below.trans ?_ (Below.mono (by assumption) ?_) | (simp; done) | (simp; omega) | omega)))) (by omega)).mono ?_
  rintro e W11 ⟨g11, rfl, hg11, ho11, hb11⟩
  have hF11 : FreshA cTug 3 62 _ _ _ _ _ := .inr ⟨g11, rfl, hg11, ho11⟩
  have hr11 := hF11.rds
  have hlo11 := hF11.lo
  have hhi11 := hF11.hi
  have HF11 := hid hF11
  clear hF11
  try simp at hlo11
  clear ho11 hg11
  have hc11 := cellOf hb11
  have hf11 := frozOf hb11
  have hz11 := sizeOf hb11
  try simp at hz11
  go_wp2_with (fail)
  refine (c_laws_eqTugS _ _ _ _ _ _ _ (by first | exact hr7 | exact Rds.below hr7 (by (repeat' (first | exact Below.refl _ _ | assumption | refine Below.setCell ?_ ?_ _ | refine Below.drew ?_ | refine Below.alloc ?_ ?_ _ | refine Below.trans ?_ (Below.mono (by assumption) ?_) | (simp; done) | (simp; omega) | omega)))) (by first | exact hr11 | exact Rds.below hr11 (by (repeat' (first | exact Below.refl _ _ | assumption | refine Below.setCell ?_ ?_ _ | refine Below.drew ?_ | refine Below.alloc ?_ ?_ _ | refine Below.trans ?_ (Below.mono (by assumption) ?_) | (simp; done) | (simp; omega) | omega)))) (by omega) (by omega)).mono ?_
  rintro e W12 ⟨rfl, hb12⟩
  have hc12 := cellOf hb12
  have hf12 := frozOf hb12
  have hz12 := sizeOf hb12
  try simp at hz12
  go_wp2_with (fail)
  refine (c_laws_toTugJobS _ _ _ _ (by first | exact hr_js | exact Rds.below hr_js (by (repeat' (first | exact Below.refl _ _ | assumption | refine Below.setCell ?_ ?_ _ | refine Below.drew ?_ | refine Below.alloc ?_ ?_ _ | refine Below.trans ?_ (Below.mono (by assumption) ?_) | (simp; done) | (simp; omega) | omega)))) (by omega)).mono ?_
  rintro e W13 ⟨g13, rfl, hg13, ho13, hb13⟩
  have hF13 : FreshA cJob 5 40 _ _ _ _ _ := .inr ⟨g13, rfl, hg13, ho13⟩
  have hr13 := hF13.rds
  have hlo13 := hF13.lo
  have hhi13 := hF13.hi
  have HF13 := hid hF13
  clear hF13
  try simp at hlo13
  clear ho13 hg13
  have hc13 := cellOf hb13
  have hf13 := frozOf hb13
  have hz13 := sizeOf hb13
  try simp at hz13
  go_wp2_with (fail)
  refine (c_laws_eqTugJobS _ _ _ _ _ _ _ (by first | exact hr8 | exact Rds.below hr8 (by (repeat' (first | exact Below.refl _ _ | assumption | refine Below.setCell ?_ ?_ _ | refine Below.drew ?_ | refine Below.alloc ?_ ?_ _ | refine Below.trans ?_ (Below.mono (by assumption) ?_) | (simp; done) | (simp; omega) | omega)))) (by first | exact hr13 | exact Rds.below hr13 (by (repeat' (first | exact Below.refl _ _ | assumption | refine Below.setCell ?_ ?_ _ | refine Below.drew ?_ | refine Below.alloc ?_ ?_ _ | refine Below.trans ?_ (Below.mono (by assumption) ?_) | (simp; done) | (simp; omega) | omega)))) (by omega) (by omega)).mono ?_
  rintro e W14 ⟨rfl, hb14⟩
  have hc14 := cellOf hb14
  have hf14 := frozOf hb14
  have hz14 := sizeOf hb14
  try simp at hz14
  go_wp2_with (fail)
  refine (c_laws_toIntS _ _ _ _ (by first | exact hr_who | exact Rds.below hr_who (by (repeat' (first | exact Below.refl _ _ | assumption | refine Below.setCell ?_ ?_ _ | refine Below.drew ?_ | refine Below.alloc ?_ ?_ _ | refine Below.trans ?_ (Below.mono (by assumption) ?_) | (simp; done) | (simp; omega) | omega)))) (by omega)).mono ?_
  rintro e W15 ⟨g15, rfl, hg15, ho15, hb15⟩
  have hF15 : FreshA cIn 1 3 _ _ _ _ _ := .inr ⟨g15, rfl, hg15, ho15⟩
  have hr15 := hF15.rds
  have hlo15 := hF15.lo
  have hhi15 := hF15.hi
  have HF15 := hid hF15
  clear hF15
  try simp at hlo15
  clear ho15 hg15
  have hc15 := cellOf hb15
  have hf15 := frozOf hb15
  have hz15 := sizeOf hb15
  try simp at hz15
  go_wp2_with (fail)
  refine (c_laws_eqIntS _ _ _ _ _ _ _ (by first | exact hr9 | exact Rds.below hr9 (by (repeat' (first | exact Below.refl _ _ | assumption | refine Below.setCell ?_ ?_ _ | refine Below.drew ?_ | refine Below.alloc ?_ ?_ _ | refine Below.trans ?_ (Below.mono (by assumption) ?_) | (simp; done) | (simp; omega) | omega)))) (by first | exact hr15 | exact Rds.below hr15 (by (repeat' (first | exact Below.refl _ _ | assumption | refine Below.setCell ?_ ?_ _ | refine Below.drew ?_ | refine Below.alloc ?_ ?_ _ | refine Below.trans ?_ (Below.mono (by assumption) ?_) | (simp; done) | (simp; omega) | omega)))) (by omega) (by omega)).mono ?_
  rintro e W16 ⟨rfl, hb16⟩
  have hc16 := cellOf hb16
  have hf16 := frozOf hb16
  have hz16 := sizeOf hb16
  try simp at hz16
  go_wp2_with (fail)
  all_goals go_ret
  all_goals exact ⟨rfl, by (repeat' (first | exact Below.refl _ _ | assumption | refine Below.setCell ?_ ?_ _ | refine Below.drew ?_ | refine Below.alloc ?_ ?_ _ | refine Below.trans ?_ (Below.mono (by assumption) ?_) | (simp; done) | (simp; omega) | omega))⟩

end Go.Proofs.Ytipipicfkjigdaa
