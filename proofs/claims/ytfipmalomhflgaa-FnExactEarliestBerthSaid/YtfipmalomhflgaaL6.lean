import Derived.Test.YtfipmalomhflgaaH5i
import Derived.Test.YtfipmalomhflgaaH5s
import Derived.Test.YtfipmalomhflgaaB6t
import Derived.Test.YtfipmalomhflgaaB7t
namespace Go.Proofs.Ytfipmalomhflgaa
set_option linter.unusedSimpArgs false
set_option linter.unusedVariables false
open Go.RowKit

set_option maxRecDepth 100000 in
set_option maxHeartbeats 8000000 in
theorem c_laws_FnExactEarliestBerth (q : Int) (A : Option Addr) (xs : List (Int × Int × Int × Int × Int)) (cap : Nat) (l s f : Int) (w : World) (hr_xs : Rds cBer 5 w A xs) (hn : xs.length ≤ 9223372036854775807) (hlr : l ≤ 9223372036854775807) (hsr : s ≤ 9223372036854775807) :
    Calls Try.prog 5 #[.int .i64 q, .slice A xs.length cap, .int .i64 l, .int .i64 s, .int .i64 f] w fun e w' => e = .returned (.bool true) ∧ Below w.heap.size w w' := by
  by_cases hsz_xs : xs.length ≤ 1048576
  rotate_left
  · go_enter Try.func5, Try.ntmps5
    go_wp2_with (go_at_call 14; refine (c_laws_szBerthS _ _ _ _ _ (by omega) (by omega)).mono ?_; rintro e w' ⟨rfl, hb⟩; have hc := cellOf hb; have hf := frozOf hb; have hz := sizeOf hb; try simp at hz)
    all_goals go_ret
    all_goals exact ⟨rfl, by (repeat' (first | exact Below.refl _ _ | assumption | refine Below.setCell ?_ ?_ _ | refine Below.drew ?_ | refine Below.alloc ?_ ?_ _ | refine Below.trans ?_ (Below.mono (by assumption) ?_) | (simp; done) | (simp; omega) | omega))⟩
  go_enter Try.func5, Try.ntmps5
  go_wp2_with (fail)
  refine (c_laws_szBerthS _ _ _ _ _ (by omega) (by omega)).mono ?_
  rintro e W1 ⟨rfl, hb1⟩
  have hc1 := cellOf hb1
  have hf1 := frozOf hb1
  have hz1 := sizeOf hb1
  try simp at hz1
  go_wp2_with (fail)
  refine (c_laws_toBerthS _ _ _ _ (by first | exact hr_xs | exact Rds.below hr_xs (by (repeat' (first | exact Below.refl _ _ | assumption | refine Below.setCell ?_ ?_ _ | refine Below.drew ?_ | refine Below.alloc ?_ ?_ _ | refine Below.trans ?_ (Below.mono (by assumption) ?_) | (simp; done) | (simp; omega) | omega)))) (by omega)).mono ?_
  rintro e W2 ⟨g2, rfl, hg2, ho2, hb2⟩
  have hF2 : FreshA cBer 5 48 _ _ _ _ _ := .inr ⟨g2, rfl, hg2, ho2⟩
  have hr2 := hF2.rds
  have hlo2 := hF2.lo
  have hhi2 := hF2.hi
  have HF2 := hid hF2
  clear hF2
  try simp at hlo2
  clear ho2 hg2
  have hc2 := cellOf hb2
  have hf2 := frozOf hb2
  have hz2 := sizeOf hb2
  try simp at hz2
  go_wp2_with (fail)
  refine (c_spec_EarliestBerth _ _ _ _ _ _ _ _ (by first | exact hr2 | exact Rds.below hr2 (by (repeat' (first | exact Below.refl _ _ | assumption | refine Below.setCell ?_ ?_ _ | refine Below.drew ?_ | refine Below.alloc ?_ ?_ _ | refine Below.trans ?_ (Below.mono (by assumption) ?_) | (simp; done) | (simp; omega) | omega)))) (by omega) (by omega) (by omega)).mono ?_
  rintro e W3 ⟨rfl, hb3⟩
  have hc3 := cellOf hb3
  have hf3 := frozOf hb3
  have hz3 := sizeOf hb3
  try simp at hz3
  go_wp2_with (fail)
  refine (c_laws_toBerthS _ _ _ _ (by first | exact hr_xs | exact Rds.below hr_xs (by (repeat' (first | exact Below.refl _ _ | assumption | refine Below.setCell ?_ ?_ _ | refine Below.drew ?_ | refine Below.alloc ?_ ?_ _ | refine Below.trans ?_ (Below.mono (by assumption) ?_) | (simp; done) | (simp; omega) | omega)))) (by omega)).mono ?_
  rintro e W4 ⟨g4, rfl, hg4, ho4, hb4⟩
  have hF4 : FreshA cBer 5 48 _ _ _ _ _ := .inr ⟨g4, rfl, hg4, ho4⟩
  have hr4 := hF4.rds
  have hlo4 := hF4.lo
  have hhi4 := hF4.hi
  have HF4 := hid hF4
  clear hF4
  try simp at hlo4
  clear ho4 hg4
  have hc4 := cellOf hb4
  have hf4 := frozOf hb4
  have hz4 := sizeOf hb4
  try simp at hz4
  go_wp2_with (fail)
  refine (c_impl_EarliestBerth _ _ _ _ _ _ _ _ (by first | exact hr4 | exact Rds.below hr4 (by (repeat' (first | exact Below.refl _ _ | assumption | refine Below.setCell ?_ ?_ _ | refine Below.drew ?_ | refine Below.alloc ?_ ?_ _ | refine Below.trans ?_ (Below.mono (by assumption) ?_) | (simp; done) | (simp; omega) | omega)))) (by omega) (by omega) (by omega) (by omega) (by omega)).mono ?_
  rintro e W5 ⟨rfl, hb5⟩
  have hc5 := cellOf hb5
  have hf5 := frozOf hb5
  have hz5 := sizeOf hb5
  try simp at hz5
  go_wp2_with (fail)
  refine (c_laws_toBerthS _ _ _ _ (by first | exact hr_xs | exact Rds.below hr_xs (by (repeat' (first | exact Below.refl _ _ | assumption | refine Below.setCell ?_ ?_ _ | refine Below.drew ?_ | refine Below.alloc ?_ ?_ _ | refine Below.trans ?_ (Below.mono (by assumption) ?_) | (simp; done) | (simp; omega) | omega)))) (by omega)).mono ?_
  rintro e W6 ⟨g6, rfl, hg6, ho6, hb6⟩
  have hF6 : FreshA cBer 5 48 _ _ _ _ _ := .inr ⟨g6, rfl, hg6, ho6⟩
  have hr6 := hF6.rds
  have hlo6 := hF6.lo
  have hhi6 := hF6.hi
  have HF6 := hid hF6
  clear hF6
  try simp at hlo6
  clear ho6 hg6
  have hc6 := cellOf hb6
  have hf6 := frozOf hb6
  have hz6 := sizeOf hb6
  try simp at hz6
  go_wp2_with (fail)
  refine (c_laws_eqBerthS _ _ _ _ _ _ _ (by first | exact hr4 | exact Rds.below hr4 (by (repeat' (first | exact Below.refl _ _ | assumption | refine Below.setCell ?_ ?_ _ | refine Below.drew ?_ | refine Below.alloc ?_ ?_ _ | refine Below.trans ?_ (Below.mono (by assumption) ?_) | (simp; done) | (simp; omega) | omega)))) (by first | exact hr6 | exact Rds.below hr6 (by (repeat' (first | exact Below.refl _ _ | assumption | refine Below.setCell ?_ ?_ _ | refine Below.drew ?_ | refine Below.alloc ?_ ?_ _ | refine Below.trans ?_ (Below.mono (by assumption) ?_) | (simp; done) | (simp; omega) | omega)))) (by omega) (by omega)).mono ?_
  rintro e W7 ⟨rfl, hb7⟩
  have hc7 := cellOf hb7
  have hf7 := frozOf hb7
  have hz7 := sizeOf hb7
  try simp at hz7
  go_wp2_with (fail)
  all_goals go_ret
  all_goals exact ⟨rfl, by (repeat' (first | exact Below.refl _ _ | assumption | refine Below.setCell ?_ ?_ _ | refine Below.drew ?_ | refine Below.alloc ?_ ?_ _ | refine Below.trans ?_ (Below.mono (by assumption) ?_) | (simp; done) | (simp; omega) | omega))⟩

end Go.Proofs.Ytfipmalomhflgaa
