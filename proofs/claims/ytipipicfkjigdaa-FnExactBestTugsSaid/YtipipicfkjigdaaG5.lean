import Derived.Test.YtipipicfkjigdaaGDefs
import Derived.Test.YtipipicfkjigdaaC1
namespace Go.Proofs.Ytipipicfkjigdaa
set_option linter.unusedSimpArgs false
set_option linter.unusedVariables false
open Go.RowKit

set_option maxHeartbeats 400000 in
theorem c_laws_toTug (a b c : Int) (w : World)  :
    Calls Try.prog 44 #[.agg #[.int .i64 (a), .int .i64 (b), .int .i64 (c)]] w fun e w' => e = .returned (.agg #[.int .i64 (a), .int .i64 (b), .int .i64 (c)]) ∧ Below w.heap.size w w' := by
  go_enter Try.func44, Try.ntmps44
  go_wp2
  all_goals
    refine bodyPost_ret (v := .agg #[.int .i64 (a), .int .i64 (b), .int .i64 (c)]) ?_ rfl ⟨rfl, ?_⟩
    · first | (simp [results, Try.results44, go_sem, ↓IntWalk.iteOmega, *]; done) | (simp [results, Try.results44, go_sem, ↓IntWalk.iteOmega, *]; omega) | (simp [results, Try.results44, go_sem, ↓IntWalk.iteOmega, *]; simp_all []; done)
    · (repeat' (first | exact Below.refl _ _ | assumption | refine Below.setCell ?_ ?_ _ | refine Below.drew ?_ | refine Below.alloc ?_ ?_ _ | refine Below.trans ?_ (Below.mono (by assumption) ?_) | (simp; done) | (simp; omega) | omega))

set_option maxHeartbeats 400000 in
theorem c_laws_toTugJob (a b c d h : Int) (w : World)  :
    Calls Try.prog 23 #[.agg #[.int .i64 (a), .int .i64 (b), .int .i64 (c), .int .i64 (d), .int .i64 (h)]] w fun e w' => e = .returned (.agg #[.int .i64 (a), .int .i64 (b), .int .i64 (c), .int .i64 (d), .int .i64 (h)]) ∧ Below w.heap.size w w' := by
  go_enter Try.func23, Try.ntmps23
  go_wp2
  all_goals
    refine bodyPost_ret (v := .agg #[.int .i64 (a), .int .i64 (b), .int .i64 (c), .int .i64 (d), .int .i64 (h)]) ?_ rfl ⟨rfl, ?_⟩
    · first | (simp [results, Try.results23, go_sem, ↓IntWalk.iteOmega, *]; done) | (simp [results, Try.results23, go_sem, ↓IntWalk.iteOmega, *]; omega) | (simp [results, Try.results23, go_sem, ↓IntWalk.iteOmega, *]; simp_all []; done)
    · (repeat' (first | exact Below.refl _ _ | assumption | refine Below.setCell ?_ ?_ _ | refine Below.drew ?_ | refine Below.alloc ?_ ?_ _ | refine Below.trans ?_ (Below.mono (by assumption) ?_) | (simp; done) | (simp; omega) | omega))

set_option maxHeartbeats 2000000 in
theorem c_laws_eqTug (a b c a' b' c' : Int) (w : World)  :
    Calls Try.prog 48 #[.agg #[.int .i64 (a), .int .i64 (b), .int .i64 (c)], .agg #[.int .i64 (a'), .int .i64 (b'), .int .i64 (c')]] w fun e w' => e = .returned (.bool (eqTugB a b c a' b' c')) ∧ Below w.heap.size w w' := by
  go_enter Try.func48, Try.ntmps48
  go_wp2
  all_goals go_ret
  all_goals
    refine ⟨ret_bool ?_, ?_⟩
    · first | rfl | omega | (simp [eqTugB]; done) | (simp [eqTugB]; omega) | (simp [eqTugB]; (repeat' split) <;> (first | omega | (simp; done) | (simp; omega))) | (simp_all [eqTugB]; done) | (simp_all [eqTugB]; omega)
    · (repeat' (first | exact Below.refl _ _ | assumption | refine Below.setCell ?_ ?_ _ | refine Below.drew ?_ | refine Below.alloc ?_ ?_ _ | refine Below.trans ?_ (Below.mono (by assumption) ?_) | (simp; done) | (simp; omega) | omega))

set_option maxHeartbeats 1000000 in
theorem c_laws_szTugS (A : Option Addr) (n cap : Nat) (left : Int) (w : World) (hl : 0 ≤ left ∧ left ≤ 1048576) (hn : n ≤ 9223372036854775807) :
    Calls Try.prog 12 #[.slice A n cap, .int .i64 left] w fun e w' => e = .returned (.int .i64 (if left < n then -1 else left - n)) ∧ Below w.heap.size w w' := by
  go_enter Try.func12, Try.ntmps12
  go_wp2
  all_goals go_ret
  all_goals
    refine ⟨ret_int ?_, ?_⟩
    · first | rfl | rw [if_pos (by omega)] | rw [if_neg (by omega)]
    · exact Below.refl _ _

set_option maxHeartbeats 1000000 in
theorem c_laws_szTugJobS (A : Option Addr) (n cap : Nat) (left : Int) (w : World) (hl : 0 ≤ left ∧ left ≤ 1048576) (hn : n ≤ 9223372036854775807) :
    Calls Try.prog 17 #[.slice A n cap, .int .i64 left] w fun e w' => e = .returned (.int .i64 (if left < n then -1 else left - n)) ∧ Below w.heap.size w w' := by
  go_enter Try.func17, Try.ntmps17
  go_wp2
  all_goals go_ret
  all_goals
    refine ⟨ret_int ?_, ?_⟩
    · first | rfl | rw [if_pos (by omega)] | rw [if_neg (by omega)]
    · exact Below.refl _ _

end Go.Proofs.Ytipipicfkjigdaa
