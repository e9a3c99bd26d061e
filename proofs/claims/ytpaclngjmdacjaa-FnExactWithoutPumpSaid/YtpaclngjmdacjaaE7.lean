import Derived.Test.YtpaclngjmdacjaaPuDefs
import Derived.Test.YtpaclngjmdacjaaC1
namespace Go.Proofs.Ytpaclngjmdacjaa
set_option linter.unusedSimpArgs false
set_option linter.unusedVariables false
open Go.RowKit

def eqPuB (a b c a' b' c' : Int) : Bool := decide (a = a' ∧ b = b' ∧ c = c')

set_option maxHeartbeats 400000 in
theorem c_laws_toPump (a b c : Int) (w : World)  :
    Calls Try.prog 77 #[.agg #[.int .i64 (a), .int .i64 (b), .int .i64 (c)]] w fun e w' => e = .returned (.agg #[.int .i64 (a), .int .i64 (b), .int .i64 (c)]) ∧ Below w.heap.size w w' := by
  go_enter Try.func77, Try.ntmps77
  go_wp2
  all_goals
    refine bodyPost_ret (v := .agg #[.int .i64 (a), .int .i64 (b), .int .i64 (c)]) ?_ rfl ⟨rfl, ?_⟩
    · first | (simp [results, Try.results77, go_sem, ↓IntWalk.iteOmega, *]; done) | (simp [results, Try.results77, go_sem, ↓IntWalk.iteOmega, *]; omega) | (simp [results, Try.results77, go_sem, ↓IntWalk.iteOmega, *]; simp_all []; done)
    · (repeat' (first | exact Below.refl _ _ | assumption | refine Below.setCell ?_ ?_ _ | refine Below.drew ?_ | refine Below.alloc ?_ ?_ _ | refine Below.trans ?_ (Below.mono (by assumption) ?_) | (simp; done) | (simp; omega) | omega))

set_option maxHeartbeats 2000000 in
theorem c_laws_eqPump (a b c a' b' c' : Int) (w : World)  :
    Calls Try.prog 79 #[.agg #[.int .i64 (a), .int .i64 (b), .int .i64 (c)], .agg #[.int .i64 (a'), .int .i64 (b'), .int .i64 (c')]] w fun e w' => e = .returned (.bool (eqPuB a b c a' b' c')) ∧ Below w.heap.size w w' := by
  go_enter Try.func79, Try.ntmps79
  go_wp2
  all_goals go_ret
  all_goals
    refine ⟨ret_bool ?_, ?_⟩
    · first | rfl | omega | (simp [eqPuB]; done) | (simp [eqPuB]; omega) | (simp [eqPuB]; (repeat' split) <;> (first | omega | (simp; done) | (simp; omega))) | (simp_all [eqPuB]; done) | (simp_all [eqPuB]; omega)
    · (repeat' (first | exact Below.refl _ _ | assumption | refine Below.setCell ?_ ?_ _ | refine Below.drew ?_ | refine Below.alloc ?_ ?_ _ | refine Below.trans ?_ (Below.mono (by assumption) ?_) | (simp; done) | (simp; omega) | omega))

set_option maxHeartbeats 1000000 in
theorem c_laws_szPumpS (A : Option Addr) (n cap : Nat) (left : Int) (w : World) (hl : 0 ≤ left ∧ left ≤ 1048576) (hn : n ≤ 9223372036854775807) :
    Calls Try.prog 48 #[.slice A n cap, .int .i64 left] w fun e w' => e = .returned (.int .i64 (if left < n then -1 else left - n)) ∧ Below w.heap.size w w' := by
  go_enter Try.func48, Try.ntmps48
  go_wp2
  all_goals go_ret
  all_goals
    refine ⟨ret_int ?_, ?_⟩
    · first | rfl | rw [if_pos (by omega)] | rw [if_neg (by omega)]
    · exact Below.refl _ _

set_option maxHeartbeats 1000000 in
theorem c_laws_szIntS (A : Option Addr) (n cap : Nat) (left : Int) (w : World) (hl : 0 ≤ left ∧ left ≤ 1048576) (hn : n ≤ 9223372036854775807) :
    Calls Try.prog 47 #[.slice A n cap, .int .i64 left] w fun e w' => e = .returned (.int .i64 (if left < n then -1 else left - n)) ∧ Below w.heap.size w w' := by
  go_enter Try.func47, Try.ntmps47
  go_wp2
  all_goals go_ret
  all_goals
    refine ⟨ret_int ?_, ?_⟩
    · first | rfl | rw [if_pos (by omega)] | rw [if_neg (by omega)]
    · exact Below.refl _ _

end Go.Proofs.Ytpaclngjmdacjaa
