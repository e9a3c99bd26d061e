import Derived.Test.YteciijnpfapmhaaBrDefs
import Derived.Test.YteciijnpfapmhaaC1
namespace Go.Proofs.Yteciijnpfapmhaa
set_option linter.unusedSimpArgs false
set_option linter.unusedVariables false
open Go.RowKit

def eqI (a b c d : Int) : Bool := decide (a = c ∧ b = d)

set_option maxHeartbeats 400000 in
theorem c_laws_toInterval (a b : Int) (w : World)  :
    Calls Try.prog 34 #[.agg #[.int .i64 (a), .int .i64 (b)]] w fun e w' => e = .returned (.agg #[.int .i64 (a), .int .i64 (b)]) ∧ Below w.heap.size w w' := by
  go_enter Try.func34, Try.ntmps34
  go_wp2
  all_goals
    refine bodyPost_ret (v := .agg #[.int .i64 (a), .int .i64 (b)]) ?_ rfl ⟨rfl, ?_⟩
    · first | (simp [results, Try.results34, go_sem, ↓IntWalk.iteOmega, *]; done) | (simp [results, Try.results34, go_sem, ↓IntWalk.iteOmega, *]; omega) | (simp [results, Try.results34, go_sem, ↓IntWalk.iteOmega, *]; simp_all []; done)
    · (repeat' (first | exact Below.refl _ _ | assumption | refine Below.setCell ?_ ?_ _ | refine Below.drew ?_ | refine Below.alloc ?_ ?_ _ | refine Below.trans ?_ (Below.mono (by assumption) ?_) | (simp; done) | (simp; omega) | omega))

set_option maxHeartbeats 2000000 in
theorem c_laws_eqInterval (a b a' b' : Int) (w : World)  :
    Calls Try.prog 83 #[.agg #[.int .i64 (a), .int .i64 (b)], .agg #[.int .i64 (a'), .int .i64 (b')]] w fun e w' => e = .returned (.bool (eqI a b a' b')) ∧ Below w.heap.size w w' := by
  go_enter Try.func83, Try.ntmps83
  go_wp2
  all_goals go_ret
  all_goals
    refine ⟨ret_bool ?_, ?_⟩
    · first | rfl | omega | (simp [eqI]; done) | (simp [eqI]; omega) | (simp [eqI]; (repeat' split) <;> (first | omega | (simp; done) | (simp; omega))) | (simp_all [eqI]; done) | (simp_all [eqI]; omega)
    · (repeat' (first | exact Below.refl _ _ | assumption | refine Below.setCell ?_ ?_ _ | refine Below.drew ?_ | refine Below.alloc ?_ ?_ _ | refine Below.trans ?_ (Below.mono (by assumption) ?_) | (simp; done) | (simp; omega) | omega))

set_option maxHeartbeats 1000000 in
theorem c_laws_szIntervalS (A : Option Addr) (n cap : Nat) (left : Int) (w : World) (hl : 0 ≤ left ∧ left ≤ 1048576) (hn : n ≤ 9223372036854775807) :
    Calls Try.prog 49 #[.slice A n cap, .int .i64 left] w fun e w' => e = .returned (.int .i64 (if left < n then -1 else left - n)) ∧ Below w.heap.size w w' := by
  go_enter Try.func49, Try.ntmps49
  go_wp2
  all_goals go_ret
  all_goals
    refine ⟨ret_int ?_, ?_⟩
    · first | rfl | rw [if_pos (by omega)] | rw [if_neg (by omega)]
    · exact Below.refl _ _

end Go.Proofs.Yteciijnpfapmhaa
