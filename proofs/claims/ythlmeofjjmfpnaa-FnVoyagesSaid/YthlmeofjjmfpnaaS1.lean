import Derived.Test.YthlmeofjjmfpnaaSDefs
import Derived.Test.YthlmeofjjmfpnaaT1
namespace Go.Proofs.Ythlmeofjjmfpnaa
set_option linter.unusedSimpArgs false
set_option linter.unusedVariables false
open Go.RowKit

set_option maxHeartbeats 1000000 in
theorem c_laws_szLegS (A : Option Addr) (n cap : Nat) (left : Int) (w : World) (hl : 0 ≤ left ∧ left ≤ 1048576) (hn : n ≤ 9223372036854775807) :
    Calls Try.prog 32 #[.slice A n cap, .int .i64 left] w fun e w' => e = .returned (.int .i64 (if left < n then -1 else left - n)) ∧ Below w.heap.size w w' := by
  go_enter Try.func32, Try.ntmps32
  go_wp2
  all_goals go_ret
  all_goals
    refine ⟨ret_int ?_, ?_⟩
    · first | rfl | rw [if_pos (by omega)] | rw [if_neg (by omega)]
    · exact Below.refl _ _

set_option maxHeartbeats 400000 in
theorem c_laws_eqLeg (a b c d : Int) (w : World)  :
    Calls Try.prog 71 #[.agg #[.int .i64 (a), .int .i64 (b)], .agg #[.int .i64 (c), .int .i64 (d)]] w fun e w' => e = .returned (.bool (eqLegB a b c d)) ∧ Below w.heap.size w w' := by
  go_enter Try.func71, Try.ntmps71
  go_wp2
  all_goals go_ret
  all_goals
    refine ⟨ret_bool ?_, ?_⟩
    · first | rfl | omega | (simp [eqLegB]; done) | (simp [eqLegB]; omega) | (simp [eqLegB]; (repeat' split) <;> (first | omega | (simp; done) | (simp; omega))) | (simp_all [eqLegB]; done) | (simp_all [eqLegB]; omega)
    · (repeat' (first | exact Below.refl _ _ | assumption | refine Below.setCell ?_ ?_ _ | refine Below.drew ?_ | refine Below.alloc ?_ ?_ _ | refine Below.trans ?_ (Below.mono (by assumption) ?_) | (simp; done) | (simp; omega) | omega))

end Go.Proofs.Ythlmeofjjmfpnaa
