import Derived.Test.YthlmeofjjmfpnaaSl
import Derived.Test.YthlmeofjjmfpnaaDefs
namespace Go.Proofs.Ythlmeofjjmfpnaa
set_option linter.unusedSimpArgs false
set_option linter.unusedVariables false
open Go.RowKit

set_option maxHeartbeats 400000 in
theorem c_laws_vBig (A : Option Addr) (n cap : Nat) (w : World) (hl : n ≤ 9223372036854775807) :
    Calls Try.prog 45 #[.slice A n cap] w fun e w' => e = .returned (.bool (decide (65536 < n))) ∧ Below w.heap.size w w' := by
  go_enter Try.func45, Try.ntmps45
  go_wp2_with (fail)
  go_ret
  exact ⟨ret_bool (by simp; try omega), by (repeat' (first | exact Below.refl _ _ | assumption | refine Below.setCell ?_ ?_ _ | refine Below.drew ?_ | refine Below.alloc ?_ ?_ _ | refine Below.trans ?_ (Below.mono (by assumption) ?_) | (simp; done) | (simp; omega) | omega))⟩

end Go.Proofs.Ythlmeofjjmfpnaa
