import Derived.Test.YtgjbdcalmodhpaaP2s
namespace Go.Proofs.Ytgjbdcalmodhpaa
set_option linter.unusedSimpArgs false
set_option linter.unusedVariables false
open Go.RowKit

set_option maxHeartbeats 400000 in
theorem c_spec_ArePassages (A : Option Addr) (xs : List (Int × Bool × Int × Int)) (cap : Nat) (w : World) (hx : Rds cPas 4 w A xs) (hn : xs.length ≤ 9223372036854775807) :
    Calls Try.prog 17 #[.slice A xs.length cap] w fun e w' => e = .returned (.bool (vB pOk pLt 6 xs)) ∧ Below w.heap.size w w' := by
  go_enter Try.func17, Try.ntmps17
  go_wp2_with (first | (go_at_call 58; refine (c_spec_l14Good _ _ _ _ (by first | assumption | exact Rds.below hx (by (repeat' (first | exact Below.refl _ _ | assumption | refine Below.setCell ?_ ?_ _ | refine Below.drew ?_ | refine Below.alloc ?_ ?_ _ | refine Below.trans ?_ (Below.mono (by assumption) ?_) | (simp; done) | (simp; omega) | omega)))) (by omega)).mono ?_; rintro e w' ⟨rfl, hb⟩; have hc := cellOf hb; have hf := frozOf hb; have hz := sizeOf hb; try simp at hz))
  all_goals go_ret
  all_goals
    refine ⟨ret_bool ?_, ?_⟩
    · first | rfl | omega | (simp []; done) | (simp []; omega) | (simp []; (repeat' split) <;> (first | omega | (simp; done) | (simp; omega))) | (simp_all []; done) | (simp_all []; omega)
    · (repeat' (first | exact Below.refl _ _ | assumption | refine Below.setCell ?_ ?_ _ | refine Below.drew ?_ | refine Below.alloc ?_ ?_ _ | refine Below.trans ?_ (Below.mono (by assumption) ?_) | (simp; done) | (simp; omega) | omega))

end Go.Proofs.Ytgjbdcalmodhpaa
