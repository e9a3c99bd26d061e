import Derived.Test.YtfipmalomhflgaaB2
namespace Go.Proofs.Ytfipmalomhflgaa
set_option linter.unusedSimpArgs false
set_option linter.unusedVariables false
open Go.RowKit

set_option maxHeartbeats 400000 in
theorem c_impl_isFree (A : Option Addr) (xs : List (Int × Int × Int × Int × Int)) (cap : Nat) (c h : Int) (w : World) (hx : Rds cBer 5 w A xs) (hn : xs.length ≤ 9223372036854775807) (hok : ∀ k (hk : k < xs.length), berP xs[k]) (hab : 0 ≤ c ∧ c ≤ 20 ∧ 0 ≤ h ∧ h ≤ 499) :
    Calls Try.prog 61 #[.slice A xs.length cap, .int .i64 c, .int .i64 h] w fun e w' => e = .returned (.bool (freeAt xs c h)) ∧ Below w.heap.size w w' := by
  go_enter Try.func61, Try.ntmps61
  go_wp2_with (first | (go_at_call 55; refine (c_impl_meetsAny _ xs _ _ _ _ _ _ _ _ (by first | assumption | exact Rds.below hx (by (repeat' (first | exact Below.refl _ _ | assumption | refine Below.setCell ?_ ?_ _ | refine Below.drew ?_ | refine Below.alloc ?_ ?_ _ | refine Below.trans ?_ (Below.mono (by assumption) ?_) | (simp; done) | (simp; omega) | omega)))) rfl (by omega) hok (by omega)).mono ?_; rintro e w' ⟨rfl, hb⟩; have hc := cellOf hb; have hf := frozOf hb; have hz := sizeOf hb; try simp at hz))
  all_goals go_ret
  all_goals
    refine ⟨ret_bool ?_, ?_⟩
    · first | rfl | omega | (simp [freeAt]; done) | (simp [freeAt]; omega) | (simp [freeAt]; (repeat' split) <;> (first | omega | (simp; done) | (simp; omega))) | (simp_all [freeAt]; done) | (simp_all [freeAt]; omega)
    · (repeat' (first | exact Below.refl _ _ | assumption | refine Below.setCell ?_ ?_ _ | refine Below.drew ?_ | refine Below.alloc ?_ ?_ _ | refine Below.trans ?_ (Below.mono (by assumption) ?_) | (simp; done) | (simp; omega) | omega))

end Go.Proofs.Ytfipmalomhflgaa
