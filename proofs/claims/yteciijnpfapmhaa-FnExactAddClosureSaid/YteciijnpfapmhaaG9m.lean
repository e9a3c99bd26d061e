import Derived.Test.YteciijnpfapmhaaG7m
import Derived.Maps.AppendAt
namespace Go.Proofs.Yteciijnpfapmhaa
set_option linter.unusedSimpArgs false
set_option linter.unusedVariables false
open Go.RowKit

set_option maxHeartbeats 1000000 in
theorem c_laws_markBridge (d : Int) (B : Nat) (A : Option Addr) (xs : List (Int × Int)) (cap : Nat) (k0 : Int) (w : World) (h : FreshA cIv 2 50 B w A cap xs) (hn : xs.length ≤ 10000000) (hk0 : 0 ≤ k0 ∧ k0 ≤ 100000000) :
    Calls Try.prog 36 #[.agg #[.int .i64 d, .slice A xs.length cap], .int .i64 k0] w fun e w' => e = .returned (.int .i64 (k0 + 2 * xs.length)) ∧ FreshA cIv 2 50 B w' A cap (mkIv xs.length k0) ∧ w.grownBy w' (blkO A) := by
  have hF := h.below ((Below.refl w.heap.size w).alloc (Nat.le_refl _) (.cells #[.int .i64 d, .slice A xs.length cap] 29))
  go_enter Try.func36, Try.ntmps36
  go_wp2_with (go_at_call 70; refine (c_laws_markIntervalS _ _ _ _ _ _ hF hn hk0).mono ?_; rintro e w' ⟨rfl, hF1, hg1⟩)
  go_ret
  exact ⟨rfl, hF1, (World.grownBy_alloc _ _ _).trans hg1⟩

end Go.Proofs.Yteciijnpfapmhaa
