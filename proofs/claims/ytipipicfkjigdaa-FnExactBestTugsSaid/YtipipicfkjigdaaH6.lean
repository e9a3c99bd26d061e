import Derived.Test.YtipipicfkjigdaaSL0
import Derived.Test.YtipipicfkjigdaaG1
namespace Go.Proofs.Ytipipicfkjigdaa
set_option linter.unusedSimpArgs false
set_option linter.unusedVariables false
open Go.RowKit

theorem c_absI (p : Int) (w : World) (hb_p : -99999 ≤ p ∧ p ≤ 99999) : Calls Try.prog 54 #[.int .i64 p] w fun e w' => e = .returned (.int .i64 (absI p)) ∧ Below w.heap.size w w' := c_impl_absOf p w hb_p
theorem c_farI (a b : Int) (w : World) (hb_a : -99999 ≤ a ∧ a ≤ 99999) (hb_b : -99999 ≤ b ∧ b ≤ 99999) : Calls Try.prog 53 #[.int .i64 a, .int .i64 b] w fun e w' => e = .returned (.int .i64 (absI (a - b))) ∧ Below w.heap.size w w' :=
  (c_spec_l17Far a b w hb_a hb_b).mono fun e w' ⟨he, hb⟩ => ⟨by rw [he]; congr 2; unfold absI; omega, hb⟩

end Go.Proofs.Ytipipicfkjigdaa
