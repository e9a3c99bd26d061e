import Derived.Test.YtgjbdcalmodhpaaP1d
import Derived.Test.YtgjbdcalmodhpaaP1tt
import Derived.Test.YtgjbdcalmodhpaaP1tf
import Derived.Test.YtgjbdcalmodhpaaP1ft
import Derived.Test.YtgjbdcalmodhpaaP1ff
namespace Go.Proofs.Ytgjbdcalmodhpaa
set_option linter.unusedSimpArgs false
set_option linter.unusedVariables false
open Go.RowKit

theorem c_spec_l14Clash (i : Int) (d : Bool) (a b : Int) (i' : Int) (d' : Bool) (a' b' : Int) (g : Int) (w : World) (hb_a : -99999 ≤ a ∧ a ≤ 99999) (hb_b : -99999 ≤ b ∧ b ≤ 99999) (hb_aq : -99999 ≤ a' ∧ a' ≤ 99999) (hb_bq : -99999 ≤ b' ∧ b' ≤ 99999) :
    Calls Try.prog 54 #[.agg #[.int .i64 i, .bool d, .int .i64 a, .int .i64 b], .agg #[.int .i64 i', .bool d', .int .i64 a', .int .i64 b'], .int .i64 g] w fun e w' => e = .returned (.bool (clashB i d a b i' d' a' b' g)) ∧ Below w.heap.size w w' := by
  cases d <;> cases d'
  · exact c_spec_l14Clash_ff i a b i' a' b' g w hb_a hb_b hb_aq hb_bq
  · exact c_spec_l14Clash_ft i a b i' a' b' g w hb_a hb_b hb_aq hb_bq
  · exact c_spec_l14Clash_tf i a b i' a' b' g w hb_a hb_b hb_aq hb_bq
  · exact c_spec_l14Clash_tt i a b i' a' b' g w hb_a hb_b hb_aq hb_bq

end Go.Proofs.Ytgjbdcalmodhpaa
