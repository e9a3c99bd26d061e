import Derived.Test.YthlmeofjjmfpnaaDr1
namespace Go.Proofs.Ythlmeofjjmfpnaa
set_option linter.unusedSimpArgs false
set_option linter.unusedVariables false
open Go.RowKit

set_option maxRecDepth 100000 in
set_option maxHeartbeats 4000000 in
theorem c_spec_DrawBeforeLeg (A : Option Addr) (cs : List Int) (cap : Nat) (w : World) (hr : Rds cB 1 w A cs) (hby : Bytes cs) (hl : cs.length ≤ 1000000000) :
    Calls Try.prog 47 #[.slice A cs.length cap] w fun e w' => ∃ a b l k : Int, e = .returned (.tuple #[.agg #[.int .i64 a, .int .i64 b], .agg #[.int .i64 l, .int .i64 k]]) ∧ (-1 ≤ a ∧ a ≤ 10000) ∧ (-2 ≤ b ∧ b ≤ 10060) ∧ (0 ≤ l ∧ l ≤ 30) ∧ (-1 ≤ k ∧ k ≤ 1001) ∧ Below w.heap.size w w' := by
  go_enter Try.func47, Try.ntmps47
  go_wp2_with (fail)
  refine (c_spec_DrawAfterLeg A cs cap _ (hr.below (by (repeat' (first | exact Below.refl _ _ | assumption | refine Below.setCell ?_ ?_ _ | refine Below.drew ?_ | refine Below.alloc ?_ ?_ _ | refine Below.trans ?_ (Below.mono (by assumption) ?_) | (simp; done) | (simp; omega) | omega)))) hby hl).mono ?_
  rintro e w1 ⟨a, b, l, k, rfl, h1, h2, h3, h4, hb1⟩
  have hc1 := cellOf hb1
  have hf1 := frozOf hb1
  have hz1 := sizeOf hb1
  try simp at hz1
  go_wp2_with (fail)
  refine bodyPost_ret (v := .tuple #[.agg #[.int .i64 a, .int .i64 b], .agg #[.int .i64 l, .int .i64 k]]) ?_ rfl ⟨a, b, l, k, rfl, h1, h2, h3, h4, by (repeat' (first | exact Below.refl _ _ | assumption | refine Below.setCell ?_ ?_ _ | refine Below.drew ?_ | refine Below.alloc ?_ ?_ _ | refine Below.trans ?_ (Below.mono (by assumption) ?_) | (simp; done) | (simp; omega) | omega))⟩
  simp [results, Try.results47, go_sem, ↓IntWalk.iteOmega, *]

end Go.Proofs.Ythlmeofjjmfpnaa
