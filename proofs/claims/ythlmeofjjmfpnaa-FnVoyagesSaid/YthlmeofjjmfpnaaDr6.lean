import Derived.Test.YthlmeofjjmfpnaaCu9
import Derived.Test.YthlmeofjjmfpnaaDr0
import Derived.Test.YthlmeofjjmfpnaaDr2
namespace Go.Proofs.Ythlmeofjjmfpnaa
set_option linter.unusedSimpArgs false
set_option linter.unusedVariables false
open Go.RowKit

set_option maxRecDepth 100000 in
set_option maxHeartbeats 4000000 in
theorem c_spec_DrawAlongVoyage (A : Option Addr) (cs : List Int) (cap : Nat) (w : World) (hr : Rds cB 1 w A cs) (hby : Bytes cs) (hl : cs.length ≤ 1000000000) :
    Calls Try.prog 51 #[.slice A cs.length cap] w fun e w' => ∃ (a b : Int) (A' : Option Addr) (cp : Nat) (xs : List (Int × Int)), e = .returned (.tuple #[.agg #[.int .i64 a, .int .i64 b], .slice A' xs.length cp]) ∧ (-1 ≤ a ∧ a ≤ 10000) ∧ (-2 ≤ b ∧ b ≤ 10060) ∧ FreshA cLeg 2 39 w.heap.size w' A' cp xs ∧ xs.length ≤ 14 ∧ Below w.heap.size w w' := by
  go_enter Try.func51, Try.ntmps51
  go_wp2_with (fail)
  refine (c_interval (w.heap.size + 1) A cs cap 0 _ (CurS.new hr (by (repeat' (first | exact Below.refl _ _ | assumption | refine Below.setCell ?_ ?_ _ | refine Below.drew ?_ | refine Below.alloc ?_ ?_ _ | refine Below.trans ?_ (Below.mono (by assumption) ?_) | (simp; done) | (simp; omega) | omega))) (by simp)) hby (by omega) hl).mono ?_
  rintro e W1 ⟨f1, t1, rfl, hx1a, hx1b, hcu1, hg1⟩
  have hc1 := cellRow hg1
  have hf1 := frozRow hg1
  have hz1 := hg1.size
  have hlt1 := hcu1.lt
  try simp at hz1
  go_wp2_with (fail)
  refine (c_legs (w.heap.size + 1) A cs cap (0 + 5) _ hcu1 hby (by omega) hl).mono ?_
  rintro e W2 ⟨A2, cp2, xs, rfl, hF2, hxl, hcu2, hg2⟩
  have hc2 := cellRow hg2
  have hf2 := frozRow hg2
  have hz2 := hg2.size
  try simp at hz2
  go_wp2_with (fail)
  refine bodyPost_ret (v := .tuple #[.agg #[.int .i64 f1, .int .i64 t1], .slice A2 xs.length cp2]) ?_ rfl ⟨f1, t1, A2, cp2, xs, rfl, hx1a, hx1b, ?_, hxl, by (repeat' (first | exact Below.refl _ _ | assumption | refine Below.setCell ?_ ?_ _ | refine Below.drew ?_ | refine Below.alloc ?_ ?_ _ | refine below_row ?_ (by assumption) ?_ ?_ | refine Below.trans ?_ (Below.mono (by assumption) ?_) | (simp; done) | (simp; omega) | omega))⟩
  · simp [results, Try.results51, go_sem, ↓IntWalk.iteOmega, *]
  · exact FreshA.mono ((hF2.set_low (p := ⟨w.heap.size, 0, none⟩) (by simp; omega) _).set_low (p := ⟨w.heap.size, 1, none⟩) (by simp; omega) _) (by omega)
set_option maxRecDepth 100000 in
set_option maxHeartbeats 4000000 in
theorem c_spec_DrawInTime (A : Option Addr) (cs : List Int) (cap : Nat) (w : World) (hr : Rds cB 1 w A cs) (hby : Bytes cs) (hl : cs.length ≤ 1000000000) :
    Calls Try.prog 54 #[.slice A cs.length cap] w fun e w' => (∃ a b l : Int, e = .returned (.tuple #[.agg #[.int .i64 a, .int .i64 b], .int .i64 l]) ∧ (-1 ≤ a ∧ a ≤ 10000) ∧ (-2 ≤ b ∧ b ≤ 10060) ∧ (-1 ≤ l ∧ l ≤ 10000)) ∧ Below w.heap.size w w' := by
  go_enter Try.func54, Try.ntmps54
  go_wp2_with (fail)
  refine (c_spec_DrawNotBefore A cs cap _ (hr.below (by (repeat' (first | exact Below.refl _ _ | assumption | refine Below.setCell ?_ ?_ _ | refine Below.drew ?_ | refine Below.alloc ?_ ?_ _ | refine Below.trans ?_ (Below.mono (by assumption) ?_) | (simp; done) | (simp; omega) | omega)))) hby hl).mono ?_
  rintro e w1 ⟨a, b, l, rfl, h1, h2, h3, hb1⟩
  have hc1 := cellOf hb1
  have hf1 := frozOf hb1
  have hz1 := sizeOf hb1
  try simp at hz1
  go_wp2_with (fail)
  refine bodyPost_ret (v := .tuple #[.agg #[.int .i64 a, .int .i64 b], .int .i64 l]) ?_ rfl ⟨⟨a, b, l, rfl, h1, h2, h3⟩, by (repeat' (first | exact Below.refl _ _ | assumption | refine Below.setCell ?_ ?_ _ | refine Below.drew ?_ | refine Below.alloc ?_ ?_ _ | refine Below.trans ?_ (Below.mono (by assumption) ?_) | (simp; done) | (simp; omega) | omega))⟩
  simp [results, Try.results54, go_sem, ↓IntWalk.iteOmega, *]

end Go.Proofs.Ythlmeofjjmfpnaa
