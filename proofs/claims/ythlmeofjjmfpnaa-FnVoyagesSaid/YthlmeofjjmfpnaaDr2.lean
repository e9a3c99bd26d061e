import Derived.Test.YthlmeofjjmfpnaaDr0
namespace Go.Proofs.Ythlmeofjjmfpnaa
set_option linter.unusedSimpArgs false
set_option linter.unusedVariables false
open Go.RowKit

set_option maxRecDepth 100000 in
set_option maxHeartbeats 4000000 in
theorem c_spec_DrawCommonInterval (A : Option Addr) (cs : List Int) (cap : Nat) (w : World) (hr : Rds cB 1 w A cs) (hby : Bytes cs) (hl : cs.length ≤ 1000000000) :
    Calls Try.prog 48 #[.slice A cs.length cap] w fun e w' => ∃ a b l k : Int, e = .returned (.tuple #[.agg #[.int .i64 a, .int .i64 b], .agg #[.int .i64 l, .int .i64 k]]) ∧ (-1 ≤ a ∧ a ≤ 10000) ∧ (-2 ≤ b ∧ b ≤ 10060) ∧ (-1 ≤ l ∧ l ≤ 10000) ∧ (-2 ≤ k ∧ k ≤ 10060) ∧ Below w.heap.size w w' := by
  go_enter Try.func48, Try.ntmps48
  go_wp2_with (fail)
  refine (c_interval (w.heap.size + 2) A cs cap (0) _ (CurS.new hr (by (repeat' (first | exact Below.refl _ _ | assumption | refine Below.setCell ?_ ?_ _ | refine Below.drew ?_ | refine Below.alloc ?_ ?_ _ | refine Below.trans ?_ (Below.mono (by assumption) ?_) | (simp; done) | (simp; omega) | omega))) (by simp)) hby (by omega) hl).mono ?_
  rintro e W1 ⟨f1, t1, rfl, hx1a, hx1b, hcu1, hg1⟩
  have hc1 := cellRow hg1
  have hf1 := frozRow hg1
  have hz1 := hg1.size
  have hlt1 := hcu1.lt
  try simp at hz1
  go_wp2_with (fail)
  refine (c_interval (w.heap.size + 2) A cs cap (0 + 5) _ (by repeat' (first | exact CurS.mono hcu1 (by omega) | refine CurS.setc ?_ ?_ | refine CurS.allo ?_ | refine CurS.drw ?_ | (simp; done) | (simp at *; omega) | omega)) hby (by omega) hl).mono ?_
  rintro e W2 ⟨f2, t2, rfl, hx2a, hx2b, hcu2, hg2⟩
  have hc2 := cellRow hg2
  have hf2 := frozRow hg2
  have hz2 := hg2.size
  have hlt2 := hcu2.lt
  try simp at hz2
  go_wp2_with (fail)
  refine bodyPost_ret (v := .tuple #[.agg #[.int .i64 f1, .int .i64 t1], .agg #[.int .i64 f2, .int .i64 t2]]) ?_ rfl ⟨f1, t1, f2, t2, rfl, hx1a, hx1b, hx2a, hx2b, by (repeat' (first | exact Below.refl _ _ | assumption | refine Below.setCell ?_ ?_ _ | refine Below.drew ?_ | refine Below.alloc ?_ ?_ _ | refine below_row ?_ (by assumption) ?_ ?_ | refine Below.trans ?_ (Below.mono (by assumption) ?_) | (simp; done) | (simp; omega) | omega))⟩
  simp [results, Try.results48, go_sem, ↓IntWalk.iteOmega, *]

set_option maxRecDepth 100000 in
set_option maxHeartbeats 4000000 in
theorem c_spec_DrawNotBefore (A : Option Addr) (cs : List Int) (cap : Nat) (w : World) (hr : Rds cB 1 w A cs) (hby : Bytes cs) (hl : cs.length ≤ 1000000000) :
    Calls Try.prog 49 #[.slice A cs.length cap] w fun e w' => ∃ a b l : Int, e = .returned (.tuple #[.agg #[.int .i64 a, .int .i64 b], .int .i64 l]) ∧ (-1 ≤ a ∧ a ≤ 10000) ∧ (-2 ≤ b ∧ b ≤ 10060) ∧ (-1 ≤ l ∧ l ≤ 10000) ∧ Below w.heap.size w w' := by
  go_enter Try.func49, Try.ntmps49
  go_wp2_with (fail)
  refine (c_interval (w.heap.size + 1) A cs cap (0) _ (CurS.new hr (by (repeat' (first | exact Below.refl _ _ | assumption | refine Below.setCell ?_ ?_ _ | refine Below.drew ?_ | refine Below.alloc ?_ ?_ _ | refine Below.trans ?_ (Below.mono (by assumption) ?_) | (simp; done) | (simp; omega) | omega))) (by simp)) hby (by omega) hl).mono ?_
  rintro e W1 ⟨f1, t1, rfl, hx1a, hx1b, hcu1, hg1⟩
  have hc1 := cellRow hg1
  have hf1 := frozRow hg1
  have hz1 := hg1.size
  have hlt1 := hcu1.lt
  try simp at hz1
  go_wp2_with (fail)
  refine (c_minute (w.heap.size + 1) A cs cap (0 + 5) _ (by repeat' (first | exact CurS.mono hcu1 (by omega) | refine CurS.setc ?_ ?_ | refine CurS.allo ?_ | refine CurS.drw ?_ | (simp; done) | (simp at *; omega) | omega)) hby (by omega) hl).mono ?_
  rintro e W2 ⟨x2, rfl, hx2a, hx2b, hcu2, hg2⟩
  have hc2 := cellRow hg2
  have hf2 := frozRow hg2
  have hz2 := hg2.size
  have hlt2 := hcu2.lt
  try simp at hz2
  go_wp2_with (fail)
  refine bodyPost_ret (v := .tuple #[.agg #[.int .i64 f1, .int .i64 t1], .int .i64 x2]) ?_ rfl ⟨f1, t1, x2, rfl, hx1a, hx1b, ⟨hx2a, hx2b⟩, by (repeat' (first | exact Below.refl _ _ | assumption | refine Below.setCell ?_ ?_ _ | refine Below.drew ?_ | refine Below.alloc ?_ ?_ _ | refine below_row ?_ (by assumption) ?_ ?_ | refine Below.trans ?_ (Below.mono (by assumption) ?_) | (simp; done) | (simp; omega) | omega))⟩
  simp [results, Try.results49, go_sem, ↓IntWalk.iteOmega, *]

end Go.Proofs.Ythlmeofjjmfpnaa
