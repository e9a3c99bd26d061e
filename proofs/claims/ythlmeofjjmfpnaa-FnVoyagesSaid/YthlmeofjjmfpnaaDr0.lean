import Derived.Test.YthlmeofjjmfpnaaCu6
import Derived.Test.YthlmeofjjmfpnaaCu7
namespace Go.Proofs.Ythlmeofjjmfpnaa
set_option linter.unusedSimpArgs false
set_option linter.unusedVariables false
open Go.RowKit

theorem CurS.new {w W : World} {g cap : Nat} {A : Option Addr} {cs : List Int} {T : TypeId} (hr : Rds cB 1 w A cs) (hb : Below w.heap.size w W) (hg : g = W.heap.size) : CurS (W.alloc (.cells #[.slice A cs.length cap, .int .i64 0, .int .u64 0] T)) g A cs cap 0 := by
  subst hg
  have hh := heap_alloc_new W (.cells #[.slice A cs.length cap, .int .i64 0, .int .u64 0] T)
  have hc : ∀ o, (W.alloc (.cells #[.slice A cs.length cap, .int .i64 0, .int .u64 0] T)).cell? ⟨W.heap.size, o, none⟩ = (#[Value.slice A cs.length cap, .int .i64 0, .int .u64 0] : Array Value)[o]? := fun o => Fresh.cell hh o
  refine ⟨⟨by simp, by rw [hc]; rfl, ⟨0, by omega, by omega, by rw [hc]; rfl⟩, ⟨0, by rw [hc]; rfl⟩, fun o => Fresh.froz hh o⟩, ?_⟩
  intro i x hx
  obtain ⟨b, off, hA, hlt, hcc⟩ := hr i x hx
  have hs := hb.size
  refine ⟨b, off, hA, by omega, fun j v hv => ?_⟩
  have h2 : Below w.heap.size w (W.alloc (.cells #[.slice A cs.length cap, .int .i64 0, .int .u64 0] T)) := hb.alloc (by omega) _
  exact (h2.cell (p := ⟨b, off + i * 1 + j, none⟩) hlt).trans (hcc j v hv)
theorem below_row {B b : Nat} {a w w' : World} (h : Below B a w) (hg : w.grownBy w' (some b)) (hb : B ≤ b) (hB : B ≤ w.heap.size) : Below B a w' := h.grown hg hB fun k hk => by cases hk; exact hb

end Go.Proofs.Ythlmeofjjmfpnaa
