import Derived.Test.YthlmeofjjmfpnaaCu3
namespace Go.Proofs.Ythlmeofjjmfpnaa
set_option linter.unusedSimpArgs false
set_option linter.unusedVariables false
open Go.RowKit

theorem cellRow {W w' : World} {b : Nat} (hg : W.grownBy w' (some b)) : ∀ g o, w'.cell? ⟨g, o, none⟩ = if g < W.heap.size ∧ g ≠ b then W.cell? ⟨g, o, none⟩ else far w' g o := by
  intro g o
  by_cases h : g < W.heap.size ∧ g ≠ b
  · rw [if_pos h]; exact World.cell?_of_block (a := ⟨g, o, none⟩) (hg.block g h.1 (by simpa using h.2))
  · rw [if_neg h]; rfl
theorem frozRow {W w' : World} {b : Nat} (hg : W.grownBy w' (some b)) : ∀ g o, w'.frozen? ⟨g, o, none⟩ = if g < W.heap.size ∧ g ≠ b then W.frozen? ⟨g, o, none⟩ else farz w' g o := by
  intro g o
  by_cases h : g < W.heap.size ∧ g ≠ b
  · rw [if_pos h]; exact World.frozen?_of_block (a := ⟨g, o, none⟩) (hg.block g h.1 (by simpa using h.2))
  · rw [if_neg h]; rfl
theorem Rds.of_lit {w : World} {g : Nat} {cur : Array Value} {T : TypeId} {L : List Int} (hg : g = w.heap.size) (hc : ∀ (i : Nat) (x : Int), L[i]? = some x → cur[i]? = some (Value.int .i64 x)) : Rds cI 1 (w.alloc (.cells cur T)) (some ⟨g, 0, none⟩) L := by
  subst hg
  exact Rds.of_block (heap_alloc_new _ _) hc
theorem CurS.setc {w : World} {b cap : Nat} {A : Option Addr} {cs : List Int} {m : Int} {p : Addr} {v : Value} (h : CurS w b A cs cap m) (hp : b < p.block) : CurS (w.setCell p v) b A cs cap m := by
  obtain ⟨⟨hlt, q0, ⟨a, h1, h2, q1⟩, ⟨s, q2⟩, qz⟩, hr⟩ := h
  have hk : ∀ g, g ≤ b → (w.setCell p v).heap[g]? = w.heap[g]? := fun g hg => Below.heap_setCell w p v g (by omega)
  have hc : ∀ g, g ≤ b → ∀ o, (w.setCell p v).cell? ⟨g, o, none⟩ = w.cell? ⟨g, o, none⟩ := fun g hg o => World.cell?_of_block (a := ⟨g, o, none⟩) (hk g hg)
  have hz : ∀ o, (w.setCell p v).frozen? ⟨b, o, none⟩ = w.frozen? ⟨b, o, none⟩ := fun o => World.frozen?_of_block (a := ⟨b, o, none⟩) (hk b (Nat.le_refl _))
  refine ⟨⟨by simpa [World.setCell] using hlt, by rw [hc b (Nat.le_refl _)]; exact q0, ⟨a, h1, h2, by rw [hc b (Nat.le_refl _)]; exact q1⟩, ⟨s, by rw [hc b (Nat.le_refl _)]; exact q2⟩, fun o => by rw [hz]; exact qz o⟩, ?_⟩
  intro i x hx
  obtain ⟨g, off, hA, hg, hcc⟩ := hr i x hx
  exact ⟨g, off, hA, hg, fun j u hu => (hc g (by omega) _).trans (hcc j u hu)⟩
theorem CurS.allo {w : World} {b cap : Nat} {A : Option Addr} {cs : List Int} {m : Int} {o : Obj} (h : CurS w b A cs cap m) : CurS (w.alloc o) b A cs cap m := h.below ((Below.refl _ _).alloc (Nat.le_refl _) _)
theorem CurS.drw {w : World} {b cap : Nat} {A : Option Addr} {cs : List Int} {m : Int} (h : CurS w b A cs cap m) : CurS w.drew b A cs cap m := h.below ((Below.refl _ _).drew)
theorem grownA {a w : World} {row : Option Nat} {o : Obj} (h : a.grownBy w row) : a.grownBy (w.alloc o) row := grown_trans h (grown_alloc w o row)
theorem grownS {a w : World} {row : Option Nat} {p : Addr} {v : Value} (h : a.grownBy w row) (hp : a.heap.size ≤ p.block) : a.grownBy (w.setCell p v) row :=
  ⟨h.os, h.tape, h.output, by simpa [World.setCell] using h.size, fun i hi hne => (Below.heap_setCell w p v i (by omega)).trans (h.block i hi hne)⟩
theorem grownT {a W w' : World} {row : Option Nat} (hg : W.grownBy w' row) (h : a.grownBy W row) : a.grownBy w' row := grown_trans h hg

end Go.Proofs.Ythlmeofjjmfpnaa
