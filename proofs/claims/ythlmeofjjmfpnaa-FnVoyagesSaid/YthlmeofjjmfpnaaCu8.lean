import Derived.Test.YthlmeofjjmfpnaaCu7
import Derived.Test.YthlmeofjjmfpnaaSDefs
namespace Go.Proofs.Ythlmeofjjmfpnaa
set_option linter.unusedSimpArgs false
set_option linter.unusedVariables false
open Go.RowKit

theorem CurS.keep {w w' : World} {b cap : Nat} {A : Option Addr} {cs : List Int} {m : Int} (h : CurS w b A cs cap m) (hk : ∀ g, g ≤ b → w'.heap[g]? = w.heap[g]?) (hs : w.heap.size ≤ w'.heap.size) : CurS w' b A cs cap m := by
  obtain ⟨⟨hlt, q0, ⟨a, h1, h2, q1⟩, ⟨s, q2⟩, qz⟩, hr⟩ := h
  have hc : ∀ g, g ≤ b → ∀ o, w'.cell? ⟨g, o, none⟩ = w.cell? ⟨g, o, none⟩ := fun g hg o => World.cell?_of_block (a := ⟨g, o, none⟩) (hk g hg)
  have hz : ∀ o, w'.frozen? ⟨b, o, none⟩ = w.frozen? ⟨b, o, none⟩ := fun o => World.frozen?_of_block (a := ⟨b, o, none⟩) (hk b (Nat.le_refl _))
  refine ⟨⟨by omega, by rw [hc b (Nat.le_refl _)]; exact q0, ⟨a, h1, h2, by rw [hc b (Nat.le_refl _)]; exact q1⟩, ⟨s, by rw [hc b (Nat.le_refl _)]; exact q2⟩, fun o => by rw [hz]; exact qz o⟩, ?_⟩
  intro i x hx
  obtain ⟨g, off, hA, hg, hcc⟩ := hr i x hx
  exact ⟨g, off, hA, hg, fun j u hu => (hc g (by omega) _).trans (hcc j u hu)⟩
theorem ne_blk {A2 : Option Addr} {B g : Nat} (hl : Lo B A2) (hg : g < B) : some g ≠ blkO A2 := by
  intro e
  cases hA : A2 with
  | none => rw [hA] at e; cases e
  | some x =>
    rw [hA] at e
    simp only [blkO, Option.map_some, Option.some.injEq] at e
    have := hl x hA
    omega
/-- the cursor stays where a row from block B on has grown -/
theorem CurS.other {w w' : World} {b cap B : Nat} {A A2 : Option Addr} {cs : List Int} {m : Int} (h : CurS w b A cs cap m) (hg : w.grownBy w' (blkO A2)) (hl : Lo B A2) (hB : b < B) : CurS w' b A cs cap m :=
  h.keep (fun g hgb => hg.block g (Nat.lt_of_le_of_lt hgb h.lt) (ne_blk hl (by omega))) hg.size
theorem grown_other {a w w' : World} {row : Option Nat} {A2 : Option Addr} (h : a.grownBy w row) (hg : w.grownBy w' (blkO A2)) (hl : Lo a.heap.size A2) : a.grownBy w' row :=
  ⟨hg.os.trans h.os, hg.tape.trans h.tape, hg.output.trans h.output, Nat.le_trans h.size hg.size, fun i hi hne => (hg.block i (Nat.lt_of_lt_of_le hi h.size) (ne_blk hl hi)).trans (h.block i hi hne)⟩
theorem FreshA.rowb {α : Type} {cf : α → List Value} {sz B cap b : Nat} {T : TypeId} {w w' : World} {A : Option Addr} {xs : List α} (h : FreshA cf sz T B w A cap xs) (hg : w.grownBy w' (some b)) (hb : b < B) : FreshA cf sz T B w' A cap xs :=
  h.grown hg fun a ha e => by
    have := h.lo a ha
    simp only [Option.some.injEq] at e
    omega

end Go.Proofs.Ythlmeofjjmfpnaa
