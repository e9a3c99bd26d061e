import Derived.Test.YteciijnpfapmhaaIns
import Derived.Test.YteciijnpfapmhaaBrDefs
namespace Go.Proofs.Yteciijnpfapmhaa
set_option linter.unusedSimpArgs false
set_option linter.unusedVariables false
open Go.RowKit

def posI (f : Int) (xs : List (Int × Int)) : Nat := (xs.takeWhile fun x => decide (x.1 < f)).length
theorem takeWhile_len {α : Type} {p : α → Bool} : ∀ {xs : List α} {k : Nat}, k ≤ xs.length → (∀ q (hq : q < xs.length), q < k → p xs[q] = true) → (∀ hk : k < xs.length, p xs[k] = false) → (xs.takeWhile p).length = k
  | [], k, hk, _, _ => by simp at hk; simp [hk]
  | x :: xs, 0, _, _, h2 => by
    have := h2 (by simp)
    simp at this
    simp [List.takeWhile_cons, this]
  | x :: xs, k + 1, hk, h1, h2 => by
    have h0 := h1 0 (by simp) (by omega)
    simp at h0
    rw [List.takeWhile_cons, if_pos h0, List.length_cons]
    congr 1
    refine takeWhile_len (by simpa using hk) (fun q hq hqk => ?_) (fun hk' => ?_)
    · exact h1 (q + 1) (by simp; omega) (by omega)
    · exact h2 (by simp; omega)
theorem posI_at {f : Int} {xs : List (Int × Int)} {k : Nat} (hk : k ≤ xs.length) (h1 : ∀ q (hq : q < xs.length), q < k → xs[q].1 < f) (h2 : ∀ hk : k < xs.length, ¬ xs[k].1 < f) : posI f xs = k :=
  takeWhile_len hk (fun q hq hqk => decide_eq_true (h1 q hq hqk)) (fun hk' => decide_eq_false (h2 hk'))
def insI (xs : List (Int × Int)) (y : Int × Int) : List (Int × Int) := xs.take (posI y.1 xs) ++ y :: xs.drop (posI y.1 xs)
theorem insI_len (xs : List (Int × Int)) (y : Int × Int) : (insI xs y).length = xs.length + 1 := by
  have : posI y.1 xs ≤ xs.length := (List.takeWhile_prefix _).length_le
  simp [insI]
  omega
def addV (d : Int) (xs : List (Int × Int)) (y : Int × Int) : (Int × List (Int × Int)) × Bool := if brB d xs = true ∧ brB d (insI xs y) = true then ((d, insI xs y), true) else ((0, []), false)
theorem FreshA.newh {α : Type} {cf : α → List Value} {sz : Nat} {T : TypeId} {B g : Nat} {w : World} (hg : w.heap.size = g) (hB : B ≤ g) : FreshA cf sz T B (w.alloc (.cells #[] T)) (some ⟨g, 0, none⟩) 0 ([] : List α) := by
  subst hg
  exact .inr ⟨w.heap.size, rfl, hB, #[], heap_alloc_new _ _, by simp, by simp, by unfold maxLen; omega, fun i x h => by simp at h⟩
theorem heap_alloc_newg {w : World} {g : Nat} {o : Obj} (hg : g = w.heap.size) : (w.alloc o).heap[g]? = some o := by
  subst hg
  exact heap_alloc_new _ _
theorem heap_alloc2g {w : World} {g : Nat} {o1 o2 : Obj} (hg : g = w.heap.size) : ((w.alloc o1).alloc o2).heap[g]? = some o1 := by
  subst hg
  have h := heap_alloc_new w o1
  have hl := Fresh.lt h
  rw [← h]
  simp only [World.alloc, Array.getElem?_push]
  simp
theorem FreshA.set_neb {α : Type} {cf : α → List Value} {sz : Nat} {T : TypeId} {B cap : Nat} {w : World} {A : Option Addr} {xs : List α} (h : FreshA cf sz T B w A cap xs) {p : Addr} (hne : NeB p.block A) (u : Value) : FreshA cf sz T B (w.setCell p u) A cap xs := by
  rcases h with h | ⟨g, rfl, hB, h⟩
  · exact .inl h
  · exact .inr ⟨g, rfl, hB, h.block (Below.heap_setCell w p u g (by have := hne _ rfl; dsimp only at this; omega))⟩
theorem calls_named {P : Program} {f : Nat} {args : Array Value} {K : Ending → World → Prop} {w : World} (h : ∀ V, V = w → Calls P f args V K) : Calls P f args w K := h w rfl
theorem heap_alloc_newgd {w : World} {g : Nat} {o : Obj} (hg : g = w.heap.size) : (w.alloc o).drew.heap[g]? = some o := heap_alloc_newg hg
theorem heap_alloc2gd {w : World} {g : Nat} {o1 o2 : Obj} (hg : g = w.heap.size) : ((w.alloc o1).alloc o2).drew.heap[g]? = some o1 := heap_alloc2g hg

theorem below_dn {B n : Nat} {a w : World} (h : Below B a w) : Below B a (w.drewN n) := ⟨h.os, h.tape, h.output, h.size, h.block⟩

end Go.Proofs.Yteciijnpfapmhaa
