import Derived.Test.YtgjbdcalmodhpaaQ3
import Derived.Test.YtgjbdcalmodhpaaD7
import Derived.Test.YtgjbdcalmodhpaaD8i
import Derived.Test.YtgjbdcalmodhpaaE1
namespace Go.Proofs.Ytgjbdcalmodhpaa
set_option linter.unusedSimpArgs false
set_option linter.unusedVariables false
open Go.RowKit

def NotA (A A' : Option Addr) : Prop := ∀ a b, A = some a → A' = some b → a.block ≠ b.block
theorem blk_ne {A : Option Addr} {g : Nat} (h : ∀ a, A = some a → a.block ≠ g) : some g ≠ blkO A := fun e => by
  cases hA : A with
  | none => rw [hA] at e; cases e
  | some a =>
    rw [hA] at e
    simp only [blkO, Option.map_some, Option.some.injEq] at e
    exact h a hA e.symm
theorem blk_next {A A3 : Option Addr} {n g : Nat} (hat : blkO A3 = blkO A ∨ blkO A3 = some n) (h : ∀ a, A = some a → a.block ≠ g) (hg : g < n) : ∀ a, A3 = some a → a.block ≠ g := fun a ha => by
  rcases hat with e | e
  · rw [ha] at e
    cases hA : A with
    | none => rw [hA] at e; cases e
    | some a0 =>
      rw [hA] at e
      simp only [blkO, Option.map_some, Option.some.injEq] at e
      rw [e]
      exact h a0 hA
  · rw [ha] at e
    simp only [blkO, Option.map_some, Option.some.injEq] at e
    omega
/-- the passages chosen and their Ids, two rows apart from each other -/
structure TwoR (B : Nat) (w : World) (A1 : Option Addr) (c1 : Nat) (own : List PasT) (A2 : Option Addr) (c2 : Nat) (ids : List Int) : Prop where
  a1 : FreshA cPas 4 26 B w A1 c1 own
  a2 : FreshA cIn 1 3 B w A2 c2 ids
  n3 : NotA A1 A2
section
variable {B c1 c2 c3 : Nat} {w w' : World} {A1 A2 A3 : Option Addr} {own : List PasT} {ids : List Int}
theorem TwoR.below (h : TwoR B w A1 c1 own A2 c2 ids) (hb : Below w.heap.size w w') : TwoR B w' A1 c1 own A2 c2 ids := ⟨h.a1.below hb, h.a2.below hb, h.n3⟩
theorem TwoR.push1 {x : PasT} (h : TwoR B w A1 c1 own A2 c2 ids) (hF : FreshA cPas 4 26 B w' A3 c3 (own ++ [x])) (hg : w.grownBy w' (blkO A1)) (hat : blkO A3 = blkO A1 ∨ blkO A3 = some w.heap.size) : TwoR B w' A3 c3 (own ++ [x]) A2 c2 ids :=
  ⟨hF, h.a2.grown hg (fun a ha => blk_ne fun b hb => h.n3 b a hb ha), fun a b ha hb => blk_next hat (fun c hc => h.n3 c b hc hb) (h.a2.hi b hb) a ha⟩
theorem TwoR.push2 {x : Int} (h : TwoR B w A1 c1 own A2 c2 ids) (hF : FreshA cIn 1 3 B w' A3 c3 (ids ++ [x])) (hg : w.grownBy w' (blkO A2)) (hat : blkO A3 = blkO A2 ∨ blkO A3 = some w.heap.size) : TwoR B w' A1 c1 own A3 c3 (ids ++ [x]) :=
  ⟨h.a1.grown hg (fun a ha => blk_ne fun b hb e => h.n3 a b ha hb e.symm), hF, fun a b ha hb e => blk_next hat (fun c hc e2 => h.n3 a c ha hc e2.symm) (h.a1.hi a ha) b hb e.symm⟩
end
theorem FreshA.cap_max {α : Type} {cf : α → List Value} {sz : Nat} {T : TypeId} {B cap : Nat} {w : World} {A : Option Addr} {xs : List α} (h : FreshA cf sz T B w A cap xs) : cap ≤ 9223372036854775807 := by
  rcases h with ⟨_, _, rfl⟩ | ⟨_, _, _, _, _, _, _, h, _⟩
  · omega
  · unfold maxLen at h; omega
theorem FreshA.mk0 {α : Type} {cf : α → List Value} {sz : Nat} {T : TypeId} {B : Nat} {w : World} {g : Nat} (h : w.heap[g]? = some (.cells #[] T (0, 0))) (hB : B ≤ g) : FreshA cf sz T B w (some ⟨g, 0, none⟩) 0 ([] : List α) :=
  .inr ⟨g, rfl, hB, #[], h, by simp, Nat.le_refl _, by unfold maxLen; omega, fun i x h => by simp at h⟩
theorem al_at (w : World) (o : Obj) (g : Nat) : (w.alloc o).heap[g]? = if g = w.heap.size then some o else w.heap[g]? := by
  rcases Nat.lt_trichotomy g w.heap.size with h | h | h
  · rw [if_neg (by omega), Below.heap_alloc _ _ _ h]
  · subst h
    rw [if_pos rfl]
    unfold World.alloc; simp
  · rw [if_neg (by omega), Array.getElem?_eq_none (by simp; omega), Array.getElem?_eq_none (by omega)]
theorem al_sz (w : World) (o : Obj) : (w.alloc o).heap.size = w.heap.size + 1 := by simp
theorem twoR_init (w : World) : TwoR w.heap.size ((w.alloc (.cells #[] 26)).alloc (.cells #[] 3)) (some ⟨w.heap.size, 0, none⟩) 0 [] (some ⟨w.heap.size + 1, 0, none⟩) 0 [] :=
  ⟨FreshA.mk0 (by simp only [al_at, al_sz]; simp [Nat.add_assoc]) (Nat.le_refl _), FreshA.mk0 (by simp only [al_at, al_sz]; simp [Nat.add_assoc]) (by omega), fun a b ha hb => by cases ha; cases hb; simp only; omega⟩

theorem row_below3 {α : Type} {cf : α → List Value} {sz : Nat} {T : TypeId} {A : Option Addr} {cap : Nat} {xs : List α} {B : Nat} {a w w' : World} (h : FreshA cf sz T B w A cap xs) (hb : Below B a w) (hg : w.grownBy w' (blkO A)) (hB : B ≤ w.heap.size := by first | omega | (simp; done) | (simp; omega)) : Below B a w' := below_grown hb hB hg h.lo

end Go.Proofs.Ytgjbdcalmodhpaa
