import Derived.Test.YtgjbdcalmodhpaaQ2
namespace Go.Proofs.Ytgjbdcalmodhpaa
set_option linter.unusedSimpArgs false
set_option linter.unusedVariables false
open Go.RowKit

theorem most_bit0 : ∀ (s : Fin 64) (q : Fin 6), bits BinOp.and IntKind.i64 ((s.1 : Int) / 2 ^ q.1) 1 = if bitS s.1 q.1 = true then 1 else 0 := by decide +kernel
theorem most_bit {s q : Nat} (hs : s < 64) (hq : q < 6) : bits BinOp.and IntKind.i64 ((s : Int) / 2 ^ q) 1 = if bitS s q = true then 1 else 0 := most_bit0 ⟨s, hs⟩ ⟨q, hq⟩
theorem most_shl0 : ∀ n : Fin 7, IntKind.i64.wrap (2 ^ n.1) = ((2 ^ n.1 : Nat) : Int) := by decide +kernel
theorem most_shl {n : Nat} (h : n ≤ 6) : IntKind.i64.wrap (2 ^ n) = ((2 ^ n : Nat) : Int) := most_shl0 ⟨n, by omega⟩
theorem most_pw {n : Nat} (h : n ≤ 6) : 2 ^ n ≤ 64 := by
  have : ∀ n : Fin 7, 2 ^ n.1 ≤ 64 := by decide
  exact this ⟨n, by omega⟩
theorem most_pop {n s : Nat} (h : n ≤ 6) (hs : s < 2 ^ n) : popK s 6 = popK s n := by
  have h2 := most_pw h
  exact (pop6 ⟨n, by omega⟩ ⟨s, by omega⟩ hs).symm
theorem own_bd {xs : List PasT} (hv : vB pOk pLt 6 xs = true) {s : Nat} : ∀ k, k ≤ xs.length → ∀ a ∈ ownK xs s k, bdP a := fun k hk a ha => by
  obtain ⟨q, hq, _, e⟩ := own_mem k a ha
  have hql : q < xs.length := by omega
  have e2 : xs.getD q p0 = xs[q] := by rw [List.getD_eq_getElem?_getD, List.getElem?_eq_getElem hql]; rfl
  rw [e, e2]
  exact vB_bdP hv q hql
theorem bst_keep {xs : List PasT} {g : Int} {b : List Int} {s : Nat} (h : ¬ (frK xs s g xs.length = true ∧ (b.length < (idsK xs s xs.length).length ∨ ((idsK xs s xs.length).length = b.length ∧ lexB (idsK xs s xs.length) b = true)))) : bstStep xs g b s = b := by
  unfold bstStep
  rw [if_neg h]
theorem bst_take {xs : List PasT} {g : Int} {b : List Int} {s : Nat} (h1 : frK xs s g xs.length = true) (h2 : b.length < (idsK xs s xs.length).length ∨ ((idsK xs s xs.length).length = b.length ∧ lexB (idsK xs s xs.length) b = true)) : bstStep xs g b s = idsK xs s xs.length := by
  unfold bstStep
  rw [if_pos ⟨h1, h2⟩]
theorem mostV_len (xs : List PasT) (g : Int) : (mostV xs g).1.length ≤ 6 := by
  unfold mostV
  by_cases e : vB pOk pLt 6 xs = true ∧ gapB g = true
  · rw [if_pos e]
    exact Nat.le_trans (bst_len _) (vB_len e.1)
  · rw [if_neg e]; simp

end Go.Proofs.Ytgjbdcalmodhpaa
