import Derived.Test.YtgjbdcalmodhpaaE1
import Derived.Test.YtgjbdcalmodhpaaPDefs
namespace Go.Proofs.Ytgjbdcalmodhpaa
set_option linter.unusedSimpArgs false
set_option linter.unusedVariables false
open Go.RowKit

abbrev PasT := Int × Bool × Int × Int
def p0 : PasT := (0, false, 0, 0)
def bitS (s k : Nat) : Bool := s.testBit k
/-- those of the first k passages that are in the set -/
def ownK (xs : List PasT) (s : Nat) : Nat → List PasT
  | 0 => []
  | k + 1 => ownK xs s k ++ (if bitS s k = true then [xs.getD k p0] else [])
def idsK (xs : List PasT) (s k : Nat) : List Int := (ownK xs s k).map (·.1)
def popK (s : Nat) : Nat → Nat
  | 0 => 0
  | k + 1 => popK s k + (if bitS s k = true then 1 else 0)
/-- passage i clashes with none of the first q in the set -/
def innK (xs : List PasT) (s : Nat) (g : Int) (i : Nat) : Nat → Bool
  | 0 => true
  | q + 1 => innK xs s g i q && (!bitS s q || !clash (xs.getD i p0) (xs.getD q p0) g)
def frK (xs : List PasT) (s : Nat) (g : Int) : Nat → Bool
  | 0 => true
  | k + 1 => if bitS s k = true then frK xs s g k && innK xs s g k k else frK xs s g k
def lexB : List Int → List Int → Bool
  | [], b => decide (0 < b.length)
  | _ :: _, [] => false
  | x :: a, y :: b => if x = y then lexB a b else decide (x < y)
def bstStep (xs : List PasT) (g : Int) (b : List Int) (s : Nat) : List Int :=
  if frK xs s g xs.length = true ∧ (b.length < (idsK xs s xs.length).length ∨ ((idsK xs s xs.length).length = b.length ∧ lexB (idsK xs s xs.length) b = true)) then idsK xs s xs.length else b
def bstTo (xs : List PasT) (g : Int) (k : Nat) : List Int := (List.range k).foldl (bstStep xs g) []
def mostV (xs : List PasT) (g : Int) : List Int × Bool := if vB pOk pLt 6 xs = true ∧ gapB g = true then (bstTo xs g (2 ^ xs.length), true) else ([], false)
section
variable {xs : List PasT} {s : Nat} {g : Int}
theorem bstTo_succ (k : Nat) : bstTo xs g (k + 1) = bstStep xs g (bstTo xs g k) k := by
  unfold bstTo
  rw [List.range_succ, List.foldl_append]; rfl
theorem own_pop : ∀ k, (ownK xs s k).length = popK s k
  | 0 => rfl
  | k + 1 => by
    unfold ownK popK
    rw [List.length_append, own_pop k]
    split <;> rfl
theorem ids_len (k : Nat) : (idsK xs s k).length = popK s k := by
  unfold idsK
  rw [List.length_map, own_pop]
theorem pop_le (s : Nat) : ∀ k, popK s k ≤ k
  | 0 => Nat.le_refl _
  | k + 1 => by
    have := pop_le s k
    unfold popK
    split <;> omega
theorem ids_succ (k : Nat) : idsK xs s (k + 1) = idsK xs s k ++ (if bitS s k = true then [(xs.getD k p0).1] else []) := by
  unfold idsK
  rw [ownK, List.map_append]
  split <;> rfl
theorem pop6 : ∀ n : Fin 7, ∀ s : Fin 64, s.1 < 2 ^ n.1 → popK s.1 n.1 = popK s.1 6 := by decide
theorem bst_len : ∀ k, (bstTo xs g k).length ≤ xs.length
  | 0 => Nat.zero_le _
  | k + 1 => by
    have ih := bst_len k
    rw [bstTo_succ]
    unfold bstStep
    split
    · rw [ids_len]; exact pop_le _ _
    · exact ih
theorem own_mem : ∀ k a, a ∈ ownK xs s k → ∃ q, q < k ∧ bitS s q = true ∧ a = xs.getD q p0
  | 0, a, h => by simp [ownK] at h
  | k + 1, a, h => by
    unfold ownK at h
    rw [List.mem_append] at h
    rcases h with h | h
    · obtain ⟨q, h1, h2, h3⟩ := own_mem k a h
      exact ⟨q, by omega, h2, h3⟩
    · split at h
      · rename_i hb
        rw [List.mem_singleton] at h
        exact ⟨k, by omega, hb, h⟩
      · simp at h
theorem mem_own : ∀ k q, q < k → bitS s q = true → xs.getD q p0 ∈ ownK xs s k
  | 0, q, h, _ => by omega
  | k + 1, q, h, hb => by
    unfold ownK
    rw [List.mem_append]
    by_cases e : q = k
    · subst e
      right
      rw [if_pos hb]; exact List.mem_singleton.2 rfl
    · exact .inl (mem_own k q (by omega) hb)
theorem inn_iff (i : Nat) : ∀ q, innK xs s g i q = true ↔ ∀ r, r < q → bitS s r = true → clash (xs.getD i p0) (xs.getD r p0) g = false
  | 0 => by simp [innK]
  | q + 1 => by
    unfold innK
    rw [Bool.and_eq_true, inn_iff i q, Bool.or_eq_true]
    constructor
    · rintro ⟨h1, h2⟩ r hr hb
      rcases Nat.lt_or_ge r q with h | h
      · exact h1 r h hb
      · have : r = q := by omega
        subst this
        rcases h2 with h2 | h2
        · rw [hb] at h2; simp at h2
        · simpa using h2
    · intro h
      refine ⟨fun r hr hb => h r (by omega) hb, ?_⟩
      cases hb : bitS s q with
      | false => left; rfl
      | true => right; rw [h q (by omega) hb]; rfl
theorem row_nil (a : PasT) (ys : List PasT) : rowP a ys g = [] ↔ ∀ b ∈ ys, clash a b g = false := by
  unfold rowP
  rw [List.map_eq_nil_iff, List.filter_eq_nil_iff]
  simp
theorem pairs_nil (ys : List PasT) : pairsV ys g = [] ↔ ys.Pairwise fun a b => clash a b g = false := by
  unfold pairsV pairsTo
  rw [List.flatMap_eq_nil_iff, List.pairwise_iff_getElem]
  constructor
  · intro h i j hi hj hij
    have := h i (List.mem_range.2 hi)
    rw [List.getElem?_eq_getElem hi] at this
    refine (row_nil _ _).1 this _ ?_
    rw [List.mem_drop_iff_getElem]
    exact ⟨j - (i + 1), by omega, by congr 1; omega⟩
  · intro h i hi
    have hi' := List.mem_range.1 hi
    rw [List.getElem?_eq_getElem hi']
    refine (row_nil _ _).2 fun b hb => ?_
    rw [List.mem_drop_iff_getElem] at hb
    obtain ⟨j, hj, e⟩ := hb
    rw [← e]
    exact h i (i + 1 + j) hi' (by omega) (by omega)
theorem fr_iff (hsym : ∀ i q, q < i → i < xs.length → clash (xs.getD i p0) (xs.getD q p0) g = clash (xs.getD q p0) (xs.getD i p0) g) : ∀ k, k ≤ xs.length → (frK xs s g k = true ↔ (ownK xs s k).Pairwise fun a b => clash a b g = false)
  | 0, _ => by simp [frK, ownK]
  | k + 1, hk => by
    have ih := fr_iff hsym k (by omega)
    unfold frK ownK
    cases hb : bitS s k with
    | false => simpa using ih
    | true =>
      rw [if_pos rfl, if_pos rfl, Bool.and_eq_true, ih, inn_iff, List.pairwise_append]
      constructor
      · rintro ⟨h1, h2⟩
        refine ⟨h1, List.pairwise_singleton _ _, fun a ha b hbb => ?_⟩
        rw [List.mem_singleton] at hbb
        obtain ⟨q, hq, hqb, e⟩ := own_mem k a ha
        rw [hbb, e, ← hsym k q hq (by omega)]
        exact h2 q hq hqb
      · rintro ⟨h1, _, h3⟩
        refine ⟨h1, fun r hr hrb => ?_⟩
        rw [hsym k r hr (by omega)]
        exact h3 _ (mem_own k r hr hrb) _ (List.mem_singleton.2 rfl)
theorem fr_pairs (hsym : ∀ i q, q < i → i < xs.length → clash (xs.getD i p0) (xs.getD q p0) g = clash (xs.getD q p0) (xs.getD i p0) g) : (frK xs s g xs.length = true ↔ pairsV (ownK xs s xs.length) g = []) := by
  rw [fr_iff hsym xs.length (Nat.le_refl _), pairs_nil]
theorem ids_rise (hv : vB pOk pLt 6 xs = true) : ∀ (d a : Nat) (h : a + 1 + d < xs.length), xs[a].1 < xs[a + 1 + d].1
  | 0, a, h => by simpa [pLt] using vB_lt hv a (by omega)
  | d + 1, a, h => by
    have h1 := ids_rise hv d a (by omega)
    have h2 := vB_lt hv (a + 1 + d) (by omega)
    simp only [pLt, decide_eq_true_eq] at h2
    exact Int.lt_trans h1 h2
theorem clash_sym {a b : PasT} (h : a.1 ≠ b.1) : clash a b g = clash b a g := by
  unfold clash clashB
  obtain ⟨i, d, x, y⟩ := a
  obtain ⟨i', d', x', y'⟩ := b
  simp only at h ⊢
  by_cases hd : d = d'
  · subst hd
    simp
    by_cases h1 : x' < x
    · simp [h1, show ¬ x < x' by omega, show ¬ x = x' by omega, show ¬ x' = x by omega]
    · by_cases h2 : x < x'
      · simp [h1, h2, show ¬ x = x' by omega, show ¬ x' = x by omega]
      · have e : x = x' := by omega
        subst e
        by_cases h3 : i' < i
        · simp [h3, show ¬ i < i' by omega]
        · simp [h3, show i < i' by omega]
  · simp [hd, Ne.symm hd]
    rw [Int.max_comm, Int.min_comm]
theorem most_sym (hv : vB pOk pLt 6 xs = true) : ∀ i q, q < i → i < xs.length → clash (xs.getD i p0) (xs.getD q p0) g = clash (xs.getD q p0) (xs.getD i p0) g := fun i q hq hi => by
  have e1 : xs.getD i p0 = xs[i] := by rw [List.getD_eq_getElem?_getD, List.getElem?_eq_getElem hi]; rfl
  have e2 : xs.getD q p0 = xs[q]'(by omega) := by rw [List.getD_eq_getElem?_getD, List.getElem?_eq_getElem (show q < xs.length by omega)]; rfl
  rw [e1, e2]
  have := ids_rise hv (i - q - 1) q (by omega)
  simp only [show q + 1 + (i - q - 1) = i by omega] at this
  exact clash_sym (by omega)
end

end Go.Proofs.Ytgjbdcalmodhpaa
