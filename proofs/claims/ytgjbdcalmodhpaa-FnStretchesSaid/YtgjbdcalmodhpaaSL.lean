import Derived.Test.YtgjbdcalmodhpaaQ3
import Derived.Test.YtgjbdcalmodhpaaPN
import Derived.Test.YtgjbdcalmodhpaaPL
namespace Go.Proofs.Ytgjbdcalmodhpaa
set_option linter.unusedSimpArgs false
set_option linter.unusedVariables false
open Go.RowKit

theorem bst_form {xs : List PasT} {g : Int} : ∀ k, bstTo xs g k = [] ∨ ∃ s, bstTo xs g k = idsK xs s xs.length ∧ frK xs s g xs.length = true
  | 0 => .inl rfl
  | k + 1 => by
    rw [bstTo_succ]
    unfold bstStep
    split
    · next h => exact .inr ⟨k, rfl, h.1⟩
    · exact bst_form k
theorem bst_mono {xs : List PasT} {g : Int} (k : Nat) : (bstTo xs g k).length ≤ (bstTo xs g (k + 1)).length := by
  rw [bstTo_succ]
  unfold bstStep
  split
  · next h => omega
  · exact Nat.le_refl _
theorem bst_ge {xs : List PasT} {g : Int} {s : Nat} (hf : frK xs s g xs.length = true) : ∀ k, s < k → (idsK xs s xs.length).length ≤ (bstTo xs g k).length
  | 0, h => absurd h (Nat.not_lt_zero _)
  | k + 1, h => by
    by_cases hs : s < k
    · exact Nat.le_trans (bst_ge hf k hs) (bst_mono k)
    · have : s = k := by omega
      subst this
      rw [bstTo_succ]
      unfold bstStep
      split
      · exact Nat.le_refl _
      · next h2 =>
        simp only [hf, true_and, not_or] at h2
        omega
theorem own_full {xs : List PasT} {s : Nat} : ∀ k, k ≤ xs.length → popK s k = k → ownK xs s k = xs.take k
  | 0, _, _ => rfl
  | k + 1, hk, h => by
    have hp := pop_le s k
    unfold popK at h
    cases hb : bitS s k with
    | false => rw [hb] at h; simp at h; omega
    | true =>
      rw [hb] at h
      simp at h
      unfold ownK
      rw [own_full k (by omega) h, hb, if_pos rfl, List.take_succ_eq_append_getElem (show k < xs.length by omega)]
      congr 2
      rw [List.getD_eq_getElem?_getD, List.getElem?_eq_getElem (show k < xs.length by omega)]
      rfl
theorem pop_full (n : Nat) : ∀ k, k ≤ n → popK (2 ^ n - 1) k = k
  | 0, _ => rfl
  | k + 1, hk => by
    unfold popK
    rw [pop_full n k (by omega), if_pos (by unfold bitS; rw [Nat.testBit_two_pow_sub_one]; simp; omega)]
theorem fr_at {xs : List PasT} {s : Nat} {g : Int} : ∀ n, frK xs s g n = true → ∀ j, j < n → bitS s j = true → innK xs s g j j = true
  | 0, _, j, hj, _ => absurd hj (Nat.not_lt_zero _)
  | n + 1, h, j, hj, hb => by
    unfold frK at h
    by_cases hjn : j < n
    · split at h
      · rw [Bool.and_eq_true] at h; exact fr_at n h.1 j hjn hb
      · exact fr_at n h j hjn hb
    · have : j = n := by omega
      subst this
      rw [if_pos hb, Bool.and_eq_true] at h
      exact h.2
theorem getD_at {xs : List PasT} {i : Nat} (h : i < xs.length) : xs.getD i p0 = xs[i] := by
  rw [List.getD_eq_getElem?_getD, List.getElem?_eq_getElem h]; rfl
theorem ids_inj {xs : List PasT} (hv : vB pOk pLt 6 xs = true) {i j : Nat} (hi : i < xs.length) (hj : j < xs.length) (h : xs[i].1 = xs[j].1) : i = j := by
  rcases Nat.lt_trichotomy i j with hl | hl | hl
  · have := ids_rise hv (j - i - 1) i (by omega)
    have e : i + 1 + (j - i - 1) = j := by omega
    simp only [e] at this
    omega
  · exact hl
  · have := ids_rise hv (i - j - 1) j (by omega)
    have e : j + 1 + (i - j - 1) = i := by omega
    simp only [e] at this
    omega
theorem ids_bit {xs : List PasT} (hv : vB pOk pLt 6 xs = true) {s i : Nat} (hi : i < xs.length) (h : xs[i].1 ∈ idsK xs s xs.length) : bitS s i = true := by
  unfold idsK at h
  rw [List.mem_map] at h
  obtain ⟨a, ha, e⟩ := h
  obtain ⟨q, hq, hb, ea⟩ := own_mem _ a ha
  rw [ea, getD_at hq] at e
  rw [← ids_inj hv hq hi e]
  exact hb
theorem pairs_mem {xs : List PasT} {g : Int} {p : Int × Int} (h : p ∈ pairsV xs g) : ∃ i j, ∃ (hi : i < xs.length) (hj : j < xs.length), i < j ∧ p = (xs[i].1, xs[j].1) ∧ clash xs[i] xs[j] g = true := by
  unfold pairsV pairsTo at h
  rw [List.mem_flatMap] at h
  obtain ⟨i, hi, h⟩ := h
  rw [List.mem_range] at hi
  rw [List.getElem?_eq_getElem hi] at h
  simp only [rowP, List.mem_map, List.mem_filter] at h
  obtain ⟨b, ⟨hb, hc⟩, e⟩ := h
  rw [List.mem_drop_iff_getElem] at hb
  obtain ⟨j, hj, e2⟩ := hb
  refine ⟨i, i + 1 + j, hi, by omega, by omega, ?_, ?_⟩
  · rw [← e]; simp only [e2]
  · simp only [e2]; exact hc
/-- the most passages and the pairs that clash -/
theorem most_law (xs : List PasT) (g : Int) : (mostV xs g).2 = (clashV xs g).2 ∧ ((mostV xs g).2 = true → ((clashV xs g).1.length = 0 ↔ (mostV xs g).1.length = xs.length)) ∧ ∀ p, p ∈ (clashV xs g).1 → ¬ (p.1 ∈ (mostV xs g).1 ∧ p.2 ∈ (mostV xs g).1) := by
  unfold mostV clashV
  by_cases h : vB pOk pLt 6 xs = true ∧ gapB g = true
  · rw [if_pos h, if_pos h]
    obtain ⟨hv, hg⟩ := h
    refine ⟨rfl, fun _ => ?_, ?_⟩
    · simp only [List.length_eq_zero_iff]
      constructor
      · intro hp
        have hfull : ownK xs (2 ^ xs.length - 1) xs.length = xs := by
          rw [own_full _ (Nat.le_refl _) (pop_full _ _ (Nat.le_refl _)), List.take_length]
        have hf : frK xs (2 ^ xs.length - 1) g xs.length = true := by
          rw [fr_pairs (most_sym hv), hfull]; exact hp
        have h1 := bst_ge hf (2 ^ xs.length) (by have := Nat.two_pow_pos xs.length; omega)
        rw [ids_len, pop_full _ _ (Nat.le_refl _)] at h1
        have h2 := bst_len (xs := xs) (g := g) (2 ^ xs.length)
        omega
      · intro hl
        rcases bst_form (xs := xs) (g := g) (2 ^ xs.length) with e | ⟨s, e, hf⟩
        · rw [e] at hl
          have : xs = [] := List.eq_nil_of_length_eq_zero hl.symm
          subst this
          rfl
        · rw [e, ids_len] at hl
          have := (fr_pairs (most_sym hv)).1 hf
          rw [own_full _ (Nat.le_refl _) hl, List.take_length] at this
          exact this
    · rintro p hp ⟨h1, h2⟩
      obtain ⟨i, j, hi, hj, hij, e, hc⟩ := pairs_mem hp
      subst e
      simp only at h1 h2
      rcases bst_form (xs := xs) (g := g) (2 ^ xs.length) with e | ⟨s, e, hf⟩
      · rw [e] at h1; cases h1
      · rw [e] at h1 h2
        have b1 := ids_bit hv hi h1
        have b2 := ids_bit hv hj h2
        have := (inn_iff j j).1 (fr_at _ hf j hj b2) i hij b1
        rw [most_sym hv j i hij hj, getD_at hi, getD_at hj, hc] at this
        cases this
  · rw [if_neg h, if_neg h]
    exact ⟨rfl, fun e => by simp at e, fun p hp => by simp at hp⟩
theorem busyC_nil (n : Nat) : busyC [] n = 0 := by simp [busyC, busyA]
theorem busyA_app (l : List PasT) (x : PasT) (m : Int) : busyA (l ++ [x]) m = (busyA l m || busyA [x] m) := by simp [busyA]
theorem busyC_app (l : List PasT) (x : PasT) : ∀ n, busyC (l ++ [x]) n ≤ busyC l n + busyC [x] n
  | 0 => Nat.zero_le _
  | n + 1 => by
    have ih := busyC_app l x n
    rw [busyC_succ, busyC_succ, busyC_succ, busyA_app]
    cases busyA l n <;> cases busyA [x] n <;> simp <;> omega
theorem busyC_mem {xs : List PasT} {x : PasT} (h : x ∈ xs) : ∀ n, busyC [x] n ≤ busyC xs n
  | 0 => Nat.zero_le _
  | n + 1 => by
    have ih := busyC_mem h n
    rw [busyC_succ, busyC_succ]
    cases hb : busyA [x] n with
    | false => simp; omega
    | true =>
      have : busyA xs n = true := by
        unfold busyA at hb ⊢
        rw [List.any_eq_true]
        exact ⟨x, h, by simpa using hb⟩
      rw [this]
      simp
      exact ih
set_option maxRecDepth 20000 in
theorem busyC_one {x : PasT} (h1 : 0 ≤ x.2.2.1) (h2 : x.2.2.1 < x.2.2.2) : ∀ n : Nat, (busyC [x] n : Int) = max 0 (min (n : Int) x.2.2.2 - x.2.2.1)
  | 0 => by rw [busyC_zero]; omega
  | n + 1 => by
    have ih := busyC_one h1 h2 n
    rw [busyC_succ]
    have hb : busyA [x] n = decide (x.2.2.1 ≤ (n : Int) ∧ (n : Int) < x.2.2.2) := by simp [busyA, busyP]
    by_cases h : x.2.2.1 ≤ (n : Int) ∧ (n : Int) < x.2.2.2
    · rw [hb, decide_eq_true h, if_pos rfl]; omega
    · rw [hb, decide_eq_false h]; simp only [Bool.false_eq_true, if_false]; omega
set_option maxRecDepth 20000 in
/-- the busy minutes lie between the longest passage and the sum -/
theorem busy_law {xs : List PasT} (hv : vB pOk pLt 6 xs = true) (k : Nat) (hk : k < xs.length) : (0 ≤ xs[k].2.2.1 ∧ xs[k].2.2.1 < xs[k].2.2.2 ∧ xs[k].2.2.2 ≤ 9999) ∧ xs[k].2.2.2 - xs[k].2.2.1 ≤ (busyC xs 9999 : Int) ∧ (busyC (xs.take (k + 1)) 9999 : Int) ≤ (busyC (xs.take k) 9999 : Int) + (xs[k].2.2.2 - xs[k].2.2.1) := by
  have hp := pasB_bd (vB_at hv k hk)
  have e := busyC_one (x := xs[k]) (by omega) (by omega) 9999
  have h1 := busyC_mem (List.getElem_mem hk) 9999
  have h2 := busyC_app (xs.take k) xs[k] 9999
  rw [List.take_succ_eq_append_getElem hk]
  omega
theorem free_law {xs : List PasT} {f l m : Int} (h : freeFV xs f l = (m, true)) : f ≤ m ∧ m + l ≤ 9999 ∧ 0 ≤ f ∧ 1 ≤ l ∧ xs.length ≤ 6 ∧ ∀ k (hk : k < xs.length), ¬ (xs[k].2.2.1 < m + l ∧ m < xs[k].2.2.2) := by
  unfold freeFV at h
  by_cases hv : vB pOk pLt 6 xs = true ∧ minB f = true ∧ inB l 1 9999 = true
  · rw [if_pos hv] at h
    obtain ⟨h1, h2, h3⟩ := hv
    unfold freeV at h
    split at h
    · next j hj =>
      simp only [Prod.mk.injEq, and_true] at h
      rw [List.find?_range_eq_some] at hj
      obtain ⟨q1, q2, _⟩ := hj
      rw [List.mem_range] at q2
      have hmb : 0 ≤ f := by
        have := h2
        simp [minB, inB] at this
        omega
      have hlb : 1 ≤ l := by
        have := h3
        simp [inB] at this
        omega
      refine ⟨by omega, by omega, hmb, hlb, vB_len h1, ?_⟩
      intro k hk
      rw [h] at q1
      have q3 : overA xs m (m + l) = false := by simpa using q1
      have := (List.any_eq_false.1 q3) _ (List.getElem_mem hk)
      simpa [overP] using this
    · simp at h
  · rw [if_neg hv] at h; simp at h
theorem most_len (xs : List PasT) (g : Int) : (mostV xs g).1.length ≤ 6 := by
  unfold mostV
  by_cases h : vB pOk pLt 6 xs = true ∧ gapB g = true
  · rw [if_pos h]
    have h1 := vB_len h.1
    have h2 := bst_len (xs := xs) (g := g) (2 ^ xs.length)
    simp only
    omega
  · rw [if_neg h]; simp

end Go.Proofs.Ytgjbdcalmodhpaa
