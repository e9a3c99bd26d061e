import Derived.Test.YtgjbdcalmodhpaaPN
import Derived.Test.YtgjbdcalmodhpaaPD
import Derived.Test.YtgjbdcalmodhpaaE0
namespace Go.Proofs.Ytgjbdcalmodhpaa
set_option linter.unusedSimpArgs false
set_option linter.unusedVariables false
open Go.RowKit

abbrev PsT := Int × Bool × Int × Int
theorem clashB_symm {i a b i' a' b' g : Int} {d d' : Bool} (hne : i ≠ i') : clashB i' d' a' b' i d a b g = clashB i d a b i' d' a' b' g := by
  unfold clashB
  by_cases hd : d = d'
  · subst hd
    simp only [if_true]
    by_cases h1 : a' < a ∨ a' = a ∧ i' < i
    · rw [if_pos h1, if_neg (by omega)]
    · rw [if_neg h1, if_pos (by omega)]
  · rw [if_neg hd, if_neg (fun e => hd e.symm), Int.max_comm, Int.min_comm]
theorem doClashV_symm (i a b i' a' b' g : Int) (d d' : Bool) : doClashV i' d' a' b' i d a b g = doClashV i d a b i' d' a' b' g := by
  unfold doClashV
  by_cases h : pasB i d a b = true ∧ pasB i' d' a' b' = true ∧ i ≠ i' ∧ gapB g = true
  · rw [if_pos h, if_pos ⟨h.2.1, h.1, fun e => h.2.2.1 e.symm, h.2.2.2⟩, clashB_symm h.2.2.1]
  · rw [if_neg h, if_neg (fun q => h ⟨q.2.1, q.1, fun e => q.2.2.1 e.symm, q.2.2.2⟩)]
def TurnInv (xs : List PsT) (g : Int) (k : Nat) (out : List PsT) : Prop :=
  out.length = k ∧ (∀ q (hq : q < out.length) (hx : q < xs.length), ∃ y : Nat, out[q] = later xs[q] y ∧ xs[q].2.2.2 + y ≤ 9999) ∧ ∀ p q (hpq : p < q) (hq : q < out.length), clash out[p] out[q] g = false
theorem turn_inv {xs : List PsT} {g : Int} : ∀ k, k ≤ xs.length → ∀ out, turnF g (xs.take k) = some out → TurnInv xs g k out
  | 0, _, out, h => by
    simp [turnF] at h
    subst h
    exact ⟨rfl, fun q hq => absurd hq (Nat.not_lt_zero q), fun p q _ hq => absurd hq (Nat.not_lt_zero q)⟩
  | k + 1, hk, out, h => by
    have hlt : k < xs.length := by omega
    unfold turnF at h
    rw [List.take_succ_eq_append_getElem hlt, List.foldl_append, List.foldl_cons, List.foldl_nil] at h
    cases ht : (xs.take k).foldl (turnS g) (some []) with
    | none => rw [ht] at h; cases h
    | some o =>
      rw [ht] at h
      have ih := turn_inv k (by omega) o ht
      obtain ⟨h1, h2, h3⟩ := ih
      cases hs : smF o xs[k].1 xs[k].2.1 xs[k].2.2.1 xs[k].2.2.2 g with
      | none => simp [turnS, hs] at h
      | some y =>
        simp [turnS, hs] at h
        subst h
        obtain ⟨hy, hd⟩ := smF_some hs
        refine ⟨by simp [h1], ?_, ?_⟩
        · intro q hq hx
          by_cases hl : q < o.length
          · rw [List.getElem_append_left hl]; exact h2 q hl hx
          · have : q = o.length := by simp at hq; omega
            subst this
            refine ⟨y, ?_, ?_⟩
            · simp [h1]
            · have : xs[o.length].2.2.2 = xs[k].2.2.2 := by simp only [h1]
              rw [this]; exact hy
        · intro p q hpq hq
          by_cases hl : q < o.length
          · rw [List.getElem_append_left hl, List.getElem_append_left (by omega)]; exact h3 p q hpq hl
          · have : q = o.length := by simp at hq; omega
            subst this
            rw [List.getElem_append_left hpq]
            have hm := List.getElem_mem (l := o) hpq
            have := (List.any_eq_false.1 hd) _ hm
            have h9 : (o ++ [later xs[k] y])[o.length]'hq = later xs[k] y := by simp
            rw [h9]
            exact Bool.eq_false_iff.2 this
theorem vB_later {xs out : List PsT} (hv : vB pOk pLt 6 xs = true) (hl : out.length = xs.length) (h : ∀ q (hq : q < out.length) (hx : q < xs.length), ∃ y : Nat, out[q] = later xs[q] y ∧ xs[q].2.2.2 + y ≤ 9999) : vB pOk pLt 6 out = true := by
  have e : vB pOk pLt 6 out = decide (out.length ≤ 6) := by
    refine vB_all ?_
    intro j hj
    have hjx : j < xs.length := by omega
    obtain ⟨y, hy, hy2⟩ := h j hj hjx
    have hok := pasB_bd (vB_at hv j hjx)
    unfold vAt
    rw [List.getElem?_eq_getElem hj]
    simp only [Bool.and_eq_true]
    constructor
    · rw [hy]
      show pasB xs[j].1 xs[j].2.1 (xs[j].2.2.1 + y) (xs[j].2.2.2 + y) = true
      simp only [pasB, decide_eq_true_eq]
      omega
    · cases j with
      | zero => rfl
      | succ j =>
        obtain ⟨z, hz, hz2⟩ := h j (by omega) (by omega)
        have := vB_lt hv j hjx
        simp only [List.getElem?_eq_getElem (show j < out.length by omega)]
        rw [hy, hz]
        exact this
  rw [e, decide_eq_true_eq, hl]
  exact vB_len hv
theorem turn_pairs_nil {xs : List PsT} {g : Int} (h : ∀ p q (hpq : p < q) (hq : q < xs.length), clash xs[p] xs[q] g = false) : pairsV xs g = [] := by
  unfold pairsV pairsTo
  rw [List.flatMap_eq_nil_iff]
  intro i hi
  rw [List.mem_range] at hi
  rw [List.getElem?_eq_getElem hi]
  simp only
  unfold rowP
  rw [List.map_eq_nil_iff, List.filter_eq_nil_iff]
  intro b hb
  obtain ⟨j, hj, rfl⟩ := List.mem_iff_getElem.1 hb
  simp at hj
  rw [List.getElem_drop]
  simp [h i (i + 1 + j) (by omega) (by omega)]
/-- a list delayed in turn -/
theorem turn_law {xs out : List PsT} {g : Int} (h : turnV xs g = (out, true)) : clashV out g = ([], true) ∧ out.length = xs.length ∧ xs.length ≤ 6 ∧ ∀ q (hq : q < out.length) (hx : q < xs.length), ∃ y : Nat, out[q].2.2.1 = xs[q].2.2.1 + y ∧ out[q].2.2.2 = xs[q].2.2.2 + y ∧ (0 ≤ xs[q].2.2.1 ∧ xs[q].2.2.1 ≤ 9999 ∧ 0 ≤ xs[q].2.2.2 ∧ xs[q].2.2.2 + y ≤ 9999) := by
  unfold turnV at h
  by_cases hv : vB pOk pLt 6 xs = true ∧ gapB g = true
  · rw [if_pos hv] at h
    cases ht : turnF g xs with
    | none => rw [ht] at h; simp at h
    | some l =>
      rw [ht] at h
      simp at h
      subst h
      obtain ⟨h1, h2, h3⟩ := turn_inv xs.length (Nat.le_refl _) l (by rw [List.take_length]; exact ht)
      have hv2 := vB_later hv.1 h1 h2
      refine ⟨?_, h1, vB_len hv.1, ?_⟩
      · unfold clashV
        rw [if_pos ⟨hv2, hv.2⟩, turn_pairs_nil h3]
      · intro q hq hx
        obtain ⟨y, hy, hy2⟩ := h2 q hq hx
        have hok := pasB_bd (vB_at hv.1 q hx)
        refine ⟨y, by rw [hy]; rfl, by rw [hy]; rfl, by omega⟩
  · rw [if_neg hv] at h; simp at h
/-- the smallest delay -/
theorem delay_law {xs : List PsT} {i a b g by_ : Int} {d : Bool} (h : delayV xs i d a b g = (by_, true)) : xs.length ≤ 6 ∧ 0 ≤ by_ ∧ b + by_ ≤ 9999 ∧ 0 ≤ a ∧ a < b ∧ (∀ q (hq : q < xs.length), doClashV xs[q].1 xs[q].2.1 xs[q].2.2.1 xs[q].2.2.2 i d (a + by_) (b + by_) g = (false, true)) ∧ (0 < by_ → ∀ q (hq : q < xs.length), (doClashV xs[q].1 xs[q].2.1 xs[q].2.2.1 xs[q].2.2.2 i d (a + by_ - 1) (b + by_ - 1) g).2 = true) ∧ (0 < by_ → ¬ ∀ q (hq : q < xs.length), (doClashV xs[q].1 xs[q].2.1 xs[q].2.2.1 xs[q].2.2.2 i d (a + by_ - 1) (b + by_ - 1) g).1 = false) := by
  unfold delayV at h
  by_cases hv : vB pOk pLt 6 xs = true ∧ pasB i d a b = true ∧ gapB g = true ∧ xs.any (sameP i) = false
  · rw [if_pos hv] at h
    obtain ⟨v1, v2, v3, v4⟩ := hv
    unfold smD at h
    cases hs : smF xs i d a b g with
    | none => rw [hs] at h; simp at h
    | some y =>
      rw [hs] at h
      simp at h
      subst h
      have hp := pasB_bd v2
      obtain ⟨hy, hd⟩ := smF_some hs
      have hne : ∀ q (hq : q < xs.length), xs[q].1 ≠ i := by
        intro q hq e
        have := (List.any_eq_false.1 v4) _ (List.getElem_mem hq)
        exact this (by simp [sameP, e])
      have hp1 : pasB i d (a + y) (b + y) = true := by simp only [pasB, decide_eq_true_eq]; omega
      refine ⟨vB_len v1, by omega, by omega, by omega, by omega, ?_, ?_, ?_⟩
      · intro q hq
        unfold doClashV
        rw [if_pos ⟨vB_at v1 q hq, hp1, hne q hq, v3⟩]
        have := (List.any_eq_false.1 hd) _ (List.getElem_mem hq)
        simp only [Prod.mk.injEq, and_true]
        exact Bool.eq_false_iff.2 this
      · intro h0 q hq
        have hp2 : pasB i d (a + y - 1) (b + y - 1) = true := by simp only [pasB, decide_eq_true_eq]; omega
        unfold doClashV
        rw [if_pos ⟨vB_at v1 q hq, hp2, hne q hq, v3⟩]
      · intro h0 hall
        have hp2 : pasB i d (a + y - 1) (b + y - 1) = true := by simp only [pasB, decide_eq_true_eq]; omega
        have hmin : delA xs i d a b g ((y - 1 : Nat) : Int) = true := by
          unfold smF at hs
          rw [List.find?_range_eq_some] at hs
          have := hs.2.2 (y - 1) (by omega)
          simpa using this
        unfold delA at hmin
        rw [List.any_eq_true] at hmin
        obtain ⟨x, hx, hc⟩ := hmin
        obtain ⟨q, hq, rfl⟩ := List.mem_iff_getElem.1 hx
        have := hall q hq
        unfold doClashV at this
        rw [if_pos ⟨vB_at v1 q hq, hp2, hne q hq, v3⟩] at this
        simp only at this
        unfold delP at hc
        have e1 : a + ((y - 1 : Nat) : Int) = a + y - 1 := by omega
        have e2 : b + ((y - 1 : Nat) : Int) = b + y - 1 := by omega
        rw [e1, e2, this] at hc
        cases hc
  · rw [if_neg hv] at h; simp at h
theorem wr_id2 {x : Int} (h : -9223372036854775808 ≤ x ∧ x ≤ 9223372036854775807) : IntKind.i64.wrap x = x := by
  rw [IntKind.wrap_i64]
  omega

end Go.Proofs.Ytgjbdcalmodhpaa
