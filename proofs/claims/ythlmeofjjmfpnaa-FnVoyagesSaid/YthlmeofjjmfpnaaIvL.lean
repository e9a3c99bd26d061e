import Derived.Test.YthlmeofjjmfpnaaDefs
namespace Go.Proofs.Ythlmeofjjmfpnaa
set_option linter.unusedSimpArgs false
set_option linter.unusedVariables false
open Go.RowKit

theorem asI_true {a b p q : Int} (h : asI a b = ((p, q), true)) : goodI a b = true ∧ p = a ∧ q = b := by
  unfold asI at h
  by_cases hg : goodI a b = true
  · rw [if_pos hg] at h
    simp only [Prod.mk.injEq, and_true] at h
    exact ⟨hg, h.1.symm, h.2.symm⟩
  · rw [if_neg hg] at h
    simp at h
theorem asI_good {a b : Int} (h : goodI a b = true) : asI a b = ((a, b), true) := by unfold asI; rw [if_pos h]
theorem good_mk {a b : Int} (h : 0 ≤ a ∧ a ≤ b ∧ b ≤ 9999) : goodI a b = true := by simpa [goodI] using h
theorem after_true {a b l m ja jb : Int} (h : afterI a b l m = ((ja, jb), true)) : goodI a b = true ∧ legB l m = true ∧ goodI (a + l) (b + m) = true ∧ ja = a + l ∧ jb = b + m := by
  unfold afterI at h
  by_cases hc : goodI a b = true ∧ legB l m = true
  · rw [if_pos hc] at h
    have := asI_true h
    exact ⟨hc.1, hc.2, this.1, this.2.1, this.2.2⟩
  · rw [if_neg hc] at h; simp at h
theorem before_true {a b l m p q : Int} (h : beforeI a b l m = ((p, q), true)) : goodI a b = true ∧ legB l m = true ∧ goodI (max 0 (a - m)) (b - l) = true ∧ p = max 0 (a - m) ∧ q = b - l := by
  unfold beforeI at h
  by_cases hc : goodI a b = true ∧ legB l m = true
  · rw [if_pos hc] at h
    have := asI_true h
    exact ⟨hc.1, hc.2, this.1, this.2.1, this.2.2⟩
  · rw [if_neg hc] at h; simp at h
theorem common_true {a b c d p q : Int} (h : commonI a b c d = ((p, q), true)) : goodI a b = true ∧ goodI c d = true ∧ goodI (max a c) (min b d) = true ∧ p = max a c ∧ q = min b d := by
  unfold commonI at h
  by_cases hc : goodI a b = true ∧ goodI c d = true
  · rw [if_pos hc] at h
    have := asI_true h
    exact ⟨hc.1, hc.2, this.1, this.2.1, this.2.2⟩
  · rw [if_neg hc] at h; simp at h
theorem iv_back {a b l m ja jb : Int} (h : afterI a b l m = ((ja, jb), true)) : (0 ≤ ja ∧ ja ≤ jb ∧ jb ≤ 9999) ∧ ∃ p q, beforeI ja jb l m = ((p, q), true) ∧ commonI p q a b = ((a, b), true) ∧ jb - ja = b - a + m - l := by
  obtain ⟨h1, h2, h3, rfl, rfl⟩ := after_true h
  have g1 := goodI_bd h1
  have g2 := legB_bd h2
  have g3 := goodI_bd h3
  have g4 : goodI (max 0 (a + l - m)) (b + m - l) = true := good_mk (by omega)
  refine ⟨g3, max 0 (a + l - m), b + m - l, ?_, ?_, by omega⟩
  · unfold beforeI; rw [if_pos ⟨h3, h2⟩]; exact asI_good g4
  · unfold commonI
    rw [if_pos ⟨g4, h1⟩, asI_good (good_mk (by omega))]
    simp only [Prod.mk.injEq, and_true]
    omega
theorem iv_meet {a b l m p q s t : Int} (h : beforeI a b l m = ((p, q), true)) (h' : afterI p q l m = ((s, t), true)) : ∃ x y, commonI s t a b = ((x, y), true) := by
  obtain ⟨h1, h2, h3, rfl, rfl⟩ := before_true h
  obtain ⟨_, _, h4, rfl, rfl⟩ := after_true h'
  have g1 := goodI_bd h1
  have g2 := legB_bd h2
  have g3 := goodI_bd h3
  refine ⟨max (max 0 (a - m) + l) a, min (b - l + m) b, ?_⟩
  unfold commonI
  rw [if_pos ⟨h4, h1⟩]
  exact asI_good (good_mk (by omega))
theorem iv_sum {a b c d p q : Int} (h : commonI a b c d = ((p, q), true)) : (0 ≤ p ∧ p ≤ q ∧ q ≤ 9999) ∧ ∃ x y, coverI a b c d = ((x, y), true) ∧ (0 ≤ x ∧ x ≤ y ∧ y ≤ 9999) ∧ q - p + y - x = b - a + d - c := by
  obtain ⟨h1, h2, h3, rfl, rfl⟩ := common_true h
  have g1 := goodI_bd h1
  have g2 := goodI_bd h2
  refine ⟨goodI_bd h3, min a c, max b d, ?_, by omega, by omega⟩
  unfold coverI
  rw [if_pos ⟨h1, h2⟩]

end Go.Proofs.Ythlmeofjjmfpnaa
