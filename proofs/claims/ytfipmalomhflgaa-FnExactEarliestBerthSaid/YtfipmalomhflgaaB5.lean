import Derived.Test.YtfipmalomhflgaaBDefs
namespace Go.Proofs.Ytfipmalomhflgaa
set_option linter.unusedSimpArgs false
set_option linter.unusedVariables false
open Go.RowKit

section
variable {q : Int} {xs : List (Int × Int × Int × Int × Int)} {l s f : Int}
theorem earlyV_b (h : berV q xs = false) : earlyV q xs l s f = (0, 0, false) := by simp [earlyV, h]
theorem earlyV_l (h : ¬ 1 ≤ l) : earlyV q xs l s f = (0, 0, false) := by unfold earlyV; rw [if_neg (fun e => h e.2.1)]
theorem earlyV_s1 (h : ¬ 1 ≤ s) : earlyV q xs l s f = (0, 0, false) := by unfold earlyV; rw [if_neg (fun e => h e.2.2.1)]
theorem earlyV_f (h : inB f 0 500 = false) : earlyV q xs l s f = (0, 0, false) := by
  unfold earlyV
  rw [if_neg (fun e => ?_)]
  simp [inB] at h
  have := h e.2.2.2.1
  omega
theorem earlyV_q (h : q < l) : earlyV q xs l s f = (0, 0, false) := by
  unfold earlyV
  rw [earlyF_big (.inl h)]
  split <;> rfl
theorem earlyV_s (h : inB s 1 500 = false) : earlyV q xs l s f = (0, 0, false) := by
  unfold earlyV
  split
  · rename_i e
    have : 500 < s + f := by
      simp [inB] at h
      have := h e.2.2.1
      omega
    rw [earlyF_big (.inr this)]
    rfl
  · rfl
theorem earlyV_eq (hb : berV q xs = true) (hl : 1 ≤ l) (hs : 1 ≤ s) (hf : inB f 0 500 = true) : earlyV q xs l s f = earlyR f (earlyF q xs l s f) := by
  unfold earlyV
  have := inB_bd hf
  rw [if_pos ⟨hb, hl, hs, this.1, this.2⟩]
end

end Go.Proofs.Ytfipmalomhflgaa
