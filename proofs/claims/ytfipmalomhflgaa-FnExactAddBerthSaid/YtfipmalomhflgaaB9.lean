import Derived.Test.YtfipmalomhflgaaBDefs
import Derived.Test.YtfipmalomhflgaaPush
import Derived.Test.YtfipmalomhflgaaB6
namespace Go.Proofs.Ytfipmalomhflgaa
set_option linter.unusedSimpArgs false
set_option linter.unusedVariables false
open Go.RowKit

def sameB (z : Int) (x : Int × Int × Int × Int × Int) : Bool := decide (x.1 = z)
def leaveP (z h : Int) (x : Int × Int × Int × Int × Int) : Bool := decide (x.1 = z) && inB h (x.2.2.2.1 + 1) (x.2.2.2.2 - 1)
theorem findId_eq (xs : List (Int × Int × Int × Int × Int)) (z : Int) : findId xs z = xs.findIdx? (sameB z) := rfl
theorem idx_none {xs : List (Int × Int × Int × Int × Int)} {z : Int} (h : findId xs z = none) : idxF (sameB z) xs = -1 := by
  rw [findId_eq] at h
  simp [idxF, h]
theorem idx_some {xs : List (Int × Int × Int × Int × Int)} {z : Int} {k : Nat} (h : findId xs z = some k) : idxF (sameB z) xs = k := by
  rw [findId_eq] at h
  simp [idxF, h]
theorem findId_lt {xs : List (Int × Int × Int × Int × Int)} {z : Int} {k : Nat} (h : findId xs z = some k) : k < xs.length := by
  unfold findId at h
  rw [List.findIdx?_eq_some_iff_getElem] at h
  exact h.1
theorem berV_mono {q : Int} {xs : List (Int × Int × Int × Int × Int)} (hv : berV q xs = true) : ∀ (j k : Nat) (_ : j < k) (hk : k < xs.length), xs[j].1 < xs[k].1
  | j, k + 1, hj, hk => by
    have h1 := berV_lt hv k hk
    by_cases he : j = k
    · subst he; exact h1
    · have := berV_mono hv j k (by omega) (by omega)
      omega
theorem leave_hit {q : Int} {xs : List (Int × Int × Int × Int × Int)} (hv : berV q xs = true) {z h : Int} {k : Nat} (hk : k < xs.length) (hp : leaveP z h xs[k] = true) : leaveL xs z h = some (xs.set k (endAt xs[k] h)) := by
  simp only [leaveP, Bool.and_eq_true, decide_eq_true_eq] at hp
  have h2 := inB_bd hp.2
  have hf : findId xs z = some k := by
    unfold findId
    rw [List.findIdx?_eq_some_iff_getElem]
    refine ⟨hk, by simp [hp.1], fun j hj => ?_⟩
    have := berV_mono hv j k hj hk
    simp
    omega
  unfold leaveL
  rw [hf]
  simp only [List.getElem?_eq_getElem hk]
  rw [if_pos (by omega)]
theorem leave_none {q : Int} {xs : List (Int × Int × Int × Int × Int)} (hv : berV q xs = true) {z h : Int} (hn : xs.any (leaveP z h) = false) : leaveL xs z h = none := by
  cases hf : findId xs z with
  | none => unfold leaveL; rw [hf]
  | some k =>
    have hk := findId_lt hf
    unfold leaveL
    rw [hf]
    simp only [List.getElem?_eq_getElem hk]
    rw [if_neg]
    intro hc
    rw [List.any_eq_false] at hn
    refine hn xs[k] (List.getElem_mem hk) ?_
    unfold findId at hf
    rw [List.findIdx?_eq_some_iff_getElem] at hf
    obtain ⟨_, h1, _⟩ := hf
    simp only [leaveP, inB, Bool.and_eq_true, decide_eq_true_eq]
    exact ⟨by simpa using h1, by omega⟩
theorem leaveV_no {q : Int} {xs : List (Int × Int × Int × Int × Int)} {z h : Int} (hv : berV q xs = false) : leaveV q xs z h = ([], false) := by simp [leaveV, hv]
theorem leaveV_none {q : Int} {xs : List (Int × Int × Int × Int × Int)} {z h : Int} (hl : leaveL xs z h = none) : leaveV q xs z h = ([], false) := by simp [leaveV, hl]
theorem leaveV_some {q : Int} {xs l : List (Int × Int × Int × Int × Int)} {z h : Int} (hv : berV q xs = true) (hl : leaveL xs z h = some l) : leaveV q xs z h = (l, true) := by simp [leaveV, hv, hl]
theorem leaveL_id {xs : List (Int × Int × Int × Int × Int)} {z h : Int} (hf : findId xs z = none) : leaveL xs z h = none := by unfold leaveL; rw [hf]
theorem leaveL_at {xs : List (Int × Int × Int × Int × Int)} {z h : Int} {k : Nat} (hk : k < xs.length) (hf : findId xs z = some k) (hi : inB h (xs[k].2.2.2.1 + 1) (xs[k].2.2.2.2 - 1) = true) : leaveL xs z h = some (xs.set k (endAt xs[k] h)) := by
  have := inB_bd hi
  unfold leaveL
  rw [hf]
  simp only [List.getElem?_eq_getElem hk]
  rw [if_pos (by omega)]
theorem leaveL_out {xs : List (Int × Int × Int × Int × Int)} {z h : Int} {k : Nat} (hk : k < xs.length) (hf : findId xs z = some k) (hi : inB h (xs[k].2.2.2.1 + 1) (xs[k].2.2.2.2 - 1) = false) : leaveL xs z h = none := by
  unfold leaveL
  rw [hf]
  simp only [List.getElem?_eq_getElem hk]
  rw [if_neg]
  intro hc
  simp [inB] at hi
  have := hi hc.1
  omega
theorem leaveV_len (q : Int) (xs : List (Int × Int × Int × Int × Int)) (z h : Int) : (leaveV q xs z h).1.length ≤ 10 := by
  unfold leaveV
  by_cases hv : berV q xs = true
  · rw [if_pos hv]
    have hl := berV_len hv
    unfold leaveL
    split
    · rename_i l hl2
      split at hl2
      · split at hl2
        · split at hl2
          · cases hl2; simpa using hl
          · cases hl2
        · cases hl2
      · cases hl2
    · simp
  · rw [if_neg hv]; simp

theorem info_Ber : (Try.prog.info? 48).map (fun i => (i.zero, i.size, i.bytes)) = some (some (.agg #[.int .i64 0, .int .i64 0, .int .i64 0, .int .i64 0, .int .i64 0]), 5, 40) := by kernel_rfl

end Go.Proofs.Ytfipmalomhflgaa
