import Derived.Test.YthlmeofjjmfpnaaIvL
import Derived.Test.YthlmeofjjmfpnaaS9a
import Derived.Test.YthlmeofjjmfpnaaS10a
namespace Go.Proofs.Ythlmeofjjmfpnaa
set_option linter.unusedSimpArgs false
set_option linter.unusedVariables false
open Go.RowKit

theorem whole_le {xs : List (Int × Int)} (h : legsB xs = true) (hl : xs.length ≤ 8) : ∀ k, k < xs.length → (wholeW (xs.take k)).2 ≤ (wholeW (xs.take (k + 1))).2 := by
  intro k hk
  have h1 := wholeW_bdk h hl k (by omega)
  have h2 := legB_bd (legsB_at h k hk)
  rw [wholeW_snoc xs k hk]
  generalize (wholeW (xs.take k)).1 = p at *
  generalize (wholeW (xs.take k)).2 = q at *
  generalize xs[k].1 = l at *
  generalize xs[k].2 = m at *
  simp only [IntWalk.wrap64_in (q + m) (by omega)]
  omega
theorem whole_top {xs : List (Int × Int)} (h : legsB xs = true) (hl : xs.length ≤ 8) : ∀ j k, k + j = xs.length → (wholeW (xs.take k)).2 ≤ (wholeW xs).2
  | 0, k, e => by
    have : k = xs.length := by omega
    subst this
    rw [List.take_length]
    exact Int.le_refl _
  | j + 1, k, e => Int.le_trans (whole_le h hl k (by omega)) (whole_top h hl j (k + 1) (by omega))
theorem along_ok {xs : List (Int × Int)} {s : Int} (hv : voyB xs = true) (h0 : 0 ≤ s) (h1 : s + (wholeW xs).2 ≤ 9999) : alongV s s xs = (alongR s s xs xs.length, true) := by
  have hL := voyB_legs hv
  have hl := voyB_len hv
  have hb := voyB_bd hv
  have hg : ∀ k, k ≤ xs.length → goodI (s + (wholeW (xs.take k)).1) (s + (wholeW (xs.take k)).2) = true := by
    intro k hk
    have h2 := wholeW_bdk hL hl k hk
    have h3 := whole_top hL hl (xs.length - k) k (by omega)
    exact good_mk (by omega)
  unfold alongV
  rw [if_pos]
  refine ⟨good_mk (by omega), hv, ?_⟩
  rw [List.all_eq_true]
  intro x hx
  obtain ⟨i, hi, rfl⟩ := List.mem_map.1 hx
  have hi := List.mem_range.1 hi
  exact hg (i + 1) (by omega)
theorem alongR_at {a b : Int} {xs : List (Int × Int)} (h : 0 < xs.length) : (alongR a b xs xs.length)[xs.length - 1]? = some (a + (wholeW xs).1, b + (wholeW xs).2) := by
  unfold alongR
  rw [List.getElem?_map, List.getElem?_range (by omega)]
  simp only [Option.map_some, alongP]
  rw [show xs.length - 1 + 1 = xs.length by omega, List.take_length]
theorem voy_late {xs : List (Int × Int)} {d s : Int} (h : latestV xs d = (s, true)) (hd : d < 9999) : (0 ≤ s ∧ s ≤ 9999 ∧ 0 ≤ d) ∧ ∃ R S p1 p2 q1 q2 v, alongV s s xs = (R, true) ∧ alongV (s + 1) (s + 1) xs = (S, true) ∧ (R.length ≤ S.length ∧ S.length ≤ R.length ∧ R.length ≤ 8) ∧ (0 < R.length → R[R.length - 1]? = some (p1, p2) ∧ S[R.length - 1]? = some (q1, q2)) ∧ inTimeI p1 p2 d = (2, true) ∧ inTimeI q1 q2 d = (v, true) ∧ v ≠ 2 := by
  unfold latestV at h
  by_cases hc : voyB xs = true ∧ minB d = true ∧ (wholeW xs).2 ≤ d
  rotate_left
  · rw [if_neg hc] at h; simp at h
  rw [if_pos hc] at h
  simp only [Prod.mk.injEq, and_true] at h
  obtain ⟨hv, hm, hw⟩ := hc
  have hb := voyB_bd hv
  have hm' := minB_bd hm
  subst h
  refine ⟨by omega, _, _, d - (wholeW xs).2 + (wholeW xs).1, d - (wholeW xs).2 + (wholeW xs).2, d - (wholeW xs).2 + 1 + (wholeW xs).1, d - (wholeW xs).2 + 1 + (wholeW xs).2, if d - (wholeW xs).2 + 1 + (wholeW xs).1 ≤ d then 1 else 0, along_ok hv (by omega) (by omega), along_ok hv (by omega) (by omega), ?_, ?_, ?_, ?_, ?_⟩
  · have := voyB_len hv
    simp only [alongR_len]
    omega
  · intro hn
    rw [alongR_len] at hn
    simp only [alongR_len]
    exact ⟨alongR_at hn, alongR_at hn⟩
  · unfold inTimeI
    rw [if_pos ⟨good_mk (by omega), hm⟩, if_pos (by omega)]
  · unfold inTimeI
    rw [if_pos ⟨good_mk (by omega), hm⟩, if_neg (by omega)]
    split <;> rfl
  · split <;> omega
theorem narrow_true {a b c d : Int} {xs : List (Int × Int)} {p1 p2 q1 q2 : Int} (h : narrowV a b xs c d = (((p1, p2), (q1, q2)), true)) : commonI p1 p2 a b = ((p1, p2), true) ∧ commonI q1 q2 c d = ((q1, q2), true) ∧ narrowV p1 p2 xs q1 q2 = (((p1, p2), (q1, q2)), true) := by
  unfold narrowV at h
  split at h
  rotate_left
  · simp at h
  rename_i hc
  simp only [Prod.mk.injEq, and_true] at h
  obtain ⟨⟨hp1, hp2⟩, hq1, hq2⟩ := h
  obtain ⟨h1, h2, h3, h4, h5⟩ := hc
  have g1 := goodI_bd h1
  have g3 := goodI_bd h3
  have g4 := goodI_bd h4
  have g5 := goodI_bd h5
  have gw := voyB_bd h2
  rw [hp1, hp2] at h4 g4
  rw [hq1, hq2] at h5 g5
  have e1 : max p1 (max 0 (q1 - (wholeW xs).2)) = p1 := by omega
  have e2 : min p2 (q2 - (wholeW xs).1) = p2 := by omega
  have e3 : max q1 (p1 + (wholeW xs).1) = q1 := by omega
  have e4 : min q2 (p2 + (wholeW xs).2) = q2 := by omega
  refine ⟨?_, ?_, ?_⟩
  · unfold commonI
    rw [if_pos ⟨h4, h1⟩, show max p1 a = p1 by omega, show min p2 b = p2 by omega]
    exact asI_good h4
  · unfold commonI
    rw [if_pos ⟨h5, h3⟩, show max q1 c = q1 by omega, show min q2 d = q2 by omega]
    exact asI_good h5
  · unfold narrowV
    rw [e1, e2, e3, e4, if_pos ⟨h4, h2, h5, h4, h5⟩]
theorem along_good {a b : Int} {xs al : List (Int × Int)} (h : alongV a b xs = (al, true)) : ∀ k (hk : k < al.length), 0 ≤ al[k].1 ∧ al[k].1 ≤ 9999 := by
  unfold alongV at h
  split at h
  · rename_i hc
    simp only [Prod.mk.injEq, and_true] at h
    intro k hk
    have h3 := hc.2.2
    rw [h, List.all_eq_true] at h3
    have := goodI_bd (h3 _ (List.getElem_mem hk))
    omega
  · simp at h

end Go.Proofs.Ythlmeofjjmfpnaa
