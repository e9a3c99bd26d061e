import Derived.Test.YtipipicfkjigdaaT0
namespace Go.Proofs.Ytipipicfkjigdaa
set_option linter.unusedSimpArgs false
set_option linter.unusedVariables false
open Go.RowKit

theorem tplan_facts {ts : List TugT} {js : List JobT} {who : List Int} (h : tplanB ts js who = true) : vB tugOk tugLt 4 ts = true ∧ vB jobOk jobLt 5 js = true ∧ who.length = js.length ∧ (∀ k (hk : k < who.length), 0 ≤ tix ts who[k]) ∧ (∀ k (hk : k < who.length), 0 ≤ who[k] ∧ who[k] ≤ 99) := by
  obtain ⟨h1, h2, h3, h4⟩ := tplanB_parts h
  have hok : ∀ k (hk : k < who.length), 0 ≤ tix ts who[k] := fun k hk => by
    have := whoOk_ix (whoB_at h4 hk)
    have e : who.getD k 0 = who[k] := by rw [List.getD_eq_getElem?_getD, List.getElem?_eq_getElem hk]; rfl
    rwa [e] at this
  refine ⟨h1, h2, h3, hok, fun k hk => ?_⟩
  obtain ⟨q, hq, _, e⟩ := tix_hit (hok k hk)
  have := tugOk_bd (vB_at h1 q hq)
  omega
def mxT (xs : List Int) : Nat → Int
  | 0 => 0
  | k + 1 => max (mxT xs k) (xs.getD k 0)
theorem mxT_ends {ts : List TugT} {js : List JobT} {who : List Int} (n : Nat) : ∀ k : Nat, k ≤ n → mxT (endsK ts js who n) k = maxK ts js who k
  | 0, _ => rfl
  | k + 1, hk => by
    unfold mxT maxK
    rw [mxT_ends n k (by omega)]
    congr 1
    rw [List.getD_eq_getElem?_getD]
    unfold endsK
    rw [List.getElem?_map, List.getElem?_range (by omega)]
    rfl
theorem mxT_nn (xs : List Int) : ∀ k, 0 ≤ mxT xs k
  | 0 => by simp [mxT]
  | k + 1 => by
    have := mxT_nn xs k
    unfold mxT
    omega
theorem endsK_nn {ts : List TugT} {js : List JobT} {who : List Int} (ht : vB tugOk tugLt 4 ts = true) (hj : vB jobOk jobLt 5 js = true) (n : Nat) : ∀ k (hk : k < (endsK ts js who n).length), 0 ≤ (endsK ts js who n)[k] := fun k hk => by
  have key : ∀ x ∈ endsK ts js who n, 0 ≤ x := fun x hx => by
    unfold endsK at hx
    rw [List.mem_map] at hx
    obtain ⟨q, _, e⟩ := hx
    have := (endK_bd (who := who) ht hj q).1
    omega
  exact key _ (List.getElem_mem hk)
theorem endsV_len (ts : List TugT) (js : List JobT) (who : List Int) : (endsV ts js who).1.length ≤ 5 := by
  unfold endsV
  by_cases e : tplanB ts js who = true
  · rw [if_pos e]
    have h := tplan_facts e
    have h2 := vB_len h.2.1
    rw [endsK_len]
    omega
  · rw [if_neg e]; simp

end Go.Proofs.Ytipipicfkjigdaa
