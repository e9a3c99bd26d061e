import Derived.Test.YtipipicfkjigdaaT0
namespace Go.Proofs.Ytipipicfkjigdaa
set_option linter.unusedSimpArgs false
set_option linter.unusedVariables false
open Go.RowKit

def updI (s r : List Int × Int) : List Int × Int := if 0 ≤ r.2 ∧ (s.2 < 0 ∨ r.2 < s.2) then r else s
theorem updI_none (s : List Int × Int) : updI s ([], -1) = s := by
  unfold updI
  simp
theorem updI_take {s r : List Int × Int} (h1 : 0 ≤ r.2) (h2 : s.2 < 0 ∨ r.2 < s.2) : updI s r = r := by
  unfold updI
  rw [if_pos ⟨h1, h2⟩]
theorem updI_keep {s r : List Int × Int} (h : ¬ (0 ≤ r.2 ∧ (s.2 < 0 ∨ r.2 < s.2))) : updI s r = s := by
  unfold updI
  rw [if_neg h]
theorem updI_assoc (s a b : List Int × Int) : updI (updI s a) b = updI s (updI a b) := by
  unfold updI
  by_cases h1 : 0 ≤ a.2 ∧ (s.2 < 0 ∨ a.2 < s.2)
  · by_cases h2 : 0 ≤ b.2 ∧ (a.2 < 0 ∨ b.2 < a.2)
    · have h3 : 0 ≤ b.2 ∧ (s.2 < 0 ∨ b.2 < s.2) := by omega
      simp only [if_pos h1, if_pos h2, if_pos h3]
    · simp only [if_pos h1, if_neg h2]
  · by_cases h2 : 0 ≤ b.2 ∧ (a.2 < 0 ∨ b.2 < a.2)
    · simp only [if_neg h1, if_pos h2]
    · have h3 : ¬ (0 ≤ b.2 ∧ (s.2 < 0 ∨ b.2 < s.2)) := by omega
      simp only [if_neg h1, if_neg h2, if_neg h3]
theorem foldl_updI {α : Type} (f : α → List Int × Int) (l : List α) (s : List Int × Int) : l.foldl (fun s x => updI s (f x)) s = updI s (l.foldl (fun s x => updI s (f x)) ([], -1)) := by
  induction l generalizing s with
  | nil => simp only [List.foldl_nil, updI_none]
  | cons x l ih =>
    simp only [List.foldl_cons]
    rw [ih (updI s (f x)), ih (updI ([], -1) (f x)), updI_assoc s]
    generalize l.foldl (fun s x => updI s (f x)) ([], -1) = R
    rw [updI_assoc ([], -1) (f x) R, ← updI_assoc s ([], -1), updI_none]
/-- the Ids of the tugs that are strong enough for the next job -/
def nextT (ts : List TugT) (js : List JobT) (p : List Int) : List Int := strongL ts (js.getD p.length j0).2.2.2.1
def vis2 (ts : List TugT) (js : List JobT) : Nat → List Int → List Int × Int → List Int × Int
  | 0, p, s => updI s (p, waitK ts js p p.length)
  | d + 1, p, s => (nextT ts js p).foldl (fun s x => vis2 ts js d (p ++ [x]) s) s
def bst2 (ts : List TugT) (js : List JobT) : Nat → List Int → List Int × Int
  | 0, p => (p, waitK ts js p p.length)
  | d + 1, p => (nextT ts js p).foldl (fun s x => updI s (bst2 ts js d (p ++ [x]))) ([], -1)
def vis2To (ts : List TugT) (js : List JobT) (d : Nat) (p : List Int) (s : List Int × Int) (k : Nat) : List Int × Int := (strongL (ts.take k) (js.getD p.length j0).2.2.2.1).foldl (fun s x => vis2 ts js d (p ++ [x]) s) s
def bst2To (ts : List TugT) (js : List JobT) (d : Nat) (p : List Int) (k : Nat) : List Int × Int := (strongL (ts.take k) (js.getD p.length j0).2.2.2.1).foldl (fun s x => updI s (bst2 ts js d (p ++ [x]))) ([], -1)
section
variable {ts : List TugT} {js : List JobT}
theorem vis2_is : ∀ (d : Nat) (p : List Int) (s : List Int × Int), vis2 ts js d p s = updI s (bst2 ts js d p)
  | 0, _, _ => rfl
  | d + 1, p, s => by
    show (nextT ts js p).foldl (fun s x => vis2 ts js d (p ++ [x]) s) s = updI s ((nextT ts js p).foldl (fun s x => updI s (bst2 ts js d (p ++ [x]))) ([], -1))
    rw [← foldl_updI]
    generalize nextT ts js p = l
    induction l generalizing s with
    | nil => rfl
    | cons x l ih => rw [List.foldl_cons, List.foldl_cons, ih, vis2_is d]
theorem vis2To_all (d : Nat) (p : List Int) (s : List Int × Int) : vis2To ts js d p s ts.length = vis2 ts js (d + 1) p s := by
  unfold vis2To
  rw [List.take_length]; rfl
theorem bst2To_all (d : Nat) (p : List Int) : bst2To ts js d p ts.length = bst2 ts js (d + 1) p := by
  unfold bst2To
  rw [List.take_length]; rfl
theorem vis2To_go (d : Nat) (p : List Int) (s : List Int × Int) (k : Nat) (hk : k < ts.length) (h : (js.getD p.length j0).2.2.2.1 ≤ ts[k].2.2) : vis2To ts js d p s (k + 1) = vis2 ts js d (p ++ [ts[k].1]) (vis2To ts js d p s k) := by
  unfold vis2To
  rw [strongL_snoc ts _ k hk, if_pos h, List.foldl_append]; rfl
theorem vis2To_skip (d : Nat) (p : List Int) (s : List Int × Int) (k : Nat) (hk : k < ts.length) (h : ¬ (js.getD p.length j0).2.2.2.1 ≤ ts[k].2.2) : vis2To ts js d p s (k + 1) = vis2To ts js d p s k := by
  unfold vis2To
  rw [strongL_snoc ts _ k hk, if_neg h, List.append_nil]
theorem bst2To_go (d : Nat) (p : List Int) (k : Nat) (hk : k < ts.length) (h : (js.getD p.length j0).2.2.2.1 ≤ ts[k].2.2) : bst2To ts js d p (k + 1) = updI (bst2To ts js d p k) (bst2 ts js d (p ++ [ts[k].1])) := by
  unfold bst2To
  rw [strongL_snoc ts _ k hk, if_pos h, List.foldl_append]; rfl
theorem bst2To_skip (d : Nat) (p : List Int) (k : Nat) (hk : k < ts.length) (h : ¬ (js.getD p.length j0).2.2.2.1 ≤ ts[k].2.2) : bst2To ts js d p (k + 1) = bst2To ts js d p k := by
  unfold bst2To
  rw [strongL_snoc ts _ k hk, if_neg h, List.append_nil]
theorem updI_len {s r : List Int × Int} {n : Nat} (h1 : s.2 < 0 ∧ s.1 = [] ∨ s.1.length = n) (h2 : r.2 < 0 ∧ r.1 = [] ∨ r.1.length = n) : (updI s r).2 < 0 ∧ (updI s r).1 = [] ∨ (updI s r).1.length = n := by
  unfold updI
  split
  · exact h2
  · exact h1
theorem bst2_len (d : Nat) : ∀ p, ((bst2 ts js d p).2 < 0 ∧ (bst2 ts js d p).1 = []) ∨ (bst2 ts js d p).1.length = p.length + d := by
  induction d with
  | zero => exact fun p => .inr rfl
  | succ d ih =>
    intro p
    have key : ∀ (l : List Int) (s : List Int × Int), ((s.2 < 0 ∧ s.1 = []) ∨ s.1.length = p.length + (d + 1)) → (((l.foldl (fun s x => updI s (bst2 ts js d (p ++ [x]))) s).2 < 0 ∧ (l.foldl (fun s x => updI s (bst2 ts js d (p ++ [x]))) s).1 = []) ∨ (l.foldl (fun s x => updI s (bst2 ts js d (p ++ [x]))) s).1.length = p.length + (d + 1)) := by
      intro l
      induction l with
      | nil => intro s h; exact h
      | cons x l ih2 =>
        intro s h
        rw [List.foldl_cons]
        refine ih2 _ (updI_len h ?_)
        have := ih (p ++ [x])
        rw [List.length_append, List.length_singleton] at this
        rcases this with h1 | h1
        · exact .inl h1
        · exact .inr (by omega)
    exact key _ _ (.inl ⟨by show (-1 : Int) < 0; decide, rfl⟩)
end
/-- the best assignment, its ticks, and whether there is one -/
def bestTV (ts : List TugT) (js : List JobT) : List Int × Int × Bool := if vB tugOk tugLt 4 ts = true ∧ vB jobOk jobLt 5 js = true then (if (bst2 ts js js.length []).2 < 0 then ([], 0, false) else ((bst2 ts js js.length []).1, (bst2 ts js js.length []).2, true)) else ([], 0, false)
theorem bestTV_len (ts : List TugT) (js : List JobT) : (bestTV ts js).1.length ≤ 5 := by
  unfold bestTV
  by_cases e : vB tugOk tugLt 4 ts = true ∧ vB jobOk jobLt 5 js = true
  · rw [if_pos e]
    have h2 := vB_len e.2
    split
    · simp
    · rcases bst2_len (ts := ts) (js := js) js.length [] with h1 | h1
      · show (bst2 _ _ _ _).1.length ≤ 5
        rw [h1.2]; simp
      · show (bst2 _ _ _ _).1.length ≤ 5
        rw [h1]
        simp
        omega
  · rw [if_neg e]; simp

end Go.Proofs.Ytipipicfkjigdaa
