import Derived.Test.YtpaclngjmdacjaaE10
import Derived.Test.YtpaclngjmdacjaaE0
import Derived.Test.YtpaclngjmdacjaaE10i
namespace Go.Proofs.Ytpaclngjmdacjaa
set_option linter.unusedSimpArgs false
set_option linter.unusedVariables false
open Go.RowKit

namespace Cheap

/-- the better one of what is held and what is offered -/
def upd (s r : List Int × Int) : List Int × Int :=
  if 0 ≤ r.2 ∧ (s.2 < 0 ∨ r.2 < s.2) then r else s

def leaf (bad : List Int → Bool) (cost : List Int → Int) (p : List Int) : List Int × Int :=
  if bad p = true then ([], -1) else (p, cost p)

/-- what the program does below a plan with `d` hours left -/
def visit (n : Nat) (bad : List Int → Bool) (cost : List Int → Int) :
    Nat → List Int → List Int × Int → List Int × Int
  | 0, p, s => upd s (leaf bad cost p)
  | d + 1, p, s => (List.range n).foldl (fun s (x : Nat) => visit n bad cost d (p ++ [(x : Int)]) s) s

/-- what the reference returns for a plan with `d` hours left -/
def best (n : Nat) (bad : List Int → Bool) (cost : List Int → Int) :
    Nat → List Int → List Int × Int
  | 0, p => leaf bad cost p
  | d + 1, p => if bad p = true then ([], -1) else
      (List.range n).foldl (fun s (x : Nat) => upd s (best n bad cost d (p ++ [(x : Int)]))) ([], -1)

theorem upd_none (s : List Int × Int) : upd s ([], -1) = s := by
  unfold upd
  simp

theorem upd_assoc (s a b : List Int × Int) : upd (upd s a) b = upd s (upd a b) := by
  unfold upd
  by_cases h1 : 0 ≤ a.2 ∧ (s.2 < 0 ∨ a.2 < s.2)
  · by_cases h2 : 0 ≤ b.2 ∧ (a.2 < 0 ∨ b.2 < a.2)
    · have h3 : 0 ≤ b.2 ∧ (s.2 < 0 ∨ b.2 < s.2) := by omega
      simp only [if_pos h1, if_pos h2, if_pos h3]
    · simp only [if_pos h1, if_neg h2]
  · by_cases h2 : 0 ≤ b.2 ∧ (a.2 < 0 ∨ b.2 < a.2)
    · simp only [if_neg h1, if_pos h2]
    · have h3 : ¬ (0 ≤ b.2 ∧ (s.2 < 0 ∨ b.2 < s.2)) := by omega
      simp only [if_neg h1, if_neg h2, if_neg h3]

theorem fold_upd (f : Nat → List Int × Int) (l : List Nat) (s : List Int × Int) :
    l.foldl (fun s x => upd s (f x)) s = upd s (l.foldl (fun s x => upd s (f x)) ([], -1)) := by
  induction l generalizing s with
  | nil => simp only [List.foldl_nil, upd_none]
  | cons x l ih =>
    simp only [List.foldl_cons]
    rw [ih (upd s (f x)), ih (upd ([], -1) (f x)), upd_assoc s]
    generalize l.foldl (fun s x => upd s (f x)) ([], -1) = R
    rw [upd_assoc ([], -1) (f x) R, ← upd_assoc s ([], -1), upd_none]

theorem visit_best (n : Nat) (bad : List Int → Bool) (cost : List Int → Int)
    (hb : ∀ p x, bad p = true → bad (p ++ [x]) = true) (d : Nat) :
    ∀ p s, visit n bad cost d p s = upd s (best n bad cost d p) ∧
      (bad p = true → best n bad cost d p = ([], -1)) := by
  induction d with
  | zero =>
    intro p s
    refine ⟨rfl, ?_⟩
    intro h
    simp only [best, leaf, if_pos h]
  | succ d ih =>
    intro p s
    have hf : ∀ (l : List Nat) s, l.foldl (fun s (x : Nat) => visit n bad cost d (p ++ [(x : Int)]) s) s
        = l.foldl (fun s (x : Nat) => upd s (best n bad cost d (p ++ [(x : Int)]))) s := by
      intro l
      induction l with
      | nil => intro s; rfl
      | cons x l ih2 =>
        intro s
        simp only [List.foldl_cons]
        rw [(ih (p ++ [(x : Int)]) s).1, ih2]
    refine ⟨?_, ?_⟩
    · by_cases h : bad p = true
      · simp only [visit, best, if_pos h, upd_none]
        rw [hf]
        have : ∀ (l : List Nat) s, l.foldl (fun s (x : Nat) => upd s (best n bad cost d (p ++ [(x : Int)]))) s = s := by
          intro l
          induction l with
          | nil => intro s; rfl
          | cons x l ih2 =>
            intro s
            simp only [List.foldl_cons]
            rw [(ih (p ++ [(x : Int)]) s).2 (hb p _ h), upd_none, ih2]
        exact this _ _
      · simp only [visit, best, if_neg h]
        rw [hf, fold_upd]
    · intro h
      simp only [best, if_pos h]

end Cheap

/-- a plan is unsafe after some hour -/
def badP (l h v : Int) (fs : List Int) (ps : List (Int × Int × Int)) (p : List Int) : Bool := (levsTo v fs p ps p.length).any (outL l h)
section
variable {l h v : Int} {fs : List Int} {ps : List (Int × Int × Int)}
theorem levTo_app (p : List Int) (x : Int) : ∀ k : Nat, k ≤ p.length → levTo v fs (p ++ [x]) ps k = levTo v fs p ps k
  | 0, _ => rfl
  | k + 1, hk => by
    have ih := levTo_app p x k (by omega)
    have e : (p ++ [x])[k]? = p[k]? := List.getElem?_append_left (by omega)
    unfold levTo
    rw [e, ih]
theorem levsTo_app (p : List Int) (x : Int) : levsTo v fs (p ++ [x]) ps p.length = levsTo v fs p ps p.length := by
  unfold levsTo
  apply List.map_congr_left
  intro j hj
  have := List.mem_range.1 hj
  exact levTo_app p x (j + 1) (by omega)
theorem badP_app (p : List Int) (x : Int) (e : badP l h v fs ps p = true) : badP l h v fs ps (p ++ [x]) = true := by
  unfold badP at *
  rw [List.length_append, List.length_singleton, levsTo_succ, levsTo_app, List.any_append, e]
  rfl
theorem badP_idx (p : List Int) : (0 ≤ idxF (outL l h) (levsTo v fs p ps p.length)) ↔ badP l h v fs ps p = true := idxF_any _ _
end
/-- how many numbers of pumps there are -/
def topN (n : Nat) : Nat := (topB n + 1).toNat
theorem topN_cast (n : Nat) : ((topN n : Nat) : Int) = topB n + 1 := by
  have := topB_bd n
  unfold topN
  omega
/-- the reference's best plan from a plan on -/
def bestP (l h v : Int) (fs : List Int) (ps : List (Int × Int × Int)) (d : Nat) (p : List Int) : List Int × Int := Cheap.best (topN ps.length) (badP l h v fs ps) (fun p => payTo p ps p.length) d p
/-- its loop: the first k numbers tried -/
def bestTo (l h v : Int) (fs : List Int) (ps : List (Int × Int × Int)) (d : Nat) (p : List Int) (k : Nat) : List Int × Int := (List.range k).foldl (fun s (x : Nat) => Cheap.upd s (bestP l h v fs ps d (p ++ [(x : Int)]))) ([], -1)
def visitP (l h v : Int) (fs : List Int) (ps : List (Int × Int × Int)) (d : Nat) (p : List Int) (s : List Int × Int) : List Int × Int := Cheap.visit (topN ps.length) (badP l h v fs ps) (fun p => payTo p ps p.length) d p s
def visitTo (l h v : Int) (fs : List Int) (ps : List (Int × Int × Int)) (d : Nat) (p : List Int) (s : List Int × Int) (k : Nat) : List Int × Int := (List.range k).foldl (fun s (x : Nat) => visitP l h v fs ps d (p ++ [(x : Int)]) s) s
section
variable {l h v : Int} {fs : List Int} {ps : List (Int × Int × Int)}
theorem bestTo_succ (d : Nat) (p : List Int) (k : Nat) : bestTo l h v fs ps d p (k + 1) = Cheap.upd (bestTo l h v fs ps d p k) (bestP l h v fs ps d (p ++ [(k : Int)])) := by
  unfold bestTo
  rw [List.range_succ, List.foldl_append]; rfl
theorem visitTo_succ (d : Nat) (p : List Int) (s : List Int × Int) (k : Nat) : visitTo l h v fs ps d p s (k + 1) = visitP l h v fs ps d (p ++ [(k : Int)]) (visitTo l h v fs ps d p s k) := by
  unfold visitTo
  rw [List.range_succ, List.foldl_append]; rfl
theorem bestP_bad (d : Nat) (p : List Int) (e : badP l h v fs ps p = true) : bestP l h v fs ps d p = ([], -1) :=
  (Cheap.visit_best _ _ _ (fun p x => badP_app p x) d p ([], -1)).2 e
theorem bestP_leaf (p : List Int) (e : badP l h v fs ps p = false) : bestP l h v fs ps 0 p = (p, payTo p ps p.length) := by
  unfold bestP Cheap.best Cheap.leaf
  rw [if_neg (by simp [e])]
theorem bestP_go (d : Nat) (p : List Int) (e : badP l h v fs ps p = false) : bestP l h v fs ps (d + 1) p = bestTo l h v fs ps d p (topN ps.length) := by
  unfold bestP
  rw [Cheap.best, if_neg (by simp [e])]
  rfl
theorem visitP_go (d : Nat) (p : List Int) (s : List Int × Int) : visitP l h v fs ps (d + 1) p s = visitTo l h v fs ps d p s (topN ps.length) := rfl
theorem visitP_leaf (p : List Int) (s : List Int × Int) (hc : 0 ≤ payTo p ps p.length) : visitP l h v fs ps 0 p s = if badP l h v fs ps p = false ∧ (s.2 < 0 ∨ payTo p ps p.length < s.2) then (p, payTo p ps p.length) else s := by
  show Cheap.upd s (Cheap.leaf _ _ p) = _
  unfold Cheap.leaf Cheap.upd
  by_cases e : badP l h v fs ps p = true
  · simp [e]
  · have e2 : badP l h v fs ps p = false := Bool.eq_false_iff.2 e
    simp [e2, hc]
theorem visit_is (d : Nat) : visitP l h v fs ps d [] ([], -1) = Cheap.upd ([], -1) (bestP l h v fs ps d []) :=
  (Cheap.visit_best _ _ _ (fun p x => badP_app p x) d [] ([], -1)).1
theorem upd_len {s r : List Int × Int} {n : Nat} (h1 : s.2 < 0 ∧ s.1 = [] ∨ s.1.length = n) (h2 : r.2 < 0 ∧ r.1 = [] ∨ r.1.length = n) : (Cheap.upd s r).2 < 0 ∧ (Cheap.upd s r).1 = [] ∨ (Cheap.upd s r).1.length = n := by
  unfold Cheap.upd
  split
  · exact h2
  · exact h1
end

end Go.Proofs.Ytpaclngjmdacjaa
