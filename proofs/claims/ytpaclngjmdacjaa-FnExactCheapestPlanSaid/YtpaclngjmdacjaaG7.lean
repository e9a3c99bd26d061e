import Derived.Test.YtpaclngjmdacjaaG3
import Derived.Test.YtpaclngjmdacjaaG6
import Derived.Test.YtpaclngjmdacjaaE1
import Derived.Test.YtpaclngjmdacjaaE1s
namespace Go.Proofs.Ytpaclngjmdacjaa
set_option linter.unusedSimpArgs false
set_option linter.unusedVariables false
open Go.RowKit

theorem c_spec_l12Best (l h v : Int) (A : Option Addr) (fs : List Int) (capf : Nat) (B : Option Addr) (ps : List (Int × Int × Int)) (capq : Nat) (hf5 : fs.length ≤ 5) (hv : 0 ≤ v ∧ v ≤ 500) (hfl : ∀ k (hk : k < fs.length), -50 ≤ fs[k] ∧ fs[k] ≤ 50) (hpu : ∀ k (hk : k < ps.length), puOk ps[k] = true) (hn2 : ps.length ≤ 2) :
    ∀ (d g : Nat) (pl : List Int) (capp G : Nat) (w : World) (hx : Rds cIn 1 w A fs) (hn : fs.length ≤ 9223372036854775807) (hy : Rds cPu 3 w B ps) (hm : ps.length ≤ 9223372036854775807) (hg : FreshA cIn 1 3 G w (some ⟨g, 0, none⟩) capp pl) (hG : G ≤ w.heap.size) (hpl : pl.length + d = fs.length) (hbt : ∀ k (hk : k < pl.length), 0 ≤ pl[k] ∧ pl[k] ≤ 3),
      Calls Try.prog 67 #[.agg #[.int .i64 l, .int .i64 h, .int .i64 v, .slice A fs.length capf, .slice B ps.length capq], .slice (some ⟨g, 0, none⟩) pl.length capp] w fun e w' => ∃ A' cap', e = .returned (.tuple #[.slice A' (bestP l h v fs ps d pl).1.length cap', .int .i64 (bestP l h v fs ps d pl).2]) ∧ FreshA cIn 1 3 G w' A' cap' (bestP l h v fs ps d pl).1 ∧ Below w.heap.size w w' := by
  intro d
  induction d with
  | zero => exact fun g pl capp G w hx hn hy hm hg hG hpl hbt => c_spec_l12Best0 l h v A fs capf B ps capq (some ⟨g, 0, none⟩) pl capp G w hx hn hy hm hg hG hf5 hpl hv hfl hpu hn2 hbt
  | succ d ih => exact fun g pl capp G w hx hn hy hm hg hG hpl hbt => c_spec_l12BestS l h v A fs capf B ps capq d hf5 hv hfl hpu hn2 ih g pl capp G w hx hn hy hm hg hG hpl hbt
/-- the cheapest plan, its cost, and whether there is one -/
def cheapV (l h v : Int) (fs : List Int) (ps : List (Int × Int × Int)) : List Int × Int × Bool := if taskB l h v fs ps = true then (if (bestP l h v fs ps fs.length []).2 < 0 then ([], 0, false) else ((bestP l h v fs ps fs.length []).1, (bestP l h v fs ps fs.length []).2, true)) else ([], 0, false)
theorem taskB_facts {l h v : Int} {fs : List Int} {ps : List (Int × Int × Int)} (e : taskB l h v fs ps = true) : (0 ≤ v ∧ v ≤ 500) ∧ ps.length ≤ 2 ∧ fs.length ≤ 5 ∧ (∀ k (hk : k < fs.length), -50 ≤ fs[k] ∧ fs[k] ≤ 50) ∧ (∀ k (hk : k < ps.length), puOk ps[k] = true) := by
  have h2 := headB_bd (taskB_head e)
  exact ⟨by omega, by omega, by omega, taskB_fl e, taskB_pu e⟩
theorem FreshA.newg {α : Type} {cf : α → List Value} {sz : Nat} {T : TypeId} {B g : Nat} {w : World} (hg : w.heap.size = g) (hB : B ≤ g) : FreshA cf sz T B (w.alloc (.cells #[] T)) (some ⟨g, 0, none⟩) 0 ([] : List α) := by
  subst hg
  exact FreshA.new hB
theorem best_len (n : Nat) (bad : List Int → Bool) (cost : List Int → Int) (d : Nat) : ∀ p, ((Cheap.best n bad cost d p).2 < 0 ∧ (Cheap.best n bad cost d p).1 = []) ∨ (Cheap.best n bad cost d p).1.length = p.length + d := by
  induction d with
  | zero =>
    intro p
    show ((Cheap.leaf bad cost p).2 < 0 ∧ (Cheap.leaf bad cost p).1 = []) ∨ (Cheap.leaf bad cost p).1.length = p.length + 0
    unfold Cheap.leaf
    by_cases e : bad p = true
    · rw [if_pos e]; exact .inl ⟨by decide, rfl⟩
    · rw [if_neg e]; exact .inr rfl
  | succ d ih =>
    intro p
    rw [Cheap.best]
    by_cases e : bad p = true
    · rw [if_pos e]; exact .inl ⟨by decide, rfl⟩
    · rw [if_neg e]
      have key : ∀ (l : List Nat) (s : List Int × Int), ((s.2 < 0 ∧ s.1 = []) ∨ s.1.length = p.length + (d + 1)) → (((l.foldl (fun s (x : Nat) => Cheap.upd s (Cheap.best n bad cost d (p ++ [(x : Int)]))) s).2 < 0 ∧ (l.foldl (fun s (x : Nat) => Cheap.upd s (Cheap.best n bad cost d (p ++ [(x : Int)]))) s).1 = []) ∨ (l.foldl (fun s (x : Nat) => Cheap.upd s (Cheap.best n bad cost d (p ++ [(x : Int)]))) s).1.length = p.length + (d + 1)) := by
        intro l
        induction l with
        | nil => intro s h; exact h
        | cons x l ih2 =>
          intro s h
          rw [List.foldl_cons]
          refine ih2 _ (upd_len h ?_)
          have := ih (p ++ [(x : Int)])
          rw [List.length_append, List.length_singleton] at this
          rcases this with h1 | h1
          · exact .inl h1
          · exact .inr (by omega)
      exact key _ _ (.inl ⟨by decide, rfl⟩)
theorem cheapV_len (l h v : Int) (fs : List Int) (ps : List (Int × Int × Int)) : (cheapV l h v fs ps).1.length ≤ 5 := by
  unfold cheapV
  by_cases e : taskB l h v fs ps = true
  · rw [if_pos e]
    split
    · simp
    · have h2 := headB_bd (taskB_head e)
      rcases best_len (topN ps.length) (badP l h v fs ps) (fun p => payTo p ps p.length) fs.length [] with h1 | h1
      · show (Cheap.best _ _ _ _ _).1.length ≤ 5
        rw [h1.2]; simp
      · show (Cheap.best _ _ _ _ _).1.length ≤ 5
        rw [h1]
        simp
        omega
  · rw [if_neg e]; simp

end Go.Proofs.Ytpaclngjmdacjaa
