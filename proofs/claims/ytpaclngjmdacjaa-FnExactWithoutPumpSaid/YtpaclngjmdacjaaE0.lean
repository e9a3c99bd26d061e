import Derived.Test.YtpaclngjmdacjaaPuDefs
namespace Go.Proofs.Ytpaclngjmdacjaa
set_option linter.unusedSimpArgs false
set_option linter.unusedVariables false
open Go.RowKit

theorem FreshA.emp {α : Type} {cf : α → List Value} {sz : Nat} {T : TypeId} {w w' : World} (hb : Below (w.heap.size + 1) (w.alloc (.cells #[] T)) w') : FreshA cf sz T w.heap.size w' (some ⟨w.heap.size, 0, none⟩) 0 ([] : List α) := by
  refine .inr ⟨w.heap.size, rfl, Nat.le_refl _, #[], ?_, by simp, Nat.le_refl _, by unfold maxLen; omega, fun i x h => by simp at h⟩
  rw [hb.block _ (by omega)]
  exact heap_alloc_new _ _
theorem FreshA.new {α : Type} {cf : α → List Value} {sz : Nat} {T : TypeId} {B : Nat} {w : World} (hB : B ≤ w.heap.size) : FreshA cf sz T B (w.alloc (.cells #[] T)) (some ⟨w.heap.size, 0, none⟩) 0 ([] : List α) :=
  .inr ⟨w.heap.size, rfl, hB, #[], heap_alloc_new _ _, by simp, Nat.le_refl _, by unfold maxLen; omega, fun i x h => by simp at h⟩
theorem FreshA.mk0 {α : Type} {cf : α → List Value} {sz : Nat} {T : TypeId} {B : Nat} {w : World} {g : Nat} (h : w.heap[g]? = some (.cells #[] T (0, 0))) (hB : B ≤ g) : FreshA cf sz T B w (some ⟨g, 0, none⟩) 0 ([] : List α) :=
  .inr ⟨g, rfl, hB, #[], h, by simp, Nat.le_refl _, by unfold maxLen; omega, fun i x h => by simp at h⟩
theorem NeB.mk0 {G g : Nat} (h : g ≠ G) : NeB G (some ⟨g, 0, none⟩) := by
  intro a ha
  cases ha
  exact h
theorem bits_and {x : Int} {q : Nat} (hx : 0 ≤ x ∧ x ≤ 3) (hq : q ≤ 1) : bits BinOp.and IntKind.i64 (x / 2 ^ q) 1 = if bitB x q = true then 1 else 0 := by
  obtain rfl | rfl | rfl | rfl : x = 0 ∨ x = 1 ∨ x = 2 ∨ x = 3 := by omega
  all_goals obtain rfl | rfl : q = 0 ∨ q = 1 := by omega
  all_goals decide
theorem row_a (w : World) (a b d : Obj) (T : TypeId) : ((((w.alloc a).alloc b).alloc (.cells #[] T)).alloc d).drew.heap[w.heap.size + 2]? = some (.cells #[] T) := by
  have e := heap_alloc_new ((w.alloc a).alloc b) (.cells #[] T)
  have hb : Below (((w.alloc a).alloc b).alloc (.cells #[] T)).heap.size (((w.alloc a).alloc b).alloc (.cells #[] T)) ((((w.alloc a).alloc b).alloc (.cells #[] T)).alloc d).drew := ((Below.refl _ _).alloc (Nat.le_refl _) _).drew
  have h2 := hb.block (w.heap.size + 2) (by simp)
  rw [h2]
  simpa using e
theorem row_b (w : World) (a b d : Obj) (T : TypeId) : ((((w.alloc a).alloc b).alloc d).alloc (.cells #[] T)).drew.heap[w.heap.size + 3]? = some (.cells #[] T) := by
  have e := heap_alloc_new (((w.alloc a).alloc b).alloc d) (.cells #[] T)
  have hb : Below ((((w.alloc a).alloc b).alloc d).alloc (.cells #[] T)).heap.size ((((w.alloc a).alloc b).alloc d).alloc (.cells #[] T)) ((((w.alloc a).alloc b).alloc d).alloc (.cells #[] T)).drew := (Below.refl _ _).drew
  have h2 := hb.block (w.heap.size + 3) (by simp)
  rw [h2]
  simpa using e
theorem topB_bd (n : Nat) : 0 ≤ topB n ∧ topB n ≤ 3 := by
  unfold topB
  split
  · omega
  · split <;> omega
theorem topB_shl {n : Nat} (h : n ≤ 2) : IntKind.i64.wrap (2 ^ n) = topB n + 1 := by
  obtain rfl | rfl | rfl : n = 0 ∨ n = 1 ∨ n = 2 := by omega
  all_goals decide
def waterV (l h v : Int) (fs : List Int) (ps : List (Int × Int × Int)) (pl : List Int) : Int × Bool := if planB l h v fs ps pl = true then (pumpTo pl ps pl.length, true) else (0, false)
def payV (l h v : Int) (fs : List Int) (ps : List (Int × Int × Int)) (pl : List Int) : Int × Bool := if planB l h v fs ps pl = true then (payTo pl ps pl.length, true) else (0, false)
def startV (l h v : Int) (fs : List Int) (ps : List (Int × Int × Int)) (pl : List Int) : Int × Bool := if planB l h v fs ps pl = true then (startsTo pl ps pl.length, true) else (0, false)
def levV (l h v : Int) (fs : List Int) (ps : List (Int × Int × Int)) (pl : List Int) : List Int × Bool := if planB l h v fs ps pl = true then (levsTo v fs pl ps pl.length, true) else ([], false)
theorem planB_facts {l h v : Int} {fs : List Int} {ps : List (Int × Int × Int)} {pl : List Int} (e : planB l h v fs ps pl = true) : (0 ≤ v ∧ v ≤ 500) ∧ ps.length ≤ 2 ∧ pl.length ≤ fs.length ∧ pl.length ≤ 5 ∧ (∀ k (hk : k < fs.length), -50 ≤ fs[k] ∧ fs[k] ≤ 50) ∧ (∀ k (hk : k < ps.length), puOk ps[k] = true) ∧ (∀ k (hk : k < pl.length), 0 ≤ pl[k] ∧ pl[k] ≤ 3) := by
  have h1 := planB_task e
  have h2 := headB_bd (taskB_head h1)
  have h3 := planB_len e
  exact ⟨by omega, by omega, by omega, by omega, taskB_fl h1, taskB_pu h1, fun k hk => bitsOk_bd (planB_bits e k hk)⟩
theorem levV_len (l h v : Int) (fs : List Int) (ps : List (Int × Int × Int)) (pl : List Int) : (levV l h v fs ps pl).1.length ≤ 5 := by
  unfold levV
  by_cases e : planB l h v fs ps pl = true
  · rw [if_pos e]
    have := planB_facts e
    rw [levsTo_len]
    omega
  · rw [if_neg e]; simp
theorem bef_case {pl : List Int} (k : Nat) (hk : k ≤ pl.length) : ((k : Int) - 1 = -1 ∧ befB pl k = 0) ∨ (∃ j : Nat, (k : Int) - 1 = (j : Int) ∧ pl[j]? = some (befB pl k)) := by
  cases k with
  | zero => left; exact ⟨by omega, rfl⟩
  | succ k => right; exact ⟨k, by omega, by rw [befB_succ (by omega), List.getElem?_eq_getElem]⟩
theorem FreshA.emp2 {α : Type} {cf : α → List Value} {sz : Nat} {T : TypeId} {w w' : World} {c : Array Value} {t : TypeId} (hb : Below (w.heap.size + 2) ((w.alloc (.cells c t)).alloc (.cells #[] T)) w') : FreshA cf sz T (w.heap.size + 1) w' (some ⟨w.heap.size + 1, 0, none⟩) 0 ([] : List α) := by
  have h := FreshA.emp (cf := cf) (sz := sz) (w := w.alloc (.cells c t)) (w' := w') (T := T) (by simpa using hb)
  simpa using h

end Go.Proofs.Ytpaclngjmdacjaa
