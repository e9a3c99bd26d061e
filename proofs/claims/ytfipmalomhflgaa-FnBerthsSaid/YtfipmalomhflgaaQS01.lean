import Derived.Test.YtfipmalomhflgaaProg
import Derived.Test.YtfipmalomhflgaaQS00
import Derived.WalkKit
import Derived.WalkSpells
import Derived.WalkLawsBesides
namespace Go.Proofs.Ytfipmalomhflgaa
set_option linter.unusedSimpArgs false
set_option linter.unusedVariables false
open Go.RowKit

def far (w : World) (b o : Nat) : Option Value := w.cell? ⟨b, o, none⟩
def farz (w : World) (b o : Nat) : Bool := w.frozen? ⟨b, o, none⟩
theorem cellOf {W w1 : World} (hb : Below W.heap.size W w1) : ∀ b o, w1.cell? ⟨b, o, none⟩ = if b < W.heap.size then W.cell? ⟨b, o, none⟩ else far w1 b o := by
  intro b o
  by_cases h : b < W.heap.size
  · rw [if_pos h]; exact hb.cell (p := ⟨b, o, none⟩) h
  · rw [if_neg h]; rfl
theorem frozOf {W w1 : World} (hb : Below W.heap.size W w1) : ∀ b o, w1.frozen? ⟨b, o, none⟩ = if b < W.heap.size then W.frozen? ⟨b, o, none⟩ else farz w1 b o := by
  intro b o
  by_cases h : b < W.heap.size
  · rw [if_pos h]; exact hb.frozen (p := ⟨b, o, none⟩) h
  · rw [if_neg h]; rfl
theorem sizeOf {W w1 : World} (hb : Below W.heap.size W w1) : W.heap.size ≤ w1.heap.size := hb.size
@[go_sem] theorem cellAlloc (w : World) (c : Array Value) (t : TypeId) (n i : Nat) : (w.alloc (.cells c t)).cell? ⟨n, i, none⟩ = if n < w.heap.size then w.cell? ⟨n, i, none⟩ else if n = w.heap.size then c[i]? else far (w.alloc (.cells c t)) n i := by
  by_cases h : n < w.heap.size
  · rw [if_pos h, World.cell?_alloc_past _ _ _ h]
  · rw [if_neg h]
    by_cases h2 : n = w.heap.size
    · rw [if_pos h2, World.cell?_alloc_at _ _ _ _ h2]
    · rw [if_neg h2]; rfl
@[go_sem] theorem frozAlloc (w : World) (c : Array Value) (t : TypeId) (n i : Nat) : (w.alloc (.cells c t)).frozen? ⟨n, i, none⟩ = if n < w.heap.size then w.frozen? ⟨n, i, none⟩ else if n = w.heap.size then false else farz (w.alloc (.cells c t)) n i := by
  by_cases h : n < w.heap.size
  · rw [if_pos h, World.frozen?_alloc_past _ _ _ h]
  · rw [if_neg h]
    by_cases h2 : n = w.heap.size
    · rw [if_pos h2, World.frozen?_alloc_at _ _ _ _ h2]
    · rw [if_neg h2]; rfl
@[go_sem high] theorem run_min2 {P : Program} {w : World} (ts : Array TypeId) (t : TypeId) (k k' : IntKind) (x y : Int) : (Builtin.min_ ts t #[.int k x, .int k' y]).run P w = .ok (.int k (min x y)) w := by
  rw [run_min_int2]
  congr 2
  omega
@[go_sem high] theorem run_max2 {P : Program} {w : World} (ts : Array TypeId) (t : TypeId) (k k' : IntKind) (x y : Int) : (Builtin.max_ ts t #[.int k x, .int k' y]).run P w = .ok (.int k (max x y)) w := by
  rw [run_max_int2]
  congr 2
  omega
@[go_sem high] theorem cellSet (w : World) (b o b' o' : Nat) (v : Value) : (w.setCell ⟨b, o, none⟩ v).cell? ⟨b', o', none⟩ = if b = b' ∧ o = o' then (w.cell? ⟨b', o', none⟩).map (fun _ => v) else w.cell? ⟨b', o', none⟩ := by
  by_cases h : b = b' ∧ o = o'
  · obtain ⟨rfl, rfl⟩ := h
    rw [if_pos ⟨rfl, rfl⟩]
    simp only [World.cell?, World.setCell, Array.getElem?_modify]
    cases hh : w.heap[b]? with
    | none => simp
    | some x =>
      cases x with
      | cells c t f =>
        simp only [if_true, Option.map_some]
        simp [Array.getElem?_setIfInBounds]
        by_cases ho : o < c.size
        · simp [ho]
        · simp [ho]
      | _ => simp
  · rw [if_neg h]
    exact World.cell?_setCell_other _ _ _ _ (by simp only [ne_eq, Addr.mk.injEq, and_true]; exact fun e => h e)
theorem ret_bool {p q : Bool} (h : p = true ↔ q = true) : Ending.returned (.bool p) = .returned (.bool q) := by rw [Bool.eq_iff_iff.2 h]
theorem ret_int {k : IntKind} {a b : Int} (h : a = b) : Ending.returned (.int k a) = .returned (.int k b) := by rw [h]
def Stable (f : Value → World → Prop) : Prop := ∀ v w w', f v w → Below w.heap.size w w' → f v w'
theorem Stable.const (p : Value → Prop) : Stable fun v _ => p v := fun _ _ _ h _ => h
def Fresh (B : Nat) (o : Obj) (v : Value) (w : World) : Prop := ∃ g, v = .pointer (some ⟨g, 0, none⟩) ∧ B ≤ g ∧ w.heap[g]? = some o
theorem Fresh.lt {w : World} {g : Nat} {o : Obj} (h : w.heap[g]? = some o) : g < w.heap.size := by
  rcases Nat.lt_or_ge g w.heap.size with hl | hl
  · exact hl
  · rw [Array.getElem?_eq_none hl] at h; cases h
theorem Fresh.ltv {B : Nat} {o : Obj} {v : Value} {w : World} (h : Fresh B o v w) : blkV v < w.heap.size := by
  obtain ⟨g, rfl, _, h3⟩ := h
  exact Fresh.lt h3
theorem Fresh.cell {w : World} {g : Nat} {c : Array Value} {t : TypeId} (h : w.heap[g]? = some (.cells c t)) (i : Nat) : w.cell? ⟨g, i, none⟩ = c[i]? := by simp [World.cell?, h]
theorem Fresh.froz {w : World} {g : Nat} {c : Array Value} {t : TypeId} (h : w.heap[g]? = some (.cells c t)) (i : Nat) : w.frozen? ⟨g, i, none⟩ = false := by simp [World.frozen?, h]
theorem Fresh.far {w : World} {g : Nat} {c : Array Value} {t : TypeId} (h : w.heap[g]? = some (.cells c t)) (i : Nat) : far w g i = c[i]? := Fresh.cell h i
theorem Fresh.farz {w : World} {g : Nat} {c : Array Value} {t : TypeId} (h : w.heap[g]? = some (.cells c t)) (i : Nat) : farz w g i = false := Fresh.froz h i
theorem Stable.fresh (B : Nat) (o : Obj) : Stable (Fresh B o) := fun _ _ _ h hb => by
  obtain ⟨g, h1, h2, h3⟩ := h
  exact ⟨g, h1, h2, (hb.block g (Fresh.lt h3)).trans h3⟩

end Go.Proofs.Ytfipmalomhflgaa
