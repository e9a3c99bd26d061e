import Derived.Test.YtipipicfkjigdaaB1s
import Derived.Test.YtipipicfkjigdaaM1
import Derived.Deep.RegionHeld3
namespace Go.Proofs.Ytipipicfkjigdaa
set_option linter.unusedSimpArgs false
set_option linter.unusedVariables false
open Go.RowKit

/-- two blocks may have changed, and new ones made -/
structure Cut2 (p q : Nat) (w w' : World) : Prop where
  os : w'.os = w.os
  tape : w'.tape = w.tape
  output : w'.output = w.output
  size : w.heap.size ≤ w'.heap.size
  block : ∀ k, k < w.heap.size → k ≠ p → k ≠ q → w'.heap[k]? = w.heap[k]?
theorem Cut2.of {p q : Nat} {w w' : World} (h : Below w.heap.size w w') : Cut2 p q w w' := ⟨h.os, h.tape, h.output, h.size, fun k hk _ _ => h.block k hk⟩
theorem Cut2.trans {p q : Nat} {a b c : World} (h : Cut2 p q a b) (k : Cut2 p q b c) : Cut2 p q a c := ⟨k.os.trans h.os, k.tape.trans h.tape, k.output.trans h.output, Nat.le_trans h.size k.size, fun i hi h1 h2 => (k.block i (Nat.lt_of_lt_of_le hi h.size) h1 h2).trans (h.block i hi h1 h2)⟩
theorem Cut2.below {p q B : Nat} {w w' : World} (h : Cut2 p q w w') (hB : B ≤ w.heap.size) (hp : B ≤ p) (hq : B ≤ q) : Below B w w' := ⟨h.os, h.tape, h.output, h.size, fun k hk => h.block k (by omega) (by omega) (by omega)⟩
theorem Cut2.put {p q : Nat} {w w' : World} (h : Cut2 p q w w') (u v : Value) : Cut2 p q w ((w'.setCell ⟨p, 0, none⟩ u).setCell ⟨q, 0, none⟩ v) := by
  refine ⟨h.os, h.tape, h.output, ?_, fun k hk h1 h2 => ?_⟩
  · have := h.size
    simpa [World.setCell] using this
  · rw [Below.heap_setCell _ _ _ _ h2, Below.heap_setCell _ _ _ _ h1]
    exact h.block k hk h1 h2
theorem Cut2.drew {p q : Nat} {w w' : World} (h : Cut2 p q w w') : Cut2 p q w w'.drew := ⟨h.os, h.tape, h.output, h.size, h.block⟩
theorem FreshA.cut {α : Type} {cf : α → List Value} {sz B cap p q : Nat} {T : TypeId} {w w' : World} {A : Option Addr} {xs : List α} (h : FreshA cf sz T B w A cap xs) (hc : Cut2 p q w w') (hp : p < B) (hq : q < B) : FreshA cf sz T B w' A cap xs := by
  rcases h with h | ⟨g, hA, hB, ho⟩
  · exact .inl h
  · exact .inr ⟨g, hA, hB, ho.block (hc.block g ho.lt (by omega) (by omega))⟩
def visT (b0 b1 bv bl bs : Nat) : Value := .func (.func 64) #[] #[.pointer (some ⟨b1, 0, none⟩), .pointer (some ⟨b0, 0, none⟩), .pointer (some ⟨bv, 0, none⟩), .pointer (some ⟨bl, 0, none⟩), .pointer (some ⟨bs, 0, none⟩)]
/-- what stands in memory while the assignments are tried: the two lists, the function, the least ticks, the best assignment -/
structure VSt (A : Option Addr) (ts : List TugT) (capt : Nat) (B : Option Addr) (js : List JobT) (capj : Nat) (W0 : World) (b0 b1 bs bl bv : Nat) (w : World) (s : List Int × Int) : Prop where
  c0 : w.cell? ⟨b0, 0, none⟩ = some (.slice A ts.length capt)
  c1 : w.cell? ⟨b1, 0, none⟩ = some (.slice B js.length capj)
  cv : w.cell? ⟨bv, 0, none⟩ = some (visT b0 b1 bv bl bs)
  cl : w.cell? ⟨bl, 0, none⟩ = some (.int .i64 s.2)
  zl : w.frozen? ⟨bl, 0, none⟩ = false
  cs : ∃ Ab cb, w.cell? ⟨bs, 0, none⟩ = some (.slice Ab s.1.length cb) ∧ (0 ≤ s.2 → FreshA cIn 1 3 (bv + 1) w Ab cb s.1)
  zs : w.frozen? ⟨bs, 0, none⟩ = false
  lt : bv < w.heap.size
  bel : Below W0.heap.size W0 w
section
variable {A : Option Addr} {ts : List TugT} {capt : Nat} {B : Option Addr} {js : List JobT} {capj : Nat} {W0 : World} {b0 b1 bs bl bv : Nat} {w w' : World} {s : List Int × Int}
theorem VSt.below (hs : VSt A ts capt B js capj W0 b0 b1 bs bl bv w s) (ho : W0.heap.size ≤ b0 ∧ b0 < b1 ∧ b1 < bs ∧ bs < bl ∧ bl < bv) (hb : Below w.heap.size w w') : VSt A ts capt B js capj W0 b0 b1 bs bl bv w' s := by
  have hlt := hs.lt
  have hc : ∀ b o, b < w.heap.size → w'.cell? ⟨b, o, none⟩ = w.cell? ⟨b, o, none⟩ := fun b o hbb => hb.cell (p := ⟨b, o, none⟩) hbb
  have hz : ∀ b o, b < w.heap.size → w'.frozen? ⟨b, o, none⟩ = w.frozen? ⟨b, o, none⟩ := fun b o hbb => hb.frozen (p := ⟨b, o, none⟩) hbb
  obtain ⟨Ab, cb, e1, e2⟩ := hs.cs
  exact ⟨by rw [hc _ _ (by omega)]; exact hs.c0, by rw [hc _ _ (by omega)]; exact hs.c1, by rw [hc _ _ (by omega)]; exact hs.cv, by rw [hc _ _ (by omega)]; exact hs.cl, by rw [hz _ _ (by omega)]; exact hs.zl, ⟨Ab, cb, by rw [hc _ _ (by omega)]; exact e1, fun e => (e2 e).below hb⟩, by rw [hz _ _ (by omega)]; exact hs.zs, Nat.lt_of_lt_of_le hlt hb.size, hs.bel.trans (hb.mono hs.bel.size)⟩
theorem VSt.put (hs : VSt A ts capt B js capj W0 b0 b1 bs bl bv w s) (ho : W0.heap.size ≤ b0 ∧ b0 < b1 ∧ b1 < bs ∧ bs < bl ∧ bl < bv) {Ab : Option Addr} {cb : Nat} {p : List Int} {c : Int} (hF : FreshA cIn 1 3 (bv + 1) w Ab cb p) : VSt A ts capt B js capj W0 b0 b1 bs bl bv ((w.setCell ⟨bs, 0, none⟩ (.slice Ab p.length cb)).setCell ⟨bl, 0, none⟩ (.int .i64 c)) (p, c) := by
  have hlt := hs.lt
  obtain ⟨Ax, cx, e1, e2⟩ := hs.cs
  have hk : ∀ g, g ≠ bs → g ≠ bl → ((w.setCell ⟨bs, 0, none⟩ (.slice Ab p.length cb)).setCell ⟨bl, 0, none⟩ (.int .i64 c)).heap[g]? = w.heap[g]? := fun g h1 h2 => by
    rw [Below.heap_setCell _ _ _ _ h2, Below.heap_setCell _ _ _ _ h1]
  have hc : ∀ g o, g ≠ bs → g ≠ bl → ((w.setCell ⟨bs, 0, none⟩ (.slice Ab p.length cb)).setCell ⟨bl, 0, none⟩ (.int .i64 c)).cell? ⟨g, o, none⟩ = w.cell? ⟨g, o, none⟩ := fun g o h1 h2 => World.cell?_of_block (a := ⟨g, o, none⟩) (hk g h1 h2)
  refine ⟨by rw [hc _ _ (by omega) (by omega)]; exact hs.c0, by rw [hc _ _ (by omega) (by omega)]; exact hs.c1, by rw [hc _ _ (by omega) (by omega)]; exact hs.cv, ?_, ?_, ⟨Ab, cb, ?_, fun _ => ?_⟩, ?_, ?_, ?_⟩
  · rw [cellSet, if_pos ⟨rfl, rfl⟩, cellSet, if_neg (by omega), hs.cl]
    rfl
  · have h2 := hs.zl
    simpa [go_sem] using h2
  · rw [cellSet, if_neg (by omega), cellSet, if_pos ⟨rfl, rfl⟩, e1]
    rfl
  · exact (hF.set_low (p := ⟨bs, 0, none⟩) (by show bs < bv + 1; omega) _).set_low (p := ⟨bl, 0, none⟩) (by show bl < bv + 1; omega) _
  · have h2 := hs.zs
    simpa [go_sem] using h2
  · simpa [World.setCell] using hlt
  · exact Below.setCell (Below.setCell hs.bel (by show W0.heap.size ≤ bs; omega) _) (by show W0.heap.size ≤ bl; omega) _
theorem VSt.drew (hs : VSt A ts capt B js capj W0 b0 b1 bs bl bv w s) (ho : W0.heap.size ≤ b0 ∧ b0 < b1 ∧ b1 < bs ∧ bs < bl ∧ bl < bv) : VSt A ts capt B js capj W0 b0 b1 bs bl bv w.drew s := hs.below ho (Below.drew (Below.refl _ _))
end

end Go.Proofs.Ytipipicfkjigdaa
