import Derived.Test.YtipipicfkjigdaaM0
import Derived.Test.YtipipicfkjigdaaSl
import Derived.Test.YtipipicfkjigdaaGDefs
namespace Go.Proofs.Ytipipicfkjigdaa
set_option linter.unusedSimpArgs false
set_option linter.unusedVariables false
open Go.RowKit

theorem FreshA.mk0 {α : Type} {cf : α → List Value} {sz : Nat} {T : TypeId} {B : Nat} {w : World} {g : Nat} (h : w.heap[g]? = some (.cells #[] T (0, 0))) (hB : B ≤ g) : FreshA cf sz T B w (some ⟨g, 0, none⟩) 0 ([] : List α) :=
  .inr ⟨g, rfl, hB, #[], h, by simp, Nat.le_refl _, by unfold maxLen; omega, fun i x h => by simp at h⟩

def RowOk (b1 b6 : Nat) (A : Option Addr) : Prop := ∀ a, A = some a → a.block = b1 ∨ b6 < a.block
/-- what stands in memory while the jobs are gone through: the day's struct, its row of ends, the four maps -/
structure TowSt (w : World) (b0 b1 b2 b3 b4 b5 b6 : Nat) (wr : World) (en : List Int) (wt : Int) (f1 f2 f3 f4 : Int → Int) (N : Nat) : Prop where
  e0 : ∃ A cp, wr.cell? ⟨b4, 0, none⟩ = some (.slice A en.length cp) ∧ FreshA cIn 1 3 w.heap.size wr A cp en ∧ RowOk b1 b6 A
  c1 : wr.cell? ⟨b4, 1, none⟩ = some (.int .i64 wt)
  c2 : wr.cell? ⟨b4, 2, none⟩ = some (.map (some b2))
  c3 : wr.cell? ⟨b4, 3, none⟩ = some (.map (some b3))
  z4 : ∀ o, wr.frozen? ⟨b4, o, none⟩ = false
  q0 : wr.cell? ⟨b0, 0, none⟩ = some (.slice none 0 0)
  q1 : wr.cell? ⟨b0, 1, none⟩ = some (.int .i64 0)
  q2 : wr.cell? ⟨b0, 2, none⟩ = some (.map none)
  q3 : wr.cell? ⟨b0, 3, none⟩ = some (.map none)
  z0 : ∀ o, wr.frozen? ⟨b0, o, none⟩ = false
  m1 : MapI wr b2 N f1
  m2 : MapI wr b3 N f2
  m3 : MapI wr b5 N f3
  m4 : MapI wr b6 N f4
  sz : b6 < wr.heap.size
  bel : Below w.heap.size w wr
theorem MapI.mono {w : World} {b n n' : Nat} {f : Int → Int} (h : MapI w b n f) (hn : n ≤ n') : MapI w b n' f := by
  obtain ⟨D, h1, h2⟩ := h
  exact ⟨D, h1.mono hn, h2⟩
section
variable {w wr w' : World} {b0 b1 b2 b3 b4 b5 b6 : Nat} {en : List Int} {wt : Int} {f1 f2 f3 f4 : Int → Int} {N : Nat}
theorem TowSt.below (h : TowSt w b0 b1 b2 b3 b4 b5 b6 wr en wt f1 f2 f3 f4 N) (ho : w.heap.size ≤ b0 ∧ b0 < b1 ∧ b1 < b2 ∧ b2 < b3 ∧ b3 < b4 ∧ b4 < b5 ∧ b5 < b6) (hb : Below wr.heap.size wr w') : TowSt w b0 b1 b2 b3 b4 b5 b6 w' en wt f1 f2 f3 f4 N := by
  have hs := h.sz
  have hc : ∀ b o, b < wr.heap.size → w'.cell? ⟨b, o, none⟩ = wr.cell? ⟨b, o, none⟩ := fun b o hbb => hb.cell (p := ⟨b, o, none⟩) hbb
  have hz : ∀ b o, b < wr.heap.size → w'.frozen? ⟨b, o, none⟩ = wr.frozen? ⟨b, o, none⟩ := fun b o hbb => hb.frozen (p := ⟨b, o, none⟩) hbb
  obtain ⟨A, cp, e1, e2, e3⟩ := h.e0
  exact ⟨⟨A, cp, by rw [hc _ _ (by omega)]; exact e1, e2.below hb, e3⟩, by rw [hc _ _ (by omega)]; exact h.c1, by rw [hc _ _ (by omega)]; exact h.c2, by rw [hc _ _ (by omega)]; exact h.c3, fun o => by rw [hz _ _ (by omega)]; exact h.z4 o, by rw [hc _ _ (by omega)]; exact h.q0, by rw [hc _ _ (by omega)]; exact h.q1, by rw [hc _ _ (by omega)]; exact h.q2, by rw [hc _ _ (by omega)]; exact h.q3, fun o => by rw [hz _ _ (by omega)]; exact h.z0 o, h.m1.below hb, h.m2.below hb, h.m3.below hb, h.m4.below hb, Nat.lt_of_lt_of_le hs hb.size, h.bel.trans (hb.mono h.bel.size)⟩
theorem TowSt.put1 {g : Int → Int} (h : TowSt w b0 b1 b2 b3 b4 b5 b6 wr en wt f1 f2 f3 f4 N) (ho : w.heap.size ≤ b0 ∧ b0 < b1 ∧ b1 < b2 ∧ b2 < b3 ∧ b3 < b4 ∧ b4 < b5 ∧ b5 < b6) (hg : wr.grownBy w' (some b2)) (hm : MapI w' b2 (N + 1) g) : TowSt w b0 b1 b2 b3 b4 b5 b6 w' en wt g f2 f3 f4 (N + 1) := by
  have hs := h.sz
  have hk : ∀ k, k < wr.heap.size → k ≠ b2 → w'.heap[k]? = wr.heap[k]? := fun k h1 h2 => hg.block k h1 (fun e => h2 (Option.some.inj e))
  have hc : ∀ b o, b < wr.heap.size ∧ b ≠ b2 → w'.cell? ⟨b, o, none⟩ = wr.cell? ⟨b, o, none⟩ := fun b o hbb => World.cell?_of_block (a := ⟨b, o, none⟩) (hk b hbb.1 hbb.2)
  have hz : ∀ b o, b < wr.heap.size ∧ b ≠ b2 → w'.frozen? ⟨b, o, none⟩ = wr.frozen? ⟨b, o, none⟩ := fun b o hbb => World.frozen?_of_block (a := ⟨b, o, none⟩) (hk b hbb.1 hbb.2)
  obtain ⟨A, cp, e1, e2, e3⟩ := h.e0
  refine ⟨⟨A, cp, by rw [hc _ _ (by omega)]; exact e1, e2.grown hg (fun a ha e => ?_), e3⟩, by rw [hc _ _ (by omega)]; exact h.c1, by rw [hc _ _ (by omega)]; exact h.c2, by rw [hc _ _ (by omega)]; exact h.c3, fun o => by rw [hz _ _ (by omega)]; exact h.z4 o, by rw [hc _ _ (by omega)]; exact h.q0, by rw [hc _ _ (by omega)]; exact h.q1, by rw [hc _ _ (by omega)]; exact h.q2, by rw [hc _ _ (by omega)]; exact h.q3, fun o => by rw [hz _ _ (by omega)]; exact h.z0 o, hm, (h.m2.kept hg (by simp; omega)).mono (Nat.le_succ _), (h.m3.kept hg (by simp; omega)).mono (Nat.le_succ _), (h.m4.kept hg (by simp; omega)).mono (Nat.le_succ _), Nat.lt_of_lt_of_le hs hg.size, h.bel.grown hg h.bel.size (fun k e => ?_)⟩
  · have := e3 a ha
    simp only [Option.some.injEq] at e
    omega
  · simp only [Option.some.injEq] at e
    omega
theorem TowSt.put2 {g : Int → Int} (h : TowSt w b0 b1 b2 b3 b4 b5 b6 wr en wt f1 f2 f3 f4 N) (ho : w.heap.size ≤ b0 ∧ b0 < b1 ∧ b1 < b2 ∧ b2 < b3 ∧ b3 < b4 ∧ b4 < b5 ∧ b5 < b6) (hg : wr.grownBy w' (some b3)) (hm : MapI w' b3 (N + 1) g) : TowSt w b0 b1 b2 b3 b4 b5 b6 w' en wt f1 g f3 f4 (N + 1) := by
  have hs := h.sz
  have hk : ∀ k, k < wr.heap.size → k ≠ b3 → w'.heap[k]? = wr.heap[k]? := fun k h1 h2 => hg.block k h1 (fun e => h2 (Option.some.inj e))
  have hc : ∀ b o, b < wr.heap.size ∧ b ≠ b3 → w'.cell? ⟨b, o, none⟩ = wr.cell? ⟨b, o, none⟩ := fun b o hbb => World.cell?_of_block (a := ⟨b, o, none⟩) (hk b hbb.1 hbb.2)
  have hz : ∀ b o, b < wr.heap.size ∧ b ≠ b3 → w'.frozen? ⟨b, o, none⟩ = wr.frozen? ⟨b, o, none⟩ := fun b o hbb => World.frozen?_of_block (a := ⟨b, o, none⟩) (hk b hbb.1 hbb.2)
  obtain ⟨A, cp, e1, e2, e3⟩ := h.e0
  refine ⟨⟨A, cp, by rw [hc _ _ (by omega)]; exact e1, e2.grown hg (fun a ha e => ?_), e3⟩, by rw [hc _ _ (by omega)]; exact h.c1, by rw [hc _ _ (by omega)]; exact h.c2, by rw [hc _ _ (by omega)]; exact h.c3, fun o => by rw [hz _ _ (by omega)]; exact h.z4 o, by rw [hc _ _ (by omega)]; exact h.q0, by rw [hc _ _ (by omega)]; exact h.q1, by rw [hc _ _ (by omega)]; exact h.q2, by rw [hc _ _ (by omega)]; exact h.q3, fun o => by rw [hz _ _ (by omega)]; exact h.z0 o, (h.m1.kept hg (by simp; omega)).mono (Nat.le_succ _), hm, (h.m3.kept hg (by simp; omega)).mono (Nat.le_succ _), (h.m4.kept hg (by simp; omega)).mono (Nat.le_succ _), Nat.lt_of_lt_of_le hs hg.size, h.bel.grown hg h.bel.size (fun k e => ?_)⟩
  · have := e3 a ha
    simp only [Option.some.injEq] at e
    omega
  · simp only [Option.some.injEq] at e
    omega
theorem TowSt.put3 {g : Int → Int} (h : TowSt w b0 b1 b2 b3 b4 b5 b6 wr en wt f1 f2 f3 f4 N) (ho : w.heap.size ≤ b0 ∧ b0 < b1 ∧ b1 < b2 ∧ b2 < b3 ∧ b3 < b4 ∧ b4 < b5 ∧ b5 < b6) (hg : wr.grownBy w' (some b5)) (hm : MapI w' b5 (N + 1) g) : TowSt w b0 b1 b2 b3 b4 b5 b6 w' en wt f1 f2 g f4 (N + 1) := by
  have hs := h.sz
  have hk : ∀ k, k < wr.heap.size → k ≠ b5 → w'.heap[k]? = wr.heap[k]? := fun k h1 h2 => hg.block k h1 (fun e => h2 (Option.some.inj e))
  have hc : ∀ b o, b < wr.heap.size ∧ b ≠ b5 → w'.cell? ⟨b, o, none⟩ = wr.cell? ⟨b, o, none⟩ := fun b o hbb => World.cell?_of_block (a := ⟨b, o, none⟩) (hk b hbb.1 hbb.2)
  have hz : ∀ b o, b < wr.heap.size ∧ b ≠ b5 → w'.frozen? ⟨b, o, none⟩ = wr.frozen? ⟨b, o, none⟩ := fun b o hbb => World.frozen?_of_block (a := ⟨b, o, none⟩) (hk b hbb.1 hbb.2)
  obtain ⟨A, cp, e1, e2, e3⟩ := h.e0
  refine ⟨⟨A, cp, by rw [hc _ _ (by omega)]; exact e1, e2.grown hg (fun a ha e => ?_), e3⟩, by rw [hc _ _ (by omega)]; exact h.c1, by rw [hc _ _ (by omega)]; exact h.c2, by rw [hc _ _ (by omega)]; exact h.c3, fun o => by rw [hz _ _ (by omega)]; exact h.z4 o, by rw [hc _ _ (by omega)]; exact h.q0, by rw [hc _ _ (by omega)]; exact h.q1, by rw [hc _ _ (by omega)]; exact h.q2, by rw [hc _ _ (by omega)]; exact h.q3, fun o => by rw [hz _ _ (by omega)]; exact h.z0 o, (h.m1.kept hg (by simp; omega)).mono (Nat.le_succ _), (h.m2.kept hg (by simp; omega)).mono (Nat.le_succ _), hm, (h.m4.kept hg (by simp; omega)).mono (Nat.le_succ _), Nat.lt_of_lt_of_le hs hg.size, h.bel.grown hg h.bel.size (fun k e => ?_)⟩
  · have := e3 a ha
    simp only [Option.some.injEq] at e
    omega
  · simp only [Option.some.injEq] at e
    omega
theorem TowSt.put4 {g : Int → Int} (h : TowSt w b0 b1 b2 b3 b4 b5 b6 wr en wt f1 f2 f3 f4 N) (ho : w.heap.size ≤ b0 ∧ b0 < b1 ∧ b1 < b2 ∧ b2 < b3 ∧ b3 < b4 ∧ b4 < b5 ∧ b5 < b6) (hg : wr.grownBy w' (some b6)) (hm : MapI w' b6 (N + 1) g) : TowSt w b0 b1 b2 b3 b4 b5 b6 w' en wt f1 f2 f3 g (N + 1) := by
  have hs := h.sz
  have hk : ∀ k, k < wr.heap.size → k ≠ b6 → w'.heap[k]? = wr.heap[k]? := fun k h1 h2 => hg.block k h1 (fun e => h2 (Option.some.inj e))
  have hc : ∀ b o, b < wr.heap.size ∧ b ≠ b6 → w'.cell? ⟨b, o, none⟩ = wr.cell? ⟨b, o, none⟩ := fun b o hbb => World.cell?_of_block (a := ⟨b, o, none⟩) (hk b hbb.1 hbb.2)
  have hz : ∀ b o, b < wr.heap.size ∧ b ≠ b6 → w'.frozen? ⟨b, o, none⟩ = wr.frozen? ⟨b, o, none⟩ := fun b o hbb => World.frozen?_of_block (a := ⟨b, o, none⟩) (hk b hbb.1 hbb.2)
  obtain ⟨A, cp, e1, e2, e3⟩ := h.e0
  refine ⟨⟨A, cp, by rw [hc _ _ (by omega)]; exact e1, e2.grown hg (fun a ha e => ?_), e3⟩, by rw [hc _ _ (by omega)]; exact h.c1, by rw [hc _ _ (by omega)]; exact h.c2, by rw [hc _ _ (by omega)]; exact h.c3, fun o => by rw [hz _ _ (by omega)]; exact h.z4 o, by rw [hc _ _ (by omega)]; exact h.q0, by rw [hc _ _ (by omega)]; exact h.q1, by rw [hc _ _ (by omega)]; exact h.q2, by rw [hc _ _ (by omega)]; exact h.q3, fun o => by rw [hz _ _ (by omega)]; exact h.z0 o, (h.m1.kept hg (by simp; omega)).mono (Nat.le_succ _), (h.m2.kept hg (by simp; omega)).mono (Nat.le_succ _), (h.m3.kept hg (by simp; omega)).mono (Nat.le_succ _), hm, Nat.lt_of_lt_of_le hs hg.size, h.bel.grown hg h.bel.size (fun k e => ?_)⟩
  · have := e3 a ha
    simp only [Option.some.injEq] at e
    omega
  · simp only [Option.some.injEq] at e
    omega
theorem TowSt.putw (h : TowSt w b0 b1 b2 b3 b4 b5 b6 wr en wt f1 f2 f3 f4 N) (ho : w.heap.size ≤ b0 ∧ b0 < b1 ∧ b1 < b2 ∧ b2 < b3 ∧ b3 < b4 ∧ b4 < b5 ∧ b5 < b6) (u : Int) : TowSt w b0 b1 b2 b3 b4 b5 b6 (wr.setCell ⟨b4, 1, none⟩ (.int .i64 u)) en u f1 f2 f3 f4 N := by
  have hs := h.sz
  have hc : ∀ b o, b ≠ b4 ∨ o ≠ 1 → (wr.setCell ⟨b4, 1, none⟩ (.int .i64 u)).cell? ⟨b, o, none⟩ = wr.cell? ⟨b, o, none⟩ := fun b o hbb => by rw [cellSet, if_neg (by omega)]
  obtain ⟨A, cp, e1, e2, e3⟩ := h.e0
  refine ⟨⟨A, cp, by rw [hc _ _ (by omega)]; exact e1, ?_, e3⟩, ?_, by rw [hc _ _ (by omega)]; exact h.c2, by rw [hc _ _ (by omega)]; exact h.c3, fun o => ?_, by rw [hc _ _ (by omega)]; exact h.q0, by rw [hc _ _ (by omega)]; exact h.q1, by rw [hc _ _ (by omega)]; exact h.q2, by rw [hc _ _ (by omega)]; exact h.q3, fun o => ?_, h.m1.set (by omega), h.m2.set (by omega), h.m3.set (by omega), h.m4.set (by omega), by simpa [World.setCell] using hs, h.bel.setCell (by show w.heap.size ≤ b4; omega) _⟩
  · rcases e2 with e2 | ⟨g, hA, hB, hO⟩
    · exact .inl e2
    · have := e3 _ hA
      exact .inr ⟨g, hA, hB, hO.block (Below.heap_setCell _ _ _ _ (by show g ≠ b4; simp only at this; omega))⟩
  · rw [cellSet, if_pos ⟨rfl, rfl⟩, h.c1]; rfl
  · have := h.z4 o; simpa [go_sem] using this
  · have := h.z0 o; simpa [go_sem] using this
theorem TowSt.push (h : TowSt w b0 b1 b2 b3 b4 b5 b6 wr en wt f1 f2 f3 f4 N) (ho : w.heap.size ≤ b0 ∧ b0 < b1 ∧ b1 < b2 ∧ b2 < b3 ∧ b3 < b4 ∧ b4 < b5 ∧ b5 < b6) {A A3 : Option Addr} {cp cp3 : Nat} {x : Int} (e1 : wr.cell? ⟨b4, 0, none⟩ = some (.slice A en.length cp)) (e3 : RowOk b1 b6 A) (hF : FreshA cIn 1 3 w.heap.size w' A3 cp3 (en ++ [x])) (hg : wr.grownBy w' (blkO A)) (hat : blkO A3 = blkO A ∨ blkO A3 = some wr.heap.size) : TowSt w b0 b1 b2 b3 b4 b5 b6 (w'.setCell ⟨b4, 0, none⟩ (.slice A3 (en.length + 1) cp3)) (en ++ [x]) wt f1 f2 f3 f4 N := by
  have hs := h.sz
  have hne : ∀ k, k ≤ b6 → k ≠ b1 → some k ≠ blkO A := fun k h1 h2 e => by
    cases hA : A with
    | none => rw [hA] at e; cases e
    | some a =>
      rw [hA] at e
      simp only [blkO, Option.map_some, Option.some.injEq] at e
      have := e3 a hA
      omega
  have e4 : RowOk b1 b6 A3 := fun a ha => by
    rcases hat with e | e
    · rw [ha] at e
      cases hA : A with
      | none => rw [hA] at e; cases e
      | some a0 =>
        rw [hA] at e
        simp only [blkO, Option.map_some, Option.some.injEq] at e
        rw [e]
        exact e3 a0 hA
    · rw [ha] at e
      simp only [blkO, Option.map_some, Option.some.injEq] at e
      right
      omega
  have hk : ∀ k, k ≤ b6 → k ≠ b1 → k ≠ b4 → (w'.setCell ⟨b4, 0, none⟩ (.slice A3 (en.length + 1) cp3)).heap[k]? = wr.heap[k]? := fun k h1 h2 h3 => by
    rw [Below.heap_setCell _ _ _ _ h3]
    exact hg.block k (by omega) (hne k h1 h2)
  have hc : ∀ b o, b ≤ b6 ∧ b ≠ b1 ∧ b ≠ b4 → (w'.setCell ⟨b4, 0, none⟩ (.slice A3 (en.length + 1) cp3)).cell? ⟨b, o, none⟩ = wr.cell? ⟨b, o, none⟩ := fun b o hbb => World.cell?_of_block (a := ⟨b, o, none⟩) (hk b hbb.1 hbb.2.1 hbb.2.2)
  have hz : ∀ b o, b ≤ b6 ∧ b ≠ b1 ∧ b ≠ b4 → (w'.setCell ⟨b4, 0, none⟩ (.slice A3 (en.length + 1) cp3)).frozen? ⟨b, o, none⟩ = wr.frozen? ⟨b, o, none⟩ := fun b o hbb => World.frozen?_of_block (a := ⟨b, o, none⟩) (hk b hbb.1 hbb.2.1 hbb.2.2)
  have h4 : w'.heap[b4]? = wr.heap[b4]? := hg.block b4 (by omega) (hne b4 (by omega) (by omega))
  have h4c : ∀ o, w'.cell? ⟨b4, o, none⟩ = wr.cell? ⟨b4, o, none⟩ := fun o => World.cell?_of_block (a := ⟨b4, o, none⟩) h4
  have h4z : ∀ o, w'.frozen? ⟨b4, o, none⟩ = wr.frozen? ⟨b4, o, none⟩ := fun o => World.frozen?_of_block (a := ⟨b4, o, none⟩) h4
  have hl : (en ++ [x]).length = en.length + 1 := by simp
  refine ⟨⟨A3, cp3, ?_, ?_, e4⟩, ?_, ?_, ?_, fun o => ?_, by rw [hc _ _ (by omega)]; exact h.q0, by rw [hc _ _ (by omega)]; exact h.q1, by rw [hc _ _ (by omega)]; exact h.q2, by rw [hc _ _ (by omega)]; exact h.q3, fun o => by rw [hz _ _ (by omega)]; exact h.z0 o, h.m1.block (hk _ (by omega) (by omega) (by omega)), h.m2.block (hk _ (by omega) (by omega) (by omega)), h.m3.block (hk _ (by omega) (by omega) (by omega)), h.m4.block (hk _ (by omega) (by omega) (by omega)), ?_, ?_⟩
  · rw [cellSet, if_pos ⟨rfl, rfl⟩, h4c, e1, hl]; rfl
  · rcases hF with e2 | ⟨g, hA, hB, hO⟩
    · exact .inl e2
    · have := e4 _ hA
      exact .inr ⟨g, hA, hB, hO.block (Below.heap_setCell _ _ _ _ (by show g ≠ b4; simp only at this; omega))⟩
  · rw [cellSet, if_neg (by omega), h4c]; exact h.c1
  · rw [cellSet, if_neg (by omega), h4c]; exact h.c2
  · rw [cellSet, if_neg (by omega), h4c]; exact h.c3
  · have := h.z4 o; rw [← h4z] at this; simpa [go_sem] using this
  · have := hg.size
    simp only [World.setCell, Array.size_modify]
    omega
  · refine (h.bel.grown hg h.bel.size (fun k e => ?_)).setCell (by show w.heap.size ≤ b4; omega) _
    cases hA : A with
    | none => rw [hA] at e; cases e
    | some a =>
      rw [hA] at e
      simp only [blkO, Option.map_some, Option.some.injEq] at e
      have := e3 a hA
      omega
end

theorem al_sz (w : World) (o : Obj) : (w.alloc o).heap.size = w.heap.size + 1 := by simp
theorem al_at (w : World) (o : Obj) (g : Nat) : (w.alloc o).heap[g]? = if g = w.heap.size then some o else w.heap[g]? := by
  rcases Nat.lt_trichotomy g w.heap.size with h | h | h
  · rw [if_neg (by omega), Below.heap_alloc _ _ _ h]
  · subst h
    rw [if_pos rfl]
    unfold World.alloc; simp
  · rw [if_neg (by omega), Array.getElem?_eq_none (by rw [al_sz]; omega), Array.getElem?_eq_none (by omega)]
theorem MapI.madeg {w : World} {g : Nat} (hg : w.heap.size = g) : MapI (w.alloc (.map #[] 0)) g 0 (fun _ => 0) := by
  subst hg
  exact MapI.made
theorem towSt_init (w : World) : TowSt w w.heap.size (w.heap.size + 1) (w.heap.size + 1 + 1) (w.heap.size + 1 + 1 + 1) (w.heap.size + 1 + 1 + 1 + 1) (w.heap.size + 1 + 1 + 1 + 1 + 1) (w.heap.size + 1 + 1 + 1 + 1 + 1 + 1)
    (((((((w.alloc (.cells #[.slice none 0 0, .int .i64 0, .map none, .map none] 76)).alloc (.cells #[] 3)).alloc (.map #[] 0)).alloc (.map #[] 0)).alloc (.cells #[.slice (some ⟨w.heap.size + 1, 0, none⟩) 0 0, .int .i64 0, .map (some (w.heap.size + 1 + 1)), .map (some (w.heap.size + 1 + 1 + 1))] 76)).alloc (.map #[] 0)).alloc (.map #[] 0))
    [] 0 (fun _ => 0) (fun _ => 0) (fun _ => 0) (fun _ => 0) 0 := by
  refine ⟨⟨some ⟨w.heap.size + 1, 0, none⟩, 0, ?_, FreshA.mk0 ?_ (by omega), fun a ha => ?_⟩, ?_, ?_, ?_, fun o => ?_, ?_, ?_, ?_, ?_, fun o => ?_, ?_, ?_, ?_, ?_, ?_, ?_⟩
  · simp only [World.cell?, al_at, al_sz]; simp [Nat.add_assoc]
  · simp only [World.cell?, al_at, al_sz]; simp [Nat.add_assoc]
  · cases ha; exact .inl rfl
  · simp only [World.cell?, al_at, al_sz]; simp [Nat.add_assoc]
  · simp only [World.cell?, al_at, al_sz]; simp [Nat.add_assoc]
  · simp only [World.cell?, al_at, al_sz]; simp [Nat.add_assoc]
  · simp only [World.frozen?, al_at, al_sz]; simp [Nat.add_assoc]
  · simp only [World.cell?, al_at, al_sz]; simp [Nat.add_assoc]
  · simp only [World.cell?, al_at, al_sz]; simp [Nat.add_assoc]
  · simp only [World.cell?, al_at, al_sz]; simp [Nat.add_assoc]
  · simp only [World.cell?, al_at, al_sz]; simp [Nat.add_assoc]
  · simp only [World.frozen?, al_at, al_sz]; simp [Nat.add_assoc]
  · exact ((((MapI.madeg (by simp)).alloc _).alloc _).alloc _).alloc _
  · exact (((MapI.madeg (by simp)).alloc _).alloc _).alloc _
  · exact (MapI.madeg (by simp)).alloc _
  · exact MapI.madeg (by simp)
  · simp
  · exact ((((((((Below.refl _ _).alloc (by first | omega | (simp; done) | (simp; omega)) _).alloc (by first | omega | (simp; done) | (simp; omega)) _).alloc (by first | omega | (simp; done) | (simp; omega)) _).alloc (by first | omega | (simp; done) | (simp; omega)) _).alloc (by first | omega | (simp; done) | (simp; omega)) _).alloc (by first | omega | (simp; done) | (simp; omega)) _).alloc (by first | omega | (simp; done) | (simp; omega)) _)

end Go.Proofs.Ytipipicfkjigdaa
