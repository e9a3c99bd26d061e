import Derived.Test.YtpaclngjmdacjaaE7m
namespace Go.Proofs.Ytpaclngjmdacjaa
set_option linter.unusedSimpArgs false
set_option linter.unusedVariables false
open Go.RowKit

theorem FreshA.apart {α β : Type} {cf : α → List Value} {cg : β → List Value} {sz sz' : Nat} {T T' : TypeId} {B B' : Nat} {w : World} {A A' : Option Addr} {cap cap' : Nat} {xs : List α} {ys : List β} (h : FreshA cf sz T B w A cap xs) (h' : FreshA cg sz' T' B' w A' cap' ys) (hT : T ≠ T') : ∀ a, A = some a → some a.block ≠ blkO A' := by
  intro a ha e
  rcases h with ⟨rfl, _, _⟩ | ⟨g, rfl, _, h⟩
  · cases ha
  cases ha
  rcases h' with ⟨rfl, _, _⟩ | ⟨k, rfl, _, h'⟩
  · cases e
  simp only [blkO, Option.map_some, Option.some.injEq] at e
  subst e
  obtain ⟨_, e1, _⟩ := h
  obtain ⟨_, e2, _⟩ := h'
  rw [e1] at e2
  simp only [Option.some.injEq, Obj.cells.injEq] at e2
  exact hT e2.2.1
set_option maxHeartbeats 2000000 in
theorem c_laws_markPumpTask (l u v : Int) (B : Nat) (A : Option Addr) (fs : List Int) (capf : Nat) (B2 : Nat) (A2 : Option Addr) (ps : List (Int × Int × Int)) (capq : Nat) (k0 : Int) (w : World) (h1 : FreshA cIn 1 3 B w A capf fs) (h2 : FreshA cPu 3 71 B2 w A2 capq ps) (hn : fs.length ≤ 1048576) (hm : ps.length ≤ 1048576) (hk0 : 0 ≤ k0 ∧ k0 ≤ 10000000) :
    Calls Try.prog 30 #[.agg #[.int .i64 l, .int .i64 u, .int .i64 v, .slice A fs.length capf, .slice A2 ps.length capq], .int .i64 k0] w fun e w' => ∃ w1, e = .returned (.int .i64 (k0 + fs.length + 3 * ps.length)) ∧ FreshA cIn 1 3 B w1 A capf (mkIn fs.length k0) ∧ w.grownBy w1 (blkO A) ∧ FreshA cPu 3 71 B2 w' A2 capq (mkPu ps.length (k0 + fs.length)) ∧ w1.grownBy w' (blkO A2) := by
  have hap := FreshA.apart h2 h1 (by decide)
  have hlo := h1.lo
  have hhi := h1.hi
  have hb0 := (Below.refl w.heap.size w).alloc (Nat.le_refl _) (.cells #[.int .i64 l, .int .i64 u, .int .i64 v, .slice A fs.length capf, .slice A2 ps.length capq] 31)
  have H1 := hid (h1.below hb0)
  have H2 := hid (h2.below hb0)
  clear h1 h2 hb0
  go_enter Try.func30, Try.ntmps30
  go_wp2_with (first | (go_at_call 34; refine (c_laws_markIntS _ _ _ _ _ _ H1.out (by omega) (by omega)).mono ?_; rintro e W1 ⟨rfl, hF1, hg1⟩; have hF2 := FreshA.grown H2.out hg1 hap; have hc1 := cellGrown hg1 hlo hhi; have hz1 := hg1.size; (try simp at hz1)) | (go_at_call 64; refine (c_laws_markPumpS _ _ _ _ _ _ hF2 (by omega) (by omega)).mono ?_; rintro e W2 ⟨rfl, hF3, hg3⟩))
  go_ret
  exact ⟨W1, rfl, hF1, (World.grownBy_alloc _ _ _).trans hg1, hF3, hg3⟩

end Go.Proofs.Ytpaclngjmdacjaa
