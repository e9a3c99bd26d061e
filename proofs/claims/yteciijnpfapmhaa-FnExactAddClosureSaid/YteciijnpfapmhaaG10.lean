import Derived.Test.YteciijnpfapmhaaG9m
import Derived.Test.YteciijnpfapmhaaG9
import Derived.Test.YteciijnpfapmhaaAdL
namespace Go.Proofs.Yteciijnpfapmhaa
set_option linter.unusedSimpArgs false
set_option linter.unusedVariables false
open Go.RowKit

set_option maxHeartbeats 2000000 in
theorem c_laws_heldBridge (d : Int) (A : Option Addr) (n cap : Nat) (k0 : Int) (w : World) (h1 : Rds cIv 2 w A (mkIv n k0)) (hn : n ≤ 10000000) (hk0 : 0 ≤ k0 ∧ k0 ≤ 100000000) :
    Calls Try.prog 37 #[.agg #[.int .i64 d, .slice A n cap], .int .i64 k0] w fun e w' => e = .returned (.int .i64 (k0 + 2 * n)) ∧ Below w.heap.size w w' := by
  go_enter Try.func37, Try.ntmps37
  go_wp2_with (fail)
  refine (c_laws_heldIntervalS _ _ _ _ _ (Rds.below h1 (by (repeat' (first | exact Below.refl _ _ | assumption | refine Below.setCell ?_ ?_ _ | refine Below.drew ?_ | refine Below.alloc ?_ ?_ _ | refine Below.trans ?_ (Below.mono (by assumption) ?_) | (simp; done) | (simp; omega) | omega)))) (by omega) (by omega)).mono ?_
  rintro e W1 ⟨rfl, hb1⟩
  have hc1 := cellOf hb1; have hf1 := frozOf hb1; have hz1 := sizeOf hb1; (try simp at hz1)
  go_wp2_with (fail)
  go_ret
  exact ⟨rfl, by (repeat' (first | exact Below.refl _ _ | assumption | refine Below.setCell ?_ ?_ _ | refine Below.drew ?_ | refine Below.alloc ?_ ?_ _ | refine Below.trans ?_ (Below.mono (by assumption) ?_) | (simp; done) | (simp; omega) | omega))⟩
def FreshTb (B : Nat) (d : Int) (L : List (Int × Int)) (n : Nat) (b : Bool) (v : Value) (w : World) : Prop := ∃ A cap, v = .tuple #[.agg #[.int .i64 d, .slice A n cap], .bool b] ∧ FreshA cIv 2 50 B w A cap L
theorem FreshTb.stable {B : Nat} {d : Int} {L : List (Int × Int)} {n : Nat} {b : Bool} : Stable (FreshTb B d L n b) := fun _ _ _ h hb => by
  obtain ⟨A, cap, h1, h2⟩ := h
  exact ⟨A, cap, h1, h2.below hb⟩
def FreshAb (B : Nat) (d : Int) (L : List (Int × Int)) (n : Nat) (v : Value) (w : World) : Prop := ∃ A cap, v = .agg #[.int .i64 d, .slice A n cap] ∧ FreshA cIv 2 50 B w A cap L
theorem FreshAb.stable {B : Nat} {d : Int} {L : List (Int × Int)} {n : Nat} : Stable (FreshAb B d L n) := fun _ _ _ h hb => by
  obtain ⟨A, cap, h1, h2⟩ := h
  exact ⟨A, cap, h1, h2.below hb⟩
theorem FreshA.neOb {B g cap : Nat} {A : Option Addr} {L : List (Int × Int)} {w : World} {c : Array Value} {fr : Nat × Nat} (h : FreshA cIv 2 50 B w A cap L) (hg : w.heap[g]? = some (.cells c 29 fr)) : NeB g A := by
  intro a ha e
  rcases h with ⟨rfl, _, _⟩ | ⟨k, rfl, _, cur, h1, _⟩
  · cases ha
  · cases ha
    dsimp only at e
    subst e
    rw [hg] at h1
    simp at h1
theorem addV_len (d : Int) (xs : List (Int × Int)) (y : Int × Int) : (addV d xs y).1.2.length ≤ xs.length + 1 := by
  unfold addV
  split
  · rw [insI_len]; exact Nat.le_refl _
  · simp

end Go.Proofs.Yteciijnpfapmhaa
