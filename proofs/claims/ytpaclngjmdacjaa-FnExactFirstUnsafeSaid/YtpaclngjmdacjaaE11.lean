import Derived.Test.YtpaclngjmdacjaaE10
namespace Go.Proofs.Ytpaclngjmdacjaa
set_option linter.unusedSimpArgs false
set_option linter.unusedVariables false
open Go.RowKit

def safeV (l h v : Int) (fs : List Int) (ps : List (Int × Int × Int)) (pl : List Int) : Bool × Bool := if planB l h v fs ps pl = true then (decide (idxF (outL l h) (levsTo v fs pl ps pl.length) < 0), true) else (false, false)
def unsV (l h v : Int) (fs : List Int) (ps : List (Int × Int × Int)) (pl : List Int) : Int × Bool := if planB l h v fs ps pl = true ∧ ¬ idxF (outL l h) (levsTo v fs pl ps pl.length) < 0 then (idxF (outL l h) (levsTo v fs pl ps pl.length), true) else (0, false)
def FreshPl (B : Nat) (L : List Int) (n : Nat) (py st pm : Int) (u : Value) (w : World) : Prop := ∃ A cap, u = .agg #[.slice A n cap, .int .i64 py, .int .i64 st, .int .i64 pm] ∧ FreshA cIn 1 3 B w A cap L
theorem FreshPl.stable {B : Nat} {L : List Int} {n : Nat} {py st pm : Int} : Stable (FreshPl B L n py st pm) := fun _ _ _ h hb => by
  obtain ⟨A, cap, h1, h2⟩ := h
  exact ⟨A, cap, h1, h2.below hb⟩
def FreshSl (B : Nat) (L : List Int) (n : Nat) (u : Value) (w : World) : Prop := ∃ A cap, u = .slice A n cap ∧ FreshA cIn 1 3 B w A cap L
theorem FreshSl.stable {B : Nat} {L : List Int} {n : Nat} : Stable (FreshSl B L n) := fun _ _ _ h hb => by
  obtain ⟨A, cap, h1, h2⟩ := h
  exact ⟨A, cap, h1, h2.below hb⟩

end Go.Proofs.Ytpaclngjmdacjaa
