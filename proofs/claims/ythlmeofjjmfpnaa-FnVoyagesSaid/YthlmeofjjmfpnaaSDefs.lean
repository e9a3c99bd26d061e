import Derived.Test.YthlmeofjjmfpnaaSl
import Derived.Test.YthlmeofjjmfpnaaDefs
namespace Go.Proofs.Ythlmeofjjmfpnaa
set_option linter.unusedSimpArgs false
set_option linter.unusedVariables false
open Go.RowKit

def cLeg (x : (Int × Int)) : List Value := [.int .i64 (x.1), .int .i64 (x.2)]
theorem cLeg_len (x : (Int × Int)) : (cLeg x).length = 2 := rfl

def cIv (x : (Int × Int)) : List Value := [.int .i64 (x.1), .int .i64 (x.2)]
theorem cIv_len (x : (Int × Int)) : (cIv x).length = 2 := rfl

def mkLeg (n : Nat) (k : Int) : List (Int × Int) := (List.range n).map fun (i : Nat) => (k + 2 * (i : Int), k + 2 * (i : Int) + 1)

theorem mkLeg_len (n : Nat) (k : Int) : (mkLeg n k).length = n := by simp [mkLeg]
theorem mkLeg_at (n : Nat) (k : Int) (j : Nat) (h : j < n) (h' : j < (mkLeg n k).length) : (mkLeg n k)[j] = (k + 2 * (j : Int), k + 2 * (j : Int) + 1) := by simp [mkLeg]

theorem mkLeg_snoc (j : Nat) (k : Int) : mkLeg (j + 1) k = mkLeg j k ++ [(k + 2 * (j : Int), k + 2 * (j : Int) + 1)] := by simp [mkLeg, List.range_succ]

def mkIv (n : Nat) (k : Int) : List (Int × Int) := (List.range n).map fun (i : Nat) => (k + 2 * (i : Int), k + 2 * (i : Int) + 1)

theorem mkIv_len (n : Nat) (k : Int) : (mkIv n k).length = n := by simp [mkIv]
theorem mkIv_at (n : Nat) (k : Int) (j : Nat) (h : j < n) (h' : j < (mkIv n k).length) : (mkIv n k)[j] = (k + 2 * (j : Int), k + 2 * (j : Int) + 1) := by simp [mkIv]

theorem mkIv_snoc (j : Nat) (k : Int) : mkIv (j + 1) k = mkIv j k ++ [(k + 2 * (j : Int), k + 2 * (j : Int) + 1)] := by simp [mkIv, List.range_succ]

def eqLegB (a b c d : Int) : Bool := decide (a = c ∧ b = d)
def eqIvB (a b c d : Int) : Bool := eqI a b c d
def nLeg : Int × Int → Bool := fun x => !legB x.1 x.2

end Go.Proofs.Ythlmeofjjmfpnaa
