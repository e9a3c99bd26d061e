/-
  No cell of these rows narrows 'for every input' (looked for: loops, veiled, ifaces, maps, wideKeys, modest, calm, conditions, laid).
  DERIVED. THE GIVEN ROWS OF THIS SEAT. 11 by the template 'for every input the law returns true; each argument reads behind the call as it read before'; 0 by the template 'total and deterministic' (their statements: YtfipmalomhflgaaTotals.lean).
  GIVEN WITH THE SEED: the statements are not yours to turn. If you find one false, say at which input.
  Laid BY PROGRAM, IN A SANDBOX (cutbox-rows.mjs): the forced cells as the released guide's own fill.sh prints them over the translation e99251147a2f10fb… (all of the seat's roots in one cut). By AI agents, Wed Nov 11 2026. No macro, syntax, notation, axiom, sorry.
-/
import Derived.Test.YtfipmalomhflgaaChecked
import GoSem.Claim
import GoSem.ClaimJoined
import GoSem.ClaimMapViews
import Derived.JoinedTies
import Derived.KernelRfl
namespace Go.Proofs.Ytfipmalomhflgaa
/- THE CELL 'sum', in the pinned program and in every row, IS THE sha256 OF THE DUMP (.gsa) THAT YtfipmalomhflgaaProg.lean LOADS. Nothing in Lean hashes anything: it is a label: what it is worth is what the hold of that sum in a sandbox is worth. -/
noncomputable def Try.pinned : Pinned := { name := "ytfipmalomhflgaa", sum := "e99251147a2f10fbe72abe5bca44640ce35529d66b9346bea814256647484433", checked := Try.checked }
namespace Rows
def none {H : Type} : Left H := { results := [], args := [] }

/-- 'laws.FnExactIsBerthing': WHATEVER THE INPUT: true; the input reads as it did. -/
def fnExactIsBerthingSpec : ChangeSpec := { name := "fnExactIsBerthing", fn := fun _ => fun
  | [d1, d2] => { results := [.lit (.bool true)], args := [d1, d2] }
  | _ => none }
def fnExactIsBerthingRow : OpenClaim := { program := "ytfipmalomhflgaa", sum := "e99251147a2f10fbe72abe5bca44640ce35529d66b9346bea814256647484433", func := "loop.example/g00924/laws.FnExactIsBerthing", spec := "fnExactIsBerthing", unfollowed := true, recurses := true, apart := false }
def FnExactIsBerthingSaid : Prop := fnExactIsBerthingRow.holds Try.pinned (OpenSpec.ofChange fnExactIsBerthingSpec)

/-- ITS FALSE NEIGHBOUR: 'it returns false'. Refute it at one input. -/
def fnExactIsBerthingWrong : ChangeSpec := { name := "fnExactIsBerthing", fn := fun _ => fun
  | [d1, d2] => { results := [.lit (.bool false)], args := [d1, d2] }
  | _ => none }
def FnExactIsBerthingWrongFalsely : Prop := fnExactIsBerthingRow.holds Try.pinned (OpenSpec.ofChange fnExactIsBerthingWrong)

/-- 'laws.FnExactCellHours': WHATEVER THE INPUT: true; the input reads as it did. -/
def fnExactCellHoursSpec : ChangeSpec := { name := "fnExactCellHours", fn := fun _ => fun
  | [d1, d2] => { results := [.lit (.bool true)], args := [d1, d2] }
  | _ => none }
def fnExactCellHoursRow : OpenClaim := { program := "ytfipmalomhflgaa", sum := "e99251147a2f10fbe72abe5bca44640ce35529d66b9346bea814256647484433", func := "loop.example/g00924/laws.FnExactCellHours", spec := "fnExactCellHours", unfollowed := true, recurses := true, apart := false }
def FnExactCellHoursSaid : Prop := fnExactCellHoursRow.holds Try.pinned (OpenSpec.ofChange fnExactCellHoursSpec)

/-- ITS FALSE NEIGHBOUR: 'it returns false'. Refute it at one input. -/
def fnExactCellHoursWrong : ChangeSpec := { name := "fnExactCellHours", fn := fun _ => fun
  | [d1, d2] => { results := [.lit (.bool false)], args := [d1, d2] }
  | _ => none }
def FnExactCellHoursWrongFalsely : Prop := fnExactCellHoursRow.holds Try.pinned (OpenSpec.ofChange fnExactCellHoursWrong)

/-- 'laws.FnExactEarliestBerth': WHATEVER THE INPUT: true; the input reads as it did. -/
def fnExactEarliestBerthSpec : ChangeSpec := { name := "fnExactEarliestBerth", fn := fun _ => fun
  | [d1, d2, d3, d4, d5] => { results := [.lit (.bool true)], args := [d1, d2, d3, d4, d5] }
  | _ => none }
def fnExactEarliestBerthRow : OpenClaim := { program := "ytfipmalomhflgaa", sum := "e99251147a2f10fbe72abe5bca44640ce35529d66b9346bea814256647484433", func := "loop.example/g00924/laws.FnExactEarliestBerth", spec := "fnExactEarliestBerth", unfollowed := true, recurses := true, apart := false }
def FnExactEarliestBerthSaid : Prop := fnExactEarliestBerthRow.holds Try.pinned (OpenSpec.ofChange fnExactEarliestBerthSpec)

/-- ITS FALSE NEIGHBOUR: 'it returns false'. Refute it at one input. -/
def fnExactEarliestBerthWrong : ChangeSpec := { name := "fnExactEarliestBerth", fn := fun _ => fun
  | [d1, d2, d3, d4, d5] => { results := [.lit (.bool false)], args := [d1, d2, d3, d4, d5] }
  | _ => none }
def FnExactEarliestBerthWrongFalsely : Prop := fnExactEarliestBerthRow.holds Try.pinned (OpenSpec.ofChange fnExactEarliestBerthWrong)

/-- 'laws.FnExactFullHours': WHATEVER THE INPUT: true; the input reads as it did. -/
def fnExactFullHoursSpec : ChangeSpec := { name := "fnExactFullHours", fn := fun _ => fun
  | [d1, d2] => { results := [.lit (.bool true)], args := [d1, d2] }
  | _ => none }
def fnExactFullHoursRow : OpenClaim := { program := "ytfipmalomhflgaa", sum := "e99251147a2f10fbe72abe5bca44640ce35529d66b9346bea814256647484433", func := "loop.example/g00924/laws.FnExactFullHours", spec := "fnExactFullHours", unfollowed := true, recurses := true, apart := false }
def FnExactFullHoursSaid : Prop := fnExactFullHoursRow.holds Try.pinned (OpenSpec.ofChange fnExactFullHoursSpec)

/-- ITS FALSE NEIGHBOUR: 'it returns false'. Refute it at one input. -/
def fnExactFullHoursWrong : ChangeSpec := { name := "fnExactFullHours", fn := fun _ => fun
  | [d1, d2] => { results := [.lit (.bool false)], args := [d1, d2] }
  | _ => none }
def FnExactFullHoursWrongFalsely : Prop := fnExactFullHoursRow.holds Try.pinned (OpenSpec.ofChange fnExactFullHoursWrong)

/-- 'laws.FnExactLongestFree': WHATEVER THE INPUT: true; the input reads as it did. -/
def fnExactLongestFreeSpec : ChangeSpec := { name := "fnExactLongestFree", fn := fun _ => fun
  | [d1, d2, d3] => { results := [.lit (.bool true)], args := [d1, d2, d3] }
  | _ => none }
def fnExactLongestFreeRow : OpenClaim := { program := "ytfipmalomhflgaa", sum := "e99251147a2f10fbe72abe5bca44640ce35529d66b9346bea814256647484433", func := "loop.example/g00924/laws.FnExactLongestFree", spec := "fnExactLongestFree", unfollowed := true, recurses := true, apart := false }
def FnExactLongestFreeSaid : Prop := fnExactLongestFreeRow.holds Try.pinned (OpenSpec.ofChange fnExactLongestFreeSpec)

/-- ITS FALSE NEIGHBOUR: 'it returns false'. Refute it at one input. -/
def fnExactLongestFreeWrong : ChangeSpec := { name := "fnExactLongestFree", fn := fun _ => fun
  | [d1, d2, d3] => { results := [.lit (.bool false)], args := [d1, d2, d3] }
  | _ => none }
def FnExactLongestFreeWrongFalsely : Prop := fnExactLongestFreeRow.holds Try.pinned (OpenSpec.ofChange fnExactLongestFreeWrong)

/-- 'laws.FnExactLeaveEarly': WHATEVER THE INPUT: true; the input reads as it did. -/
def fnExactLeaveEarlySpec : ChangeSpec := { name := "fnExactLeaveEarly", fn := fun _ => fun
  | [d1, d2, d3, d4] => { results := [.lit (.bool true)], args := [d1, d2, d3, d4] }
  | _ => none }
def fnExactLeaveEarlyRow : OpenClaim := { program := "ytfipmalomhflgaa", sum := "e99251147a2f10fbe72abe5bca44640ce35529d66b9346bea814256647484433", func := "loop.example/g00924/laws.FnExactLeaveEarly", spec := "fnExactLeaveEarly", unfollowed := true, recurses := true, apart := false }
def FnExactLeaveEarlySaid : Prop := fnExactLeaveEarlyRow.holds Try.pinned (OpenSpec.ofChange fnExactLeaveEarlySpec)

/-- ITS FALSE NEIGHBOUR: 'it returns false'. Refute it at one input. -/
def fnExactLeaveEarlyWrong : ChangeSpec := { name := "fnExactLeaveEarly", fn := fun _ => fun
  | [d1, d2, d3, d4] => { results := [.lit (.bool false)], args := [d1, d2, d3, d4] }
  | _ => none }
def FnExactLeaveEarlyWrongFalsely : Prop := fnExactLeaveEarlyRow.holds Try.pinned (OpenSpec.ofChange fnExactLeaveEarlyWrong)

/-- 'laws.FnExactFreeCells': WHATEVER THE INPUT: true; the input reads as it did. -/
def fnExactFreeCellsSpec : ChangeSpec := { name := "fnExactFreeCells", fn := fun _ => fun
  | [d1, d2, d3] => { results := [.lit (.bool true)], args := [d1, d2, d3] }
  | _ => none }
def fnExactFreeCellsRow : OpenClaim := { program := "ytfipmalomhflgaa", sum := "e99251147a2f10fbe72abe5bca44640ce35529d66b9346bea814256647484433", func := "loop.example/g00924/laws.FnExactFreeCells", spec := "fnExactFreeCells", unfollowed := true, recurses := true, apart := false }
def FnExactFreeCellsSaid : Prop := fnExactFreeCellsRow.holds Try.pinned (OpenSpec.ofChange fnExactFreeCellsSpec)

/-- ITS FALSE NEIGHBOUR: 'it returns false'. Refute it at one input. -/
def fnExactFreeCellsWrong : ChangeSpec := { name := "fnExactFreeCells", fn := fun _ => fun
  | [d1, d2, d3] => { results := [.lit (.bool false)], args := [d1, d2, d3] }
  | _ => none }
def FnExactFreeCellsWrongFalsely : Prop := fnExactFreeCellsRow.holds Try.pinned (OpenSpec.ofChange fnExactFreeCellsWrong)

/-- 'laws.FnExactAddBerth': WHATEVER THE INPUT: true; the input reads as it did. -/
def fnExactAddBerthSpec : ChangeSpec := { name := "fnExactAddBerth", fn := fun _ => fun
  | [d1, d2, d3] => { results := [.lit (.bool true)], args := [d1, d2, d3] }
  | _ => none }
def fnExactAddBerthRow : OpenClaim := { program := "ytfipmalomhflgaa", sum := "e99251147a2f10fbe72abe5bca44640ce35529d66b9346bea814256647484433", func := "loop.example/g00924/laws.FnExactAddBerth", spec := "fnExactAddBerth", inPlace := ["slices.overlaps[loop.example/g00924/impl.Berth]"], unfollowed := true, recurses := true, apart := false }
def FnExactAddBerthSaid : Prop := fnExactAddBerthRow.holds Try.pinned (OpenSpec.ofChange fnExactAddBerthSpec)

/-- ITS FALSE NEIGHBOUR: 'it returns false'. Refute it at one input. -/
def fnExactAddBerthWrong : ChangeSpec := { name := "fnExactAddBerth", fn := fun _ => fun
  | [d1, d2, d3] => { results := [.lit (.bool false)], args := [d1, d2, d3] }
  | _ => none }
def FnExactAddBerthWrongFalsely : Prop := fnExactAddBerthRow.holds Try.pinned (OpenSpec.ofChange fnExactAddBerthWrong)

/-- 'laws.FnExactLyingAt': WHATEVER THE INPUT: true; the input reads as it did. -/
def fnExactLyingAtSpec : ChangeSpec := { name := "fnExactLyingAt", fn := fun _ => fun
  | [d1, d2, d3] => { results := [.lit (.bool true)], args := [d1, d2, d3] }
  | _ => none }
def fnExactLyingAtRow : OpenClaim := { program := "ytfipmalomhflgaa", sum := "e99251147a2f10fbe72abe5bca44640ce35529d66b9346bea814256647484433", func := "loop.example/g00924/laws.FnExactLyingAt", spec := "fnExactLyingAt", unfollowed := true, recurses := true, apart := false }
def FnExactLyingAtSaid : Prop := fnExactLyingAtRow.holds Try.pinned (OpenSpec.ofChange fnExactLyingAtSpec)

/-- ITS FALSE NEIGHBOUR: 'it returns false'. Refute it at one input. -/
def fnExactLyingAtWrong : ChangeSpec := { name := "fnExactLyingAt", fn := fun _ => fun
  | [d1, d2, d3] => { results := [.lit (.bool false)], args := [d1, d2, d3] }
  | _ => none }
def FnExactLyingAtWrongFalsely : Prop := fnExactLyingAtRow.holds Try.pinned (OpenSpec.ofChange fnExactLyingAtWrong)

/-- 'laws.FnBerthTimes': WHATEVER THE INPUT: true; the input reads as it did. -/
def fnBerthTimesSpec : ChangeSpec := { name := "fnBerthTimes", fn := fun _ => fun
  | [d] => { results := [.lit (.bool true)], args := [d] }
  | _ => none }
def fnBerthTimesRow : OpenClaim := { program := "ytfipmalomhflgaa", sum := "e99251147a2f10fbe72abe5bca44640ce35529d66b9346bea814256647484433", func := "loop.example/g00924/laws.FnBerthTimes", spec := "fnBerthTimes", inPlace := ["slices.overlaps[loop.example/g00924/impl.Berth]"], unfollowed := true, recurses := true, apart := false }
def FnBerthTimesSaid : Prop := fnBerthTimesRow.holds Try.pinned (OpenSpec.ofChange fnBerthTimesSpec)

/-- ITS FALSE NEIGHBOUR: 'it returns false'. Refute it at one input. -/
def fnBerthTimesWrong : ChangeSpec := { name := "fnBerthTimes", fn := fun _ => fun
  | [d] => { results := [.lit (.bool false)], args := [d] }
  | _ => none }
def FnBerthTimesWrongFalsely : Prop := fnBerthTimesRow.holds Try.pinned (OpenSpec.ofChange fnBerthTimesWrong)

/-- 'laws.FnBerths': WHATEVER THE INPUT: true; the input reads as it did. -/
def fnBerthsSpec : ChangeSpec := { name := "fnBerths", fn := fun _ => fun
  | [d] => { results := [.lit (.bool true)], args := [d] }
  | _ => none }
def fnBerthsRow : OpenClaim := { program := "ytfipmalomhflgaa", sum := "e99251147a2f10fbe72abe5bca44640ce35529d66b9346bea814256647484433", func := "loop.example/g00924/laws.FnBerths", spec := "fnBerths", inPlace := ["slices.overlaps[loop.example/g00924/impl.Berth]"], unfollowed := true, recurses := true, apart := false }
def FnBerthsSaid : Prop := fnBerthsRow.holds Try.pinned (OpenSpec.ofChange fnBerthsSpec)

/-- ITS FALSE NEIGHBOUR: 'it returns false'. Refute it at one input. -/
def fnBerthsWrong : ChangeSpec := { name := "fnBerths", fn := fun _ => fun
  | [d] => { results := [.lit (.bool false)], args := [d] }
  | _ => none }
def FnBerthsWrongFalsely : Prop := fnBerthsRow.holds Try.pinned (OpenSpec.ofChange fnBerthsWrong)

/- THE SECOND FORM. 'bulk': how many values and letters a reading holds, each counted each time it is reached (what is shared counts as often as it is met; a slice's spare places count too). A statement '..UptoSaid' is the law's where the arguments, and the package variables that the reading takes, are together of bulk at most 1048576: NARROWER than '..Said'. Prove '..Said' where nothing that the law and all that it calls make is longer than what came in: it says more and counts as full. Else prove '..UptoSaid'. A law counts once. -/
mutual
def uptoBulk {H : Type} : DataW H → Nat
  | .lit (.string bytes) => bytes.length + 1
  | .lit _ => 1
  | .nil => 1
  | .ptr d => uptoBulk d + 1
  | .slice elems spare => uptoBulkAll elems + uptoBulkAll spare + 1
  | .agg parts => uptoBulkAll parts + 1
  | .iface _ d => uptoBulk d + 1
  | .map entries => uptoBulkEntries entries + 1
  | .held _ => 1
def uptoBulkAll {H : Type} : List (DataW H) → Nat
  | [] => 0
  | d :: r => uptoBulk d + uptoBulkAll r
def uptoBulkEntries {H : Type} : List (Lit × DataW H) → Nat
  | [] => 0
  | x :: r => uptoBulkEntry x + uptoBulkEntries r
def uptoBulkEntry {H : Type} : Lit × DataW H → Nat
  | (.string bytes, d) => bytes.length + uptoBulk d + 1
  | (_, d) => uptoBulk d + 1
 end
def uptoSmall : (H : Type) → List (DataW H) → Bool := fun _ ds => decide (uptoBulkAll ds ≤ 1048576)
def OpenSpec.upto (s : _root_.Go.ChangeSpec) : _root_.Go.OpenSpec := { _root_.Go.OpenSpec.ofChange s with cond := some uptoSmall }

/-- 'laws.FnExactIsBerthing', WHERE WHAT IT READS IS OF BULK AT MOST 1048576: true; the input reads as it did. -/
def fnExactIsBerthingUptoRow : OpenClaim := { program := "ytfipmalomhflgaa", sum := "e99251147a2f10fbe72abe5bca44640ce35529d66b9346bea814256647484433", func := "loop.example/g00924/laws.FnExactIsBerthing", spec := "fnExactIsBerthing", unfollowed := true, recurses := true, apart := false, narrowed := true }
def FnExactIsBerthingUptoSaid : Prop := fnExactIsBerthingUptoRow.holds Try.pinned (OpenSpec.upto fnExactIsBerthingSpec)

/-- 'laws.FnExactCellHours', WHERE WHAT IT READS IS OF BULK AT MOST 1048576: true; the input reads as it did. -/
def fnExactCellHoursUptoRow : OpenClaim := { program := "ytfipmalomhflgaa", sum := "e99251147a2f10fbe72abe5bca44640ce35529d66b9346bea814256647484433", func := "loop.example/g00924/laws.FnExactCellHours", spec := "fnExactCellHours", unfollowed := true, recurses := true, apart := false, narrowed := true }
def FnExactCellHoursUptoSaid : Prop := fnExactCellHoursUptoRow.holds Try.pinned (OpenSpec.upto fnExactCellHoursSpec)

/-- 'laws.FnExactEarliestBerth', WHERE WHAT IT READS IS OF BULK AT MOST 1048576: true; the input reads as it did. -/
def fnExactEarliestBerthUptoRow : OpenClaim := { program := "ytfipmalomhflgaa", sum := "e99251147a2f10fbe72abe5bca44640ce35529d66b9346bea814256647484433", func := "loop.example/g00924/laws.FnExactEarliestBerth", spec := "fnExactEarliestBerth", unfollowed := true, recurses := true, apart := false, narrowed := true }
def FnExactEarliestBerthUptoSaid : Prop := fnExactEarliestBerthUptoRow.holds Try.pinned (OpenSpec.upto fnExactEarliestBerthSpec)

/-- 'laws.FnExactFullHours', WHERE WHAT IT READS IS OF BULK AT MOST 1048576: true; the input reads as it did. -/
def fnExactFullHoursUptoRow : OpenClaim := { program := "ytfipmalomhflgaa", sum := "e99251147a2f10fbe72abe5bca44640ce35529d66b9346bea814256647484433", func := "loop.example/g00924/laws.FnExactFullHours", spec := "fnExactFullHours", unfollowed := true, recurses := true, apart := false, narrowed := true }
def FnExactFullHoursUptoSaid : Prop := fnExactFullHoursUptoRow.holds Try.pinned (OpenSpec.upto fnExactFullHoursSpec)

/-- 'laws.FnExactLongestFree', WHERE WHAT IT READS IS OF BULK AT MOST 1048576: true; the input reads as it did. -/
def fnExactLongestFreeUptoRow : OpenClaim := { program := "ytfipmalomhflgaa", sum := "e99251147a2f10fbe72abe5bca44640ce35529d66b9346bea814256647484433", func := "loop.example/g00924/laws.FnExactLongestFree", spec := "fnExactLongestFree", unfollowed := true, recurses := true, apart := false, narrowed := true }
def FnExactLongestFreeUptoSaid : Prop := fnExactLongestFreeUptoRow.holds Try.pinned (OpenSpec.upto fnExactLongestFreeSpec)

/-- 'laws.FnExactLeaveEarly', WHERE WHAT IT READS IS OF BULK AT MOST 1048576: true; the input reads as it did. -/
def fnExactLeaveEarlyUptoRow : OpenClaim := { program := "ytfipmalomhflgaa", sum := "e99251147a2f10fbe72abe5bca44640ce35529d66b9346bea814256647484433", func := "loop.example/g00924/laws.FnExactLeaveEarly", spec := "fnExactLeaveEarly", unfollowed := true, recurses := true, apart := false, narrowed := true }
def FnExactLeaveEarlyUptoSaid : Prop := fnExactLeaveEarlyUptoRow.holds Try.pinned (OpenSpec.upto fnExactLeaveEarlySpec)

/-- 'laws.FnExactFreeCells', WHERE WHAT IT READS IS OF BULK AT MOST 1048576: true; the input reads as it did. -/
def fnExactFreeCellsUptoRow : OpenClaim := { program := "ytfipmalomhflgaa", sum := "e99251147a2f10fbe72abe5bca44640ce35529d66b9346bea814256647484433", func := "loop.example/g00924/laws.FnExactFreeCells", spec := "fnExactFreeCells", unfollowed := true, recurses := true, apart := false, narrowed := true }
def FnExactFreeCellsUptoSaid : Prop := fnExactFreeCellsUptoRow.holds Try.pinned (OpenSpec.upto fnExactFreeCellsSpec)

/-- 'laws.FnExactAddBerth', WHERE WHAT IT READS IS OF BULK AT MOST 1048576: true; the input reads as it did. -/
def fnExactAddBerthUptoRow : OpenClaim := { program := "ytfipmalomhflgaa", sum := "e99251147a2f10fbe72abe5bca44640ce35529d66b9346bea814256647484433", func := "loop.example/g00924/laws.FnExactAddBerth", spec := "fnExactAddBerth", inPlace := ["slices.overlaps[loop.example/g00924/impl.Berth]"], unfollowed := true, recurses := true, apart := false, narrowed := true }
def FnExactAddBerthUptoSaid : Prop := fnExactAddBerthUptoRow.holds Try.pinned (OpenSpec.upto fnExactAddBerthSpec)

/-- 'laws.FnExactLyingAt', WHERE WHAT IT READS IS OF BULK AT MOST 1048576: true; the input reads as it did. -/
def fnExactLyingAtUptoRow : OpenClaim := { program := "ytfipmalomhflgaa", sum := "e99251147a2f10fbe72abe5bca44640ce35529d66b9346bea814256647484433", func := "loop.example/g00924/laws.FnExactLyingAt", spec := "fnExactLyingAt", unfollowed := true, recurses := true, apart := false, narrowed := true }
def FnExactLyingAtUptoSaid : Prop := fnExactLyingAtUptoRow.holds Try.pinned (OpenSpec.upto fnExactLyingAtSpec)

/-- 'laws.FnBerthTimes', WHERE WHAT IT READS IS OF BULK AT MOST 1048576: true; the input reads as it did. -/
def fnBerthTimesUptoRow : OpenClaim := { program := "ytfipmalomhflgaa", sum := "e99251147a2f10fbe72abe5bca44640ce35529d66b9346bea814256647484433", func := "loop.example/g00924/laws.FnBerthTimes", spec := "fnBerthTimes", inPlace := ["slices.overlaps[loop.example/g00924/impl.Berth]"], unfollowed := true, recurses := true, apart := false, narrowed := true }
def FnBerthTimesUptoSaid : Prop := fnBerthTimesUptoRow.holds Try.pinned (OpenSpec.upto fnBerthTimesSpec)

/-- 'laws.FnBerths', WHERE WHAT IT READS IS OF BULK AT MOST 1048576: true; the input reads as it did. -/
def fnBerthsUptoRow : OpenClaim := { program := "ytfipmalomhflgaa", sum := "e99251147a2f10fbe72abe5bca44640ce35529d66b9346bea814256647484433", func := "loop.example/g00924/laws.FnBerths", spec := "fnBerths", inPlace := ["slices.overlaps[loop.example/g00924/impl.Berth]"], unfollowed := true, recurses := true, apart := false, narrowed := true }
def FnBerthsUptoSaid : Prop := fnBerthsUptoRow.holds Try.pinned (OpenSpec.upto fnBerthsSpec)

end Rows
end Go.Proofs.Ytfipmalomhflgaa
