/-
  No cell of these rows narrows 'for every input' (looked for: loops, veiled, ifaces, maps, wideKeys, modest, calm, conditions, laid).
  DERIVED. THE GIVEN ROWS OF THIS SEAT. 11 by the template 'for every input the law returns true; each argument reads behind the call as it read before'; 0 by the template 'total and deterministic' (their statements: YteciijnpfapmhaaTotals.lean).
  GIVEN WITH THE SEED: the statements are not yours to turn. If you find one false, say at which input.
  Laid BY PROGRAM, IN A SANDBOX (cutbox-rows.mjs): the forced cells as the released guide's own fill.sh prints them over the translation 0cee99e74d2e0ac5… (all of the seat's roots in one cut). By AI agents, Wed Nov 11 2026. No macro, syntax, notation, axiom, sorry.
-/
import Derived.Test.YteciijnpfapmhaaChecked
import GoSem.Claim
import GoSem.ClaimJoined
import GoSem.ClaimMapViews
import Derived.JoinedTies
import Derived.KernelRfl
namespace Go.Proofs.Yteciijnpfapmhaa
/- THE CELL 'sum', in the pinned program and in every row, IS THE sha256 OF THE DUMP (.gsa) THAT YteciijnpfapmhaaProg.lean LOADS. Nothing in Lean hashes anything: it is a label: what it is worth is what the hold of that sum in a sandbox is worth. -/
noncomputable def Try.pinned : Pinned := { name := "yteciijnpfapmhaa", sum := "0cee99e74d2e0ac596f383d70de2715b046dd30f58c029088d50e7df5abcdd87", checked := Try.checked }
namespace Rows
def none {H : Type} : Left H := { results := [], args := [] }

/-- 'laws.FnExactIsValidBridge': WHATEVER THE INPUT: true; the input reads as it did. -/
def fnExactIsValidBridgeSpec : ChangeSpec := { name := "fnExactIsValidBridge", fn := fun _ => fun
  | [d] => { results := [.lit (.bool true)], args := [d] }
  | _ => none }
def fnExactIsValidBridgeRow : OpenClaim := { program := "yteciijnpfapmhaa", sum := "0cee99e74d2e0ac596f383d70de2715b046dd30f58c029088d50e7df5abcdd87", func := "loop.example/g00924/laws.FnExactIsValidBridge", spec := "fnExactIsValidBridge", apart := false }
def FnExactIsValidBridgeSaid : Prop := fnExactIsValidBridgeRow.holds Try.pinned (OpenSpec.ofChange fnExactIsValidBridgeSpec)

/-- ITS FALSE NEIGHBOUR: 'it returns false'. Refute it at one input. -/
def fnExactIsValidBridgeWrong : ChangeSpec := { name := "fnExactIsValidBridge", fn := fun _ => fun
  | [d] => { results := [.lit (.bool false)], args := [d] }
  | _ => none }
def FnExactIsValidBridgeWrongFalsely : Prop := fnExactIsValidBridgeRow.holds Try.pinned (OpenSpec.ofChange fnExactIsValidBridgeWrong)

/-- 'laws.FnExactMayOpen': WHATEVER THE INPUT: true; the input reads as it did. -/
def fnExactMayOpenSpec : ChangeSpec := { name := "fnExactMayOpen", fn := fun _ => fun
  | [d1, d2] => { results := [.lit (.bool true)], args := [d1, d2] }
  | _ => none }
def fnExactMayOpenRow : OpenClaim := { program := "yteciijnpfapmhaa", sum := "0cee99e74d2e0ac596f383d70de2715b046dd30f58c029088d50e7df5abcdd87", func := "loop.example/g00924/laws.FnExactMayOpen", spec := "fnExactMayOpen", unfollowed := true, recurses := true, apart := false }
def FnExactMayOpenSaid : Prop := fnExactMayOpenRow.holds Try.pinned (OpenSpec.ofChange fnExactMayOpenSpec)

/-- ITS FALSE NEIGHBOUR: 'it returns false'. Refute it at one input. -/
def fnExactMayOpenWrong : ChangeSpec := { name := "fnExactMayOpen", fn := fun _ => fun
  | [d1, d2] => { results := [.lit (.bool false)], args := [d1, d2] }
  | _ => none }
def FnExactMayOpenWrongFalsely : Prop := fnExactMayOpenRow.holds Try.pinned (OpenSpec.ofChange fnExactMayOpenWrong)

/-- 'laws.FnExactNextOpening': WHATEVER THE INPUT: true; the input reads as it did. -/
def fnExactNextOpeningSpec : ChangeSpec := { name := "fnExactNextOpening", fn := fun _ => fun
  | [d1, d2] => { results := [.lit (.bool true)], args := [d1, d2] }
  | _ => none }
def fnExactNextOpeningRow : OpenClaim := { program := "yteciijnpfapmhaa", sum := "0cee99e74d2e0ac596f383d70de2715b046dd30f58c029088d50e7df5abcdd87", func := "loop.example/g00924/laws.FnExactNextOpening", spec := "fnExactNextOpening", unfollowed := true, recurses := true, apart := false }
def FnExactNextOpeningSaid : Prop := fnExactNextOpeningRow.holds Try.pinned (OpenSpec.ofChange fnExactNextOpeningSpec)

/-- ITS FALSE NEIGHBOUR: 'it returns false'. Refute it at one input. -/
def fnExactNextOpeningWrong : ChangeSpec := { name := "fnExactNextOpening", fn := fun _ => fun
  | [d1, d2] => { results := [.lit (.bool false)], args := [d1, d2] }
  | _ => none }
def FnExactNextOpeningWrongFalsely : Prop := fnExactNextOpeningRow.holds Try.pinned (OpenSpec.ofChange fnExactNextOpeningWrong)

/-- 'laws.FnExactLastOpening': WHATEVER THE INPUT: true; the input reads as it did. -/
def fnExactLastOpeningSpec : ChangeSpec := { name := "fnExactLastOpening", fn := fun _ => fun
  | [d1, d2, d3] => { results := [.lit (.bool true)], args := [d1, d2, d3] }
  | _ => none }
def fnExactLastOpeningRow : OpenClaim := { program := "yteciijnpfapmhaa", sum := "0cee99e74d2e0ac596f383d70de2715b046dd30f58c029088d50e7df5abcdd87", func := "loop.example/g00924/laws.FnExactLastOpening", spec := "fnExactLastOpening", unfollowed := true, recurses := true, apart := false }
def FnExactLastOpeningSaid : Prop := fnExactLastOpeningRow.holds Try.pinned (OpenSpec.ofChange fnExactLastOpeningSpec)

/-- ITS FALSE NEIGHBOUR: 'it returns false'. Refute it at one input. -/
def fnExactLastOpeningWrong : ChangeSpec := { name := "fnExactLastOpening", fn := fun _ => fun
  | [d1, d2, d3] => { results := [.lit (.bool false)], args := [d1, d2, d3] }
  | _ => none }
def FnExactLastOpeningWrongFalsely : Prop := fnExactLastOpeningRow.holds Try.pinned (OpenSpec.ofChange fnExactLastOpeningWrong)

/-- 'laws.FnExactIsBridgePlan': WHATEVER THE INPUT: true; the input reads as it did. -/
def fnExactIsBridgePlanSpec : ChangeSpec := { name := "fnExactIsBridgePlan", fn := fun _ => fun
  | [d1, d2, d3, d4] => { results := [.lit (.bool true)], args := [d1, d2, d3, d4] }
  | _ => none }
def fnExactIsBridgePlanRow : OpenClaim := { program := "yteciijnpfapmhaa", sum := "0cee99e74d2e0ac596f383d70de2715b046dd30f58c029088d50e7df5abcdd87", func := "loop.example/g00924/laws.FnExactIsBridgePlan", spec := "fnExactIsBridgePlan", unfollowed := true, recurses := true, apart := false }
def FnExactIsBridgePlanSaid : Prop := fnExactIsBridgePlanRow.holds Try.pinned (OpenSpec.ofChange fnExactIsBridgePlanSpec)

/-- ITS FALSE NEIGHBOUR: 'it returns false'. Refute it at one input. -/
def fnExactIsBridgePlanWrong : ChangeSpec := { name := "fnExactIsBridgePlan", fn := fun _ => fun
  | [d1, d2, d3, d4] => { results := [.lit (.bool false)], args := [d1, d2, d3, d4] }
  | _ => none }
def FnExactIsBridgePlanWrongFalsely : Prop := fnExactIsBridgePlanRow.holds Try.pinned (OpenSpec.ofChange fnExactIsBridgePlanWrong)

/-- 'laws.FnExactOpenMinutes': WHATEVER THE INPUT: true; the input reads as it did. -/
def fnExactOpenMinutesSpec : ChangeSpec := { name := "fnExactOpenMinutes", fn := fun _ => fun
  | [d1, d2, d3, d4] => { results := [.lit (.bool true)], args := [d1, d2, d3, d4] }
  | _ => none }
def fnExactOpenMinutesRow : OpenClaim := { program := "yteciijnpfapmhaa", sum := "0cee99e74d2e0ac596f383d70de2715b046dd30f58c029088d50e7df5abcdd87", func := "loop.example/g00924/laws.FnExactOpenMinutes", spec := "fnExactOpenMinutes", unfollowed := true, recurses := true, apart := false }
def FnExactOpenMinutesSaid : Prop := fnExactOpenMinutesRow.holds Try.pinned (OpenSpec.ofChange fnExactOpenMinutesSpec)

/-- ITS FALSE NEIGHBOUR: 'it returns false'. Refute it at one input. -/
def fnExactOpenMinutesWrong : ChangeSpec := { name := "fnExactOpenMinutes", fn := fun _ => fun
  | [d1, d2, d3, d4] => { results := [.lit (.bool false)], args := [d1, d2, d3, d4] }
  | _ => none }
def FnExactOpenMinutesWrongFalsely : Prop := fnExactOpenMinutesRow.holds Try.pinned (OpenSpec.ofChange fnExactOpenMinutesWrong)

/-- 'laws.FnExactWaitingSum': WHATEVER THE INPUT: true; the input reads as it did. -/
def fnExactWaitingSumSpec : ChangeSpec := { name := "fnExactWaitingSum", fn := fun _ => fun
  | [d1, d2, d3, d4] => { results := [.lit (.bool true)], args := [d1, d2, d3, d4] }
  | _ => none }
def fnExactWaitingSumRow : OpenClaim := { program := "yteciijnpfapmhaa", sum := "0cee99e74d2e0ac596f383d70de2715b046dd30f58c029088d50e7df5abcdd87", func := "loop.example/g00924/laws.FnExactWaitingSum", spec := "fnExactWaitingSum", unfollowed := true, recurses := true, apart := false }
def FnExactWaitingSumSaid : Prop := fnExactWaitingSumRow.holds Try.pinned (OpenSpec.ofChange fnExactWaitingSumSpec)

/-- ITS FALSE NEIGHBOUR: 'it returns false'. Refute it at one input. -/
def fnExactWaitingSumWrong : ChangeSpec := { name := "fnExactWaitingSum", fn := fun _ => fun
  | [d1, d2, d3, d4] => { results := [.lit (.bool false)], args := [d1, d2, d3, d4] }
  | _ => none }
def FnExactWaitingSumWrongFalsely : Prop := fnExactWaitingSumRow.holds Try.pinned (OpenSpec.ofChange fnExactWaitingSumWrong)

/-- 'laws.FnExactAddClosure': WHATEVER THE INPUT: true; the input reads as it did. -/
def fnExactAddClosureSpec : ChangeSpec := { name := "fnExactAddClosure", fn := fun _ => fun
  | [d1, d2] => { results := [.lit (.bool true)], args := [d1, d2] }
  | _ => none }
def fnExactAddClosureRow : OpenClaim := { program := "yteciijnpfapmhaa", sum := "0cee99e74d2e0ac596f383d70de2715b046dd30f58c029088d50e7df5abcdd87", func := "loop.example/g00924/laws.FnExactAddClosure", spec := "fnExactAddClosure", inPlace := ["slices.overlaps[loop.example/g00924/impl.Interval]"], apart := false }
def FnExactAddClosureSaid : Prop := fnExactAddClosureRow.holds Try.pinned (OpenSpec.ofChange fnExactAddClosureSpec)

/-- ITS FALSE NEIGHBOUR: 'it returns false'. Refute it at one input. -/
def fnExactAddClosureWrong : ChangeSpec := { name := "fnExactAddClosure", fn := fun _ => fun
  | [d1, d2] => { results := [.lit (.bool false)], args := [d1, d2] }
  | _ => none }
def FnExactAddClosureWrongFalsely : Prop := fnExactAddClosureRow.holds Try.pinned (OpenSpec.ofChange fnExactAddClosureWrong)

/-- 'laws.FnExactFewestOpenings': WHATEVER THE INPUT: true; the input reads as it did. -/
def fnExactFewestOpeningsSpec : ChangeSpec := { name := "fnExactFewestOpenings", fn := fun _ => fun
  | [d1, d2, d3] => { results := [.lit (.bool true)], args := [d1, d2, d3] }
  | _ => none }
def fnExactFewestOpeningsRow : OpenClaim := { program := "yteciijnpfapmhaa", sum := "0cee99e74d2e0ac596f383d70de2715b046dd30f58c029088d50e7df5abcdd87", func := "loop.example/g00924/laws.FnExactFewestOpenings", spec := "fnExactFewestOpenings", unfollowed := true, recurses := true, apart := false }
def FnExactFewestOpeningsSaid : Prop := fnExactFewestOpeningsRow.holds Try.pinned (OpenSpec.ofChange fnExactFewestOpeningsSpec)

/-- ITS FALSE NEIGHBOUR: 'it returns false'. Refute it at one input. -/
def fnExactFewestOpeningsWrong : ChangeSpec := { name := "fnExactFewestOpenings", fn := fun _ => fun
  | [d1, d2, d3] => { results := [.lit (.bool false)], args := [d1, d2, d3] }
  | _ => none }
def FnExactFewestOpeningsWrongFalsely : Prop := fnExactFewestOpeningsRow.holds Try.pinned (OpenSpec.ofChange fnExactFewestOpeningsWrong)

/-- 'laws.FnBridges': WHATEVER THE INPUT: true; the input reads as it did. -/
def fnBridgesSpec : ChangeSpec := { name := "fnBridges", fn := fun _ => fun
  | [d] => { results := [.lit (.bool true)], args := [d] }
  | _ => none }
def fnBridgesRow : OpenClaim := { program := "yteciijnpfapmhaa", sum := "0cee99e74d2e0ac596f383d70de2715b046dd30f58c029088d50e7df5abcdd87", func := "loop.example/g00924/laws.FnBridges", spec := "fnBridges", unfollowed := true, recurses := true, apart := false }
def FnBridgesSaid : Prop := fnBridgesRow.holds Try.pinned (OpenSpec.ofChange fnBridgesSpec)

/-- ITS FALSE NEIGHBOUR: 'it returns false'. Refute it at one input. -/
def fnBridgesWrong : ChangeSpec := { name := "fnBridges", fn := fun _ => fun
  | [d] => { results := [.lit (.bool false)], args := [d] }
  | _ => none }
def FnBridgesWrongFalsely : Prop := fnBridgesRow.holds Try.pinned (OpenSpec.ofChange fnBridgesWrong)

/-- 'laws.FnOpenings': WHATEVER THE INPUT: true; the input reads as it did. -/
def fnOpeningsSpec : ChangeSpec := { name := "fnOpenings", fn := fun _ => fun
  | [d] => { results := [.lit (.bool true)], args := [d] }
  | _ => none }
def fnOpeningsRow : OpenClaim := { program := "yteciijnpfapmhaa", sum := "0cee99e74d2e0ac596f383d70de2715b046dd30f58c029088d50e7df5abcdd87", func := "loop.example/g00924/laws.FnOpenings", spec := "fnOpenings", inPlace := ["slices.overlaps[loop.example/g00924/impl.Interval]"], unfollowed := true, recurses := true, apart := false }
def FnOpeningsSaid : Prop := fnOpeningsRow.holds Try.pinned (OpenSpec.ofChange fnOpeningsSpec)

/-- ITS FALSE NEIGHBOUR: 'it returns false'. Refute it at one input. -/
def fnOpeningsWrong : ChangeSpec := { name := "fnOpenings", fn := fun _ => fun
  | [d] => { results := [.lit (.bool false)], args := [d] }
  | _ => none }
def FnOpeningsWrongFalsely : Prop := fnOpeningsRow.holds Try.pinned (OpenSpec.ofChange fnOpeningsWrong)

/- THE SECOND FORM. 'bulk': how many values and letters a reading holds, each counted each time it is reached (what is shared counts as often as it is met; a slice's spare places count too). A statement '..UptoSaid' is the law's where the arguments, and the package variables that the reading takes, are together of bulk at most 1048576: NARROWER than '..Said'. Prove '..Said' where nothing that the law and all that it calls make is longer than what came in: it says more and counts as full. Else prove '..UptoSaid'. A law counts once. -/
mutual
def uptoBulk {H : Type} : DataW H → Nat
  | .lit (.string bytes) => bytes.length + 1
  | .lit _ => 1
  | .nil => 1
  | .ptr d => uptoBulk d + 1
  | .slice elems spare => uptoBulkAll elems + uptoBulkAll spare + 1
  | .agg parts => uptoBulkAll parts + 1
  | .iface _ d => uptoBulk d + 1
  | .map entries => uptoBulkEntries entries + 1
  | .held _ => 1
def uptoBulkAll {H : Type} : List (DataW H) → Nat
  | [] => 0
  | d :: r => uptoBulk d + uptoBulkAll r
def uptoBulkEntries {H : Type} : List (Lit × DataW H) → Nat
  | [] => 0
  | x :: r => uptoBulkEntry x + uptoBulkEntries r
def uptoBulkEntry {H : Type} : Lit × DataW H → Nat
  | (.string bytes, d) => bytes.length + uptoBulk d + 1
  | (_, d) => uptoBulk d + 1
 end
def uptoSmall : (H : Type) → List (DataW H) → Bool := fun _ ds => decide (uptoBulkAll ds ≤ 1048576)
def OpenSpec.upto (s : _root_.Go.ChangeSpec) : _root_.Go.OpenSpec := { _root_.Go.OpenSpec.ofChange s with cond := some uptoSmall }

/-- 'laws.FnExactIsValidBridge', WHERE WHAT IT READS IS OF BULK AT MOST 1048576: true; the input reads as it did. -/
def fnExactIsValidBridgeUptoRow : OpenClaim := { program := "yteciijnpfapmhaa", sum := "0cee99e74d2e0ac596f383d70de2715b046dd30f58c029088d50e7df5abcdd87", func := "loop.example/g00924/laws.FnExactIsValidBridge", spec := "fnExactIsValidBridge", apart := false, narrowed := true }
def FnExactIsValidBridgeUptoSaid : Prop := fnExactIsValidBridgeUptoRow.holds Try.pinned (OpenSpec.upto fnExactIsValidBridgeSpec)

/-- 'laws.FnExactMayOpen', WHERE WHAT IT READS IS OF BULK AT MOST 1048576: true; the input reads as it did. -/
def fnExactMayOpenUptoRow : OpenClaim := { program := "yteciijnpfapmhaa", sum := "0cee99e74d2e0ac596f383d70de2715b046dd30f58c029088d50e7df5abcdd87", func := "loop.example/g00924/laws.FnExactMayOpen", spec := "fnExactMayOpen", unfollowed := true, recurses := true, apart := false, narrowed := true }
def FnExactMayOpenUptoSaid : Prop := fnExactMayOpenUptoRow.holds Try.pinned (OpenSpec.upto fnExactMayOpenSpec)

/-- 'laws.FnExactNextOpening', WHERE WHAT IT READS IS OF BULK AT MOST 1048576: true; the input reads as it did. -/
def fnExactNextOpeningUptoRow : OpenClaim := { program := "yteciijnpfapmhaa", sum := "0cee99e74d2e0ac596f383d70de2715b046dd30f58c029088d50e7df5abcdd87", func := "loop.example/g00924/laws.FnExactNextOpening", spec := "fnExactNextOpening", unfollowed := true, recurses := true, apart := false, narrowed := true }
def FnExactNextOpeningUptoSaid : Prop := fnExactNextOpeningUptoRow.holds Try.pinned (OpenSpec.upto fnExactNextOpeningSpec)

/-- 'laws.FnExactLastOpening', WHERE WHAT IT READS IS OF BULK AT MOST 1048576: true; the input reads as it did. -/
def fnExactLastOpeningUptoRow : OpenClaim := { program := "yteciijnpfapmhaa", sum := "0cee99e74d2e0ac596f383d70de2715b046dd30f58c029088d50e7df5abcdd87", func := "loop.example/g00924/laws.FnExactLastOpening", spec := "fnExactLastOpening", unfollowed := true, recurses := true, apart := false, narrowed := true }
def FnExactLastOpeningUptoSaid : Prop := fnExactLastOpeningUptoRow.holds Try.pinned (OpenSpec.upto fnExactLastOpeningSpec)

/-- 'laws.FnExactIsBridgePlan', WHERE WHAT IT READS IS OF BULK AT MOST 1048576: true; the input reads as it did. -/
def fnExactIsBridgePlanUptoRow : OpenClaim := { program := "yteciijnpfapmhaa", sum := "0cee99e74d2e0ac596f383d70de2715b046dd30f58c029088d50e7df5abcdd87", func := "loop.example/g00924/laws.FnExactIsBridgePlan", spec := "fnExactIsBridgePlan", unfollowed := true, recurses := true, apart := false, narrowed := true }
def FnExactIsBridgePlanUptoSaid : Prop := fnExactIsBridgePlanUptoRow.holds Try.pinned (OpenSpec.upto fnExactIsBridgePlanSpec)

/-- 'laws.FnExactOpenMinutes', WHERE WHAT IT READS IS OF BULK AT MOST 1048576: true; the input reads as it did. -/
def fnExactOpenMinutesUptoRow : OpenClaim := { program := "yteciijnpfapmhaa", sum := "0cee99e74d2e0ac596f383d70de2715b046dd30f58c029088d50e7df5abcdd87", func := "loop.example/g00924/laws.FnExactOpenMinutes", spec := "fnExactOpenMinutes", unfollowed := true, recurses := true, apart := false, narrowed := true }
def FnExactOpenMinutesUptoSaid : Prop := fnExactOpenMinutesUptoRow.holds Try.pinned (OpenSpec.upto fnExactOpenMinutesSpec)

/-- 'laws.FnExactWaitingSum', WHERE WHAT IT READS IS OF BULK AT MOST 1048576: true; the input reads as it did. -/
def fnExactWaitingSumUptoRow : OpenClaim := { program := "yteciijnpfapmhaa", sum := "0cee99e74d2e0ac596f383d70de2715b046dd30f58c029088d50e7df5abcdd87", func := "loop.example/g00924/laws.FnExactWaitingSum", spec := "fnExactWaitingSum", unfollowed := true, recurses := true, apart := false, narrowed := true }
def FnExactWaitingSumUptoSaid : Prop := fnExactWaitingSumUptoRow.holds Try.pinned (OpenSpec.upto fnExactWaitingSumSpec)

/-- 'laws.FnExactAddClosure', WHERE WHAT IT READS IS OF BULK AT MOST 1048576: true; the input reads as it did. -/
def fnExactAddClosureUptoRow : OpenClaim := { program := "yteciijnpfapmhaa", sum := "0cee99e74d2e0ac596f383d70de2715b046dd30f58c029088d50e7df5abcdd87", func := "loop.example/g00924/laws.FnExactAddClosure", spec := "fnExactAddClosure", inPlace := ["slices.overlaps[loop.example/g00924/impl.Interval]"], apart := false, narrowed := true }
def FnExactAddClosureUptoSaid : Prop := fnExactAddClosureUptoRow.holds Try.pinned (OpenSpec.upto fnExactAddClosureSpec)

/-- 'laws.FnExactFewestOpenings', WHERE WHAT IT READS IS OF BULK AT MOST 1048576: true; the input reads as it did. -/
def fnExactFewestOpeningsUptoRow : OpenClaim := { program := "yteciijnpfapmhaa", sum := "0cee99e74d2e0ac596f383d70de2715b046dd30f58c029088d50e7df5abcdd87", func := "loop.example/g00924/laws.FnExactFewestOpenings", spec := "fnExactFewestOpenings", unfollowed := true, recurses := true, apart := false, narrowed := true }
def FnExactFewestOpeningsUptoSaid : Prop := fnExactFewestOpeningsUptoRow.holds Try.pinned (OpenSpec.upto fnExactFewestOpeningsSpec)

/-- 'laws.FnBridges', WHERE WHAT IT READS IS OF BULK AT MOST 1048576: true; the input reads as it did. -/
def fnBridgesUptoRow : OpenClaim := { program := "yteciijnpfapmhaa", sum := "0cee99e74d2e0ac596f383d70de2715b046dd30f58c029088d50e7df5abcdd87", func := "loop.example/g00924/laws.FnBridges", spec := "fnBridges", unfollowed := true, recurses := true, apart := false, narrowed := true }
def FnBridgesUptoSaid : Prop := fnBridgesUptoRow.holds Try.pinned (OpenSpec.upto fnBridgesSpec)

/-- 'laws.FnOpenings', WHERE WHAT IT READS IS OF BULK AT MOST 1048576: true; the input reads as it did. -/
def fnOpeningsUptoRow : OpenClaim := { program := "yteciijnpfapmhaa", sum := "0cee99e74d2e0ac596f383d70de2715b046dd30f58c029088d50e7df5abcdd87", func := "loop.example/g00924/laws.FnOpenings", spec := "fnOpenings", inPlace := ["slices.overlaps[loop.example/g00924/impl.Interval]"], unfollowed := true, recurses := true, apart := false, narrowed := true }
def FnOpeningsUptoSaid : Prop := fnOpeningsUptoRow.holds Try.pinned (OpenSpec.upto fnOpeningsSpec)

end Rows
end Go.Proofs.Yteciijnpfapmhaa
