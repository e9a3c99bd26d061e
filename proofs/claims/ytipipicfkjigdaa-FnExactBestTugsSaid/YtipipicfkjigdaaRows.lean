/-
  No cell of these rows narrows 'for every input' (looked for: loops, veiled, ifaces, maps, wideKeys, modest, calm, conditions, laid).
  DERIVED. THE GIVEN ROWS OF THIS SEAT. 9 by the template 'for every input the law returns true; each argument reads behind the call as it read before'; 0 by the template 'total and deterministic' (their statements: YtipipicfkjigdaaTotals.lean).
  GIVEN WITH THE SEED: the statements are not yours to turn. If you find one false, say at which input.
  Laid BY PROGRAM, IN A SANDBOX (cutbox-rows.mjs): the forced cells as the released guide's own fill.sh prints them over the translation e68ac636af1cbbe7… (all of the seat's roots in one cut). By AI agents, Wed Nov 11 2026. No macro, syntax, notation, axiom, sorry.
-/
import Derived.Test.YtipipicfkjigdaaChecked
import GoSem.Claim
import GoSem.ClaimJoined
import GoSem.ClaimMapViews
import Derived.JoinedTies
import Derived.KernelRfl
namespace Go.Proofs.Ytipipicfkjigdaa
/- THE CELL 'sum', in the pinned program and in every row, IS THE sha256 OF THE DUMP (.gsa) THAT YtipipicfkjigdaaProg.lean LOADS. Nothing in Lean hashes anything: it is a label: what it is worth is what the hold of that sum in a sandbox is worth. -/
noncomputable def Try.pinned : Pinned := { name := "ytipipicfkjigdaa", sum := "e68ac636af1cbbe71cba38b5b9bf30ed553e9a7d03dbe30b305e1d71a00320c5", checked := Try.checked }
namespace Rows
def none {H : Type} : Left H := { results := [], args := [] }

/-- 'laws.FnExactAreTugs': WHATEVER THE INPUT: true; the input reads as it did. -/
def fnExactAreTugsSpec : ChangeSpec := { name := "fnExactAreTugs", fn := fun _ => fun
  | [d] => { results := [.lit (.bool true)], args := [d] }
  | _ => none }
def fnExactAreTugsRow : OpenClaim := { program := "ytipipicfkjigdaa", sum := "e68ac636af1cbbe71cba38b5b9bf30ed553e9a7d03dbe30b305e1d71a00320c5", func := "loop.example/g00924/laws.FnExactAreTugs", spec := "fnExactAreTugs", apart := false }
def FnExactAreTugsSaid : Prop := fnExactAreTugsRow.holds Try.pinned (OpenSpec.ofChange fnExactAreTugsSpec)

/-- ITS FALSE NEIGHBOUR: 'it returns false'. Refute it at one input. -/
def fnExactAreTugsWrong : ChangeSpec := { name := "fnExactAreTugs", fn := fun _ => fun
  | [d] => { results := [.lit (.bool false)], args := [d] }
  | _ => none }
def FnExactAreTugsWrongFalsely : Prop := fnExactAreTugsRow.holds Try.pinned (OpenSpec.ofChange fnExactAreTugsWrong)

/-- 'laws.FnExactAreTugJobs': WHATEVER THE INPUT: true; the input reads as it did. -/
def fnExactAreTugJobsSpec : ChangeSpec := { name := "fnExactAreTugJobs", fn := fun _ => fun
  | [d] => { results := [.lit (.bool true)], args := [d] }
  | _ => none }
def fnExactAreTugJobsRow : OpenClaim := { program := "ytipipicfkjigdaa", sum := "e68ac636af1cbbe71cba38b5b9bf30ed553e9a7d03dbe30b305e1d71a00320c5", func := "loop.example/g00924/laws.FnExactAreTugJobs", spec := "fnExactAreTugJobs", apart := false }
def FnExactAreTugJobsSaid : Prop := fnExactAreTugJobsRow.holds Try.pinned (OpenSpec.ofChange fnExactAreTugJobsSpec)

/-- ITS FALSE NEIGHBOUR: 'it returns false'. Refute it at one input. -/
def fnExactAreTugJobsWrong : ChangeSpec := { name := "fnExactAreTugJobs", fn := fun _ => fun
  | [d] => { results := [.lit (.bool false)], args := [d] }
  | _ => none }
def FnExactAreTugJobsWrongFalsely : Prop := fnExactAreTugJobsRow.holds Try.pinned (OpenSpec.ofChange fnExactAreTugJobsWrong)

/-- 'laws.FnExactNearestTug': WHATEVER THE INPUT: true; the input reads as it did. -/
def fnExactNearestTugSpec : ChangeSpec := { name := "fnExactNearestTug", fn := fun _ => fun
  | [d1, d2] => { results := [.lit (.bool true)], args := [d1, d2] }
  | _ => none }
def fnExactNearestTugRow : OpenClaim := { program := "ytipipicfkjigdaa", sum := "e68ac636af1cbbe71cba38b5b9bf30ed553e9a7d03dbe30b305e1d71a00320c5", func := "loop.example/g00924/laws.FnExactNearestTug", spec := "fnExactNearestTug", apart := false }
def FnExactNearestTugSaid : Prop := fnExactNearestTugRow.holds Try.pinned (OpenSpec.ofChange fnExactNearestTugSpec)

/-- ITS FALSE NEIGHBOUR: 'it returns false'. Refute it at one input. -/
def fnExactNearestTugWrong : ChangeSpec := { name := "fnExactNearestTug", fn := fun _ => fun
  | [d1, d2] => { results := [.lit (.bool false)], args := [d1, d2] }
  | _ => none }
def FnExactNearestTugWrongFalsely : Prop := fnExactNearestTugRow.holds Try.pinned (OpenSpec.ofChange fnExactNearestTugWrong)

/-- 'laws.FnExactStrongTugs': WHATEVER THE INPUT: true; the input reads as it did. -/
def fnExactStrongTugsSpec : ChangeSpec := { name := "fnExactStrongTugs", fn := fun _ => fun
  | [d1, d2] => { results := [.lit (.bool true)], args := [d1, d2] }
  | _ => none }
def fnExactStrongTugsRow : OpenClaim := { program := "ytipipicfkjigdaa", sum := "e68ac636af1cbbe71cba38b5b9bf30ed553e9a7d03dbe30b305e1d71a00320c5", func := "loop.example/g00924/laws.FnExactStrongTugs", spec := "fnExactStrongTugs", apart := false }
def FnExactStrongTugsSaid : Prop := fnExactStrongTugsRow.holds Try.pinned (OpenSpec.ofChange fnExactStrongTugsSpec)

/-- ITS FALSE NEIGHBOUR: 'it returns false'. Refute it at one input. -/
def fnExactStrongTugsWrong : ChangeSpec := { name := "fnExactStrongTugs", fn := fun _ => fun
  | [d1, d2] => { results := [.lit (.bool false)], args := [d1, d2] }
  | _ => none }
def FnExactStrongTugsWrongFalsely : Prop := fnExactStrongTugsRow.holds Try.pinned (OpenSpec.ofChange fnExactStrongTugsWrong)

/-- 'laws.FnExactWaitingTicks': WHATEVER THE INPUT: true; the input reads as it did. -/
def fnExactWaitingTicksSpec : ChangeSpec := { name := "fnExactWaitingTicks", fn := fun _ => fun
  | [d1, d2, d3] => { results := [.lit (.bool true)], args := [d1, d2, d3] }
  | _ => none }
def fnExactWaitingTicksRow : OpenClaim := { program := "ytipipicfkjigdaa", sum := "e68ac636af1cbbe71cba38b5b9bf30ed553e9a7d03dbe30b305e1d71a00320c5", func := "loop.example/g00924/laws.FnExactWaitingTicks", spec := "fnExactWaitingTicks", unfollowed := true, recurses := true, apart := false }
def FnExactWaitingTicksSaid : Prop := fnExactWaitingTicksRow.holds Try.pinned (OpenSpec.ofChange fnExactWaitingTicksSpec)

/-- ITS FALSE NEIGHBOUR: 'it returns false'. Refute it at one input. -/
def fnExactWaitingTicksWrong : ChangeSpec := { name := "fnExactWaitingTicks", fn := fun _ => fun
  | [d1, d2, d3] => { results := [.lit (.bool false)], args := [d1, d2, d3] }
  | _ => none }
def FnExactWaitingTicksWrongFalsely : Prop := fnExactWaitingTicksRow.holds Try.pinned (OpenSpec.ofChange fnExactWaitingTicksWrong)

/-- 'laws.FnExactLastEnd': WHATEVER THE INPUT: true; the input reads as it did. -/
def fnExactLastEndSpec : ChangeSpec := { name := "fnExactLastEnd", fn := fun _ => fun
  | [d1, d2, d3] => { results := [.lit (.bool true)], args := [d1, d2, d3] }
  | _ => none }
def fnExactLastEndRow : OpenClaim := { program := "ytipipicfkjigdaa", sum := "e68ac636af1cbbe71cba38b5b9bf30ed553e9a7d03dbe30b305e1d71a00320c5", func := "loop.example/g00924/laws.FnExactLastEnd", spec := "fnExactLastEnd", unfollowed := true, recurses := true, apart := false }
def FnExactLastEndSaid : Prop := fnExactLastEndRow.holds Try.pinned (OpenSpec.ofChange fnExactLastEndSpec)

/-- ITS FALSE NEIGHBOUR: 'it returns false'. Refute it at one input. -/
def fnExactLastEndWrong : ChangeSpec := { name := "fnExactLastEnd", fn := fun _ => fun
  | [d1, d2, d3] => { results := [.lit (.bool false)], args := [d1, d2, d3] }
  | _ => none }
def FnExactLastEndWrongFalsely : Prop := fnExactLastEndRow.holds Try.pinned (OpenSpec.ofChange fnExactLastEndWrong)

/-- 'laws.FnExactJobEnds': WHATEVER THE INPUT: true; the input reads as it did. -/
def fnExactJobEndsSpec : ChangeSpec := { name := "fnExactJobEnds", fn := fun _ => fun
  | [d1, d2, d3] => { results := [.lit (.bool true)], args := [d1, d2, d3] }
  | _ => none }
def fnExactJobEndsRow : OpenClaim := { program := "ytipipicfkjigdaa", sum := "e68ac636af1cbbe71cba38b5b9bf30ed553e9a7d03dbe30b305e1d71a00320c5", func := "loop.example/g00924/laws.FnExactJobEnds", spec := "fnExactJobEnds", unfollowed := true, recurses := true, apart := false }
def FnExactJobEndsSaid : Prop := fnExactJobEndsRow.holds Try.pinned (OpenSpec.ofChange fnExactJobEndsSpec)

/-- ITS FALSE NEIGHBOUR: 'it returns false'. Refute it at one input. -/
def fnExactJobEndsWrong : ChangeSpec := { name := "fnExactJobEnds", fn := fun _ => fun
  | [d1, d2, d3] => { results := [.lit (.bool false)], args := [d1, d2, d3] }
  | _ => none }
def FnExactJobEndsWrongFalsely : Prop := fnExactJobEndsRow.holds Try.pinned (OpenSpec.ofChange fnExactJobEndsWrong)

/-- 'laws.FnExactBestTugs': WHATEVER THE INPUT: true; the input reads as it did. -/
def fnExactBestTugsSpec : ChangeSpec := { name := "fnExactBestTugs", fn := fun _ => fun
  | [d1, d2] => { results := [.lit (.bool true)], args := [d1, d2] }
  | _ => none }
def fnExactBestTugsRow : OpenClaim := { program := "ytipipicfkjigdaa", sum := "e68ac636af1cbbe71cba38b5b9bf30ed553e9a7d03dbe30b305e1d71a00320c5", func := "loop.example/g00924/laws.FnExactBestTugs", spec := "fnExactBestTugs", unfollowed := true, recurses := true, apart := false }
def FnExactBestTugsSaid : Prop := fnExactBestTugsRow.holds Try.pinned (OpenSpec.ofChange fnExactBestTugsSpec)

/-- ITS FALSE NEIGHBOUR: 'it returns false'. Refute it at one input. -/
def fnExactBestTugsWrong : ChangeSpec := { name := "fnExactBestTugs", fn := fun _ => fun
  | [d1, d2] => { results := [.lit (.bool false)], args := [d1, d2] }
  | _ => none }
def FnExactBestTugsWrongFalsely : Prop := fnExactBestTugsRow.holds Try.pinned (OpenSpec.ofChange fnExactBestTugsWrong)

/-- 'laws.FnExactTowedKilometers': WHATEVER THE INPUT: true; the input reads as it did. -/
def fnExactTowedKilometersSpec : ChangeSpec := { name := "fnExactTowedKilometers", fn := fun _ => fun
  | [d1, d2, d3, d4] => { results := [.lit (.bool true)], args := [d1, d2, d3, d4] }
  | _ => none }
def fnExactTowedKilometersRow : OpenClaim := { program := "ytipipicfkjigdaa", sum := "e68ac636af1cbbe71cba38b5b9bf30ed553e9a7d03dbe30b305e1d71a00320c5", func := "loop.example/g00924/laws.FnExactTowedKilometers", spec := "fnExactTowedKilometers", unfollowed := true, recurses := true, apart := false }
def FnExactTowedKilometersSaid : Prop := fnExactTowedKilometersRow.holds Try.pinned (OpenSpec.ofChange fnExactTowedKilometersSpec)

/-- ITS FALSE NEIGHBOUR: 'it returns false'. Refute it at one input. -/
def fnExactTowedKilometersWrong : ChangeSpec := { name := "fnExactTowedKilometers", fn := fun _ => fun
  | [d1, d2, d3, d4] => { results := [.lit (.bool false)], args := [d1, d2, d3, d4] }
  | _ => none }
def FnExactTowedKilometersWrongFalsely : Prop := fnExactTowedKilometersRow.holds Try.pinned (OpenSpec.ofChange fnExactTowedKilometersWrong)

/- THE SECOND FORM. 'bulk': how many values and letters a reading holds, each counted each time it is reached (what is shared counts as often as it is met; a slice's spare places count too). A statement '..UptoSaid' is the law's where the arguments, and the package variables that the reading takes, are together of bulk at most 1048576: NARROWER than '..Said'. Prove '..Said' where nothing that the law and all that it calls make is longer than what came in: it says more and counts as full. Else prove '..UptoSaid'. A law counts once. -/
mutual
def uptoBulk {H : Type} : DataW H → Nat
  | .lit (.string bytes) => bytes.length + 1
  | .lit _ => 1
  | .nil => 1
  | .ptr d => uptoBulk d + 1
  | .slice elems spare => uptoBulkAll elems + uptoBulkAll spare + 1
  | .agg parts => uptoBulkAll parts + 1
  | .iface _ d => uptoBulk d + 1
  | .map entries => uptoBulkEntries entries + 1
  | .held _ => 1
def uptoBulkAll {H : Type} : List (DataW H) → Nat
  | [] => 0
  | d :: r => uptoBulk d + uptoBulkAll r
def uptoBulkEntries {H : Type} : List (Lit × DataW H) → Nat
  | [] => 0
  | x :: r => uptoBulkEntry x + uptoBulkEntries r
def uptoBulkEntry {H : Type} : Lit × DataW H → Nat
  | (.string bytes, d) => bytes.length + uptoBulk d + 1
  | (_, d) => uptoBulk d + 1
 end
def uptoSmall : (H : Type) → List (DataW H) → Bool := fun _ ds => decide (uptoBulkAll ds ≤ 1048576)
def OpenSpec.upto (s : _root_.Go.ChangeSpec) : _root_.Go.OpenSpec := { _root_.Go.OpenSpec.ofChange s with cond := some uptoSmall }

/-- 'laws.FnExactAreTugs', WHERE WHAT IT READS IS OF BULK AT MOST 1048576: true; the input reads as it did. -/
def fnExactAreTugsUptoRow : OpenClaim := { program := "ytipipicfkjigdaa", sum := "e68ac636af1cbbe71cba38b5b9bf30ed553e9a7d03dbe30b305e1d71a00320c5", func := "loop.example/g00924/laws.FnExactAreTugs", spec := "fnExactAreTugs", apart := false, narrowed := true }
def FnExactAreTugsUptoSaid : Prop := fnExactAreTugsUptoRow.holds Try.pinned (OpenSpec.upto fnExactAreTugsSpec)

/-- 'laws.FnExactAreTugJobs', WHERE WHAT IT READS IS OF BULK AT MOST 1048576: true; the input reads as it did. -/
def fnExactAreTugJobsUptoRow : OpenClaim := { program := "ytipipicfkjigdaa", sum := "e68ac636af1cbbe71cba38b5b9bf30ed553e9a7d03dbe30b305e1d71a00320c5", func := "loop.example/g00924/laws.FnExactAreTugJobs", spec := "fnExactAreTugJobs", apart := false, narrowed := true }
def FnExactAreTugJobsUptoSaid : Prop := fnExactAreTugJobsUptoRow.holds Try.pinned (OpenSpec.upto fnExactAreTugJobsSpec)

/-- 'laws.FnExactNearestTug', WHERE WHAT IT READS IS OF BULK AT MOST 1048576: true; the input reads as it did. -/
def fnExactNearestTugUptoRow : OpenClaim := { program := "ytipipicfkjigdaa", sum := "e68ac636af1cbbe71cba38b5b9bf30ed553e9a7d03dbe30b305e1d71a00320c5", func := "loop.example/g00924/laws.FnExactNearestTug", spec := "fnExactNearestTug", apart := false, narrowed := true }
def FnExactNearestTugUptoSaid : Prop := fnExactNearestTugUptoRow.holds Try.pinned (OpenSpec.upto fnExactNearestTugSpec)

/-- 'laws.FnExactStrongTugs', WHERE WHAT IT READS IS OF BULK AT MOST 1048576: true; the input reads as it did. -/
def fnExactStrongTugsUptoRow : OpenClaim := { program := "ytipipicfkjigdaa", sum := "e68ac636af1cbbe71cba38b5b9bf30ed553e9a7d03dbe30b305e1d71a00320c5", func := "loop.example/g00924/laws.FnExactStrongTugs", spec := "fnExactStrongTugs", apart := false, narrowed := true }
def FnExactStrongTugsUptoSaid : Prop := fnExactStrongTugsUptoRow.holds Try.pinned (OpenSpec.upto fnExactStrongTugsSpec)

/-- 'laws.FnExactWaitingTicks', WHERE WHAT IT READS IS OF BULK AT MOST 1048576: true; the input reads as it did. -/
def fnExactWaitingTicksUptoRow : OpenClaim := { program := "ytipipicfkjigdaa", sum := "e68ac636af1cbbe71cba38b5b9bf30ed553e9a7d03dbe30b305e1d71a00320c5", func := "loop.example/g00924/laws.FnExactWaitingTicks", spec := "fnExactWaitingTicks", unfollowed := true, recurses := true, apart := false, narrowed := true }
def FnExactWaitingTicksUptoSaid : Prop := fnExactWaitingTicksUptoRow.holds Try.pinned (OpenSpec.upto fnExactWaitingTicksSpec)

/-- 'laws.FnExactLastEnd', WHERE WHAT IT READS IS OF BULK AT MOST 1048576: true; the input reads as it did. -/
def fnExactLastEndUptoRow : OpenClaim := { program := "ytipipicfkjigdaa", sum := "e68ac636af1cbbe71cba38b5b9bf30ed553e9a7d03dbe30b305e1d71a00320c5", func := "loop.example/g00924/laws.FnExactLastEnd", spec := "fnExactLastEnd", unfollowed := true, recurses := true, apart := false, narrowed := true }
def FnExactLastEndUptoSaid : Prop := fnExactLastEndUptoRow.holds Try.pinned (OpenSpec.upto fnExactLastEndSpec)

/-- 'laws.FnExactJobEnds', WHERE WHAT IT READS IS OF BULK AT MOST 1048576: true; the input reads as it did. -/
def fnExactJobEndsUptoRow : OpenClaim := { program := "ytipipicfkjigdaa", sum := "e68ac636af1cbbe71cba38b5b9bf30ed553e9a7d03dbe30b305e1d71a00320c5", func := "loop.example/g00924/laws.FnExactJobEnds", spec := "fnExactJobEnds", unfollowed := true, recurses := true, apart := false, narrowed := true }
def FnExactJobEndsUptoSaid : Prop := fnExactJobEndsUptoRow.holds Try.pinned (OpenSpec.upto fnExactJobEndsSpec)

/-- 'laws.FnExactBestTugs', WHERE WHAT IT READS IS OF BULK AT MOST 1048576: true; the input reads as it did. -/
def fnExactBestTugsUptoRow : OpenClaim := { program := "ytipipicfkjigdaa", sum := "e68ac636af1cbbe71cba38b5b9bf30ed553e9a7d03dbe30b305e1d71a00320c5", func := "loop.example/g00924/laws.FnExactBestTugs", spec := "fnExactBestTugs", unfollowed := true, recurses := true, apart := false, narrowed := true }
def FnExactBestTugsUptoSaid : Prop := fnExactBestTugsUptoRow.holds Try.pinned (OpenSpec.upto fnExactBestTugsSpec)

/-- 'laws.FnExactTowedKilometers', WHERE WHAT IT READS IS OF BULK AT MOST 1048576: true; the input reads as it did. -/
def fnExactTowedKilometersUptoRow : OpenClaim := { program := "ytipipicfkjigdaa", sum := "e68ac636af1cbbe71cba38b5b9bf30ed553e9a7d03dbe30b305e1d71a00320c5", func := "loop.example/g00924/laws.FnExactTowedKilometers", spec := "fnExactTowedKilometers", unfollowed := true, recurses := true, apart := false, narrowed := true }
def FnExactTowedKilometersUptoSaid : Prop := fnExactTowedKilometersUptoRow.holds Try.pinned (OpenSpec.upto fnExactTowedKilometersSpec)

end Rows
end Go.Proofs.Ytipipicfkjigdaa
