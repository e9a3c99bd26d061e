/-
  No cell of these rows narrows 'for every input' (looked for: loops, veiled, ifaces, maps, wideKeys, modest, calm, conditions, laid).
  DERIVED. THE GIVEN ROWS OF THIS SEAT. 12 by the template 'for every input the law returns true; each argument reads behind the call as it read before'; 0 by the template 'total and deterministic' (their statements: YthlmeofjjmfpnaaTotals.lean).
  GIVEN WITH THE SEED: the statements are not yours to turn. If you find one false, say at which input.
  Laid BY PROGRAM, IN A SANDBOX (cutbox-rows.mjs): the forced cells as the released guide's own fill.sh prints them over the translation 426160e9c8f77130… (all of the seat's roots in one cut). By AI agents, Wed Nov 11 2026. No macro, syntax, notation, axiom, sorry.
-/
import Derived.Test.YthlmeofjjmfpnaaChecked
import GoSem.Claim
import GoSem.ClaimJoined
import GoSem.ClaimMapViews
import Derived.JoinedTies
import Derived.KernelRfl
namespace Go.Proofs.Ythlmeofjjmfpnaa
/- THE CELL 'sum', in the pinned program and in every row, IS THE sha256 OF THE DUMP (.gsa) THAT YthlmeofjjmfpnaaProg.lean LOADS. Nothing in Lean hashes anything: it is a label: what it is worth is what the hold of that sum in a sandbox is worth. -/
noncomputable def Try.pinned : Pinned := { name := "ythlmeofjjmfpnaa", sum := "426160e9c8f771300242d97856c63a08d09602c22088b85d5e03b46a4229caf5", checked := Try.checked }
namespace Rows
def none {H : Type} : Left H := { results := [], args := [] }

/-- 'laws.FnExactIsInterval': WHATEVER THE INPUT: true; the input reads as it did. -/
def fnExactIsIntervalSpec : ChangeSpec := { name := "fnExactIsInterval", fn := fun _ => fun
  | [d] => { results := [.lit (.bool true)], args := [d] }
  | _ => none }
def fnExactIsIntervalRow : OpenClaim := { program := "ythlmeofjjmfpnaa", sum := "426160e9c8f771300242d97856c63a08d09602c22088b85d5e03b46a4229caf5", func := "loop.example/g00924/laws.FnExactIsInterval", spec := "fnExactIsInterval", apart := false }
def FnExactIsIntervalSaid : Prop := fnExactIsIntervalRow.holds Try.pinned (OpenSpec.ofChange fnExactIsIntervalSpec)

/-- ITS FALSE NEIGHBOUR: 'it returns false'. Refute it at one input. -/
def fnExactIsIntervalWrong : ChangeSpec := { name := "fnExactIsInterval", fn := fun _ => fun
  | [d] => { results := [.lit (.bool false)], args := [d] }
  | _ => none }
def FnExactIsIntervalWrongFalsely : Prop := fnExactIsIntervalRow.holds Try.pinned (OpenSpec.ofChange fnExactIsIntervalWrong)

/-- 'laws.FnExactInTime': WHATEVER THE INPUT: true; the input reads as it did. -/
def fnExactInTimeSpec : ChangeSpec := { name := "fnExactInTime", fn := fun _ => fun
  | [d1, d2] => { results := [.lit (.bool true)], args := [d1, d2] }
  | _ => none }
def fnExactInTimeRow : OpenClaim := { program := "ythlmeofjjmfpnaa", sum := "426160e9c8f771300242d97856c63a08d09602c22088b85d5e03b46a4229caf5", func := "loop.example/g00924/laws.FnExactInTime", spec := "fnExactInTime", apart := false }
def FnExactInTimeSaid : Prop := fnExactInTimeRow.holds Try.pinned (OpenSpec.ofChange fnExactInTimeSpec)

/-- ITS FALSE NEIGHBOUR: 'it returns false'. Refute it at one input. -/
def fnExactInTimeWrong : ChangeSpec := { name := "fnExactInTime", fn := fun _ => fun
  | [d1, d2] => { results := [.lit (.bool false)], args := [d1, d2] }
  | _ => none }
def FnExactInTimeWrongFalsely : Prop := fnExactInTimeRow.holds Try.pinned (OpenSpec.ofChange fnExactInTimeWrong)

/-- 'laws.FnExactNotBefore': WHATEVER THE INPUT: true; the input reads as it did. -/
def fnExactNotBeforeSpec : ChangeSpec := { name := "fnExactNotBefore", fn := fun _ => fun
  | [d1, d2] => { results := [.lit (.bool true)], args := [d1, d2] }
  | _ => none }
def fnExactNotBeforeRow : OpenClaim := { program := "ythlmeofjjmfpnaa", sum := "426160e9c8f771300242d97856c63a08d09602c22088b85d5e03b46a4229caf5", func := "loop.example/g00924/laws.FnExactNotBefore", spec := "fnExactNotBefore", apart := false }
def FnExactNotBeforeSaid : Prop := fnExactNotBeforeRow.holds Try.pinned (OpenSpec.ofChange fnExactNotBeforeSpec)

/-- ITS FALSE NEIGHBOUR: 'it returns false'. Refute it at one input. -/
def fnExactNotBeforeWrong : ChangeSpec := { name := "fnExactNotBefore", fn := fun _ => fun
  | [d1, d2] => { results := [.lit (.bool false)], args := [d1, d2] }
  | _ => none }
def FnExactNotBeforeWrongFalsely : Prop := fnExactNotBeforeRow.holds Try.pinned (OpenSpec.ofChange fnExactNotBeforeWrong)

/-- 'laws.FnExactCoverInterval': WHATEVER THE INPUT: true; the input reads as it did. -/
def fnExactCoverIntervalSpec : ChangeSpec := { name := "fnExactCoverInterval", fn := fun _ => fun
  | [d1, d2] => { results := [.lit (.bool true)], args := [d1, d2] }
  | _ => none }
def fnExactCoverIntervalRow : OpenClaim := { program := "ythlmeofjjmfpnaa", sum := "426160e9c8f771300242d97856c63a08d09602c22088b85d5e03b46a4229caf5", func := "loop.example/g00924/laws.FnExactCoverInterval", spec := "fnExactCoverInterval", apart := false }
def FnExactCoverIntervalSaid : Prop := fnExactCoverIntervalRow.holds Try.pinned (OpenSpec.ofChange fnExactCoverIntervalSpec)

/-- ITS FALSE NEIGHBOUR: 'it returns false'. Refute it at one input. -/
def fnExactCoverIntervalWrong : ChangeSpec := { name := "fnExactCoverInterval", fn := fun _ => fun
  | [d1, d2] => { results := [.lit (.bool false)], args := [d1, d2] }
  | _ => none }
def FnExactCoverIntervalWrongFalsely : Prop := fnExactCoverIntervalRow.holds Try.pinned (OpenSpec.ofChange fnExactCoverIntervalWrong)

/-- 'laws.FnExactAfterLeg': WHATEVER THE INPUT: true; the input reads as it did. -/
def fnExactAfterLegSpec : ChangeSpec := { name := "fnExactAfterLeg", fn := fun _ => fun
  | [d1, d2] => { results := [.lit (.bool true)], args := [d1, d2] }
  | _ => none }
def fnExactAfterLegRow : OpenClaim := { program := "ythlmeofjjmfpnaa", sum := "426160e9c8f771300242d97856c63a08d09602c22088b85d5e03b46a4229caf5", func := "loop.example/g00924/laws.FnExactAfterLeg", spec := "fnExactAfterLeg", apart := false }
def FnExactAfterLegSaid : Prop := fnExactAfterLegRow.holds Try.pinned (OpenSpec.ofChange fnExactAfterLegSpec)

/-- ITS FALSE NEIGHBOUR: 'it returns false'. Refute it at one input. -/
def fnExactAfterLegWrong : ChangeSpec := { name := "fnExactAfterLeg", fn := fun _ => fun
  | [d1, d2] => { results := [.lit (.bool false)], args := [d1, d2] }
  | _ => none }
def FnExactAfterLegWrongFalsely : Prop := fnExactAfterLegRow.holds Try.pinned (OpenSpec.ofChange fnExactAfterLegWrong)

/-- 'laws.FnExactCommonInterval': WHATEVER THE INPUT: true; the input reads as it did. -/
def fnExactCommonIntervalSpec : ChangeSpec := { name := "fnExactCommonInterval", fn := fun _ => fun
  | [d1, d2] => { results := [.lit (.bool true)], args := [d1, d2] }
  | _ => none }
def fnExactCommonIntervalRow : OpenClaim := { program := "ythlmeofjjmfpnaa", sum := "426160e9c8f771300242d97856c63a08d09602c22088b85d5e03b46a4229caf5", func := "loop.example/g00924/laws.FnExactCommonInterval", spec := "fnExactCommonInterval", apart := false }
def FnExactCommonIntervalSaid : Prop := fnExactCommonIntervalRow.holds Try.pinned (OpenSpec.ofChange fnExactCommonIntervalSpec)

/-- ITS FALSE NEIGHBOUR: 'it returns false'. Refute it at one input. -/
def fnExactCommonIntervalWrong : ChangeSpec := { name := "fnExactCommonInterval", fn := fun _ => fun
  | [d1, d2] => { results := [.lit (.bool false)], args := [d1, d2] }
  | _ => none }
def FnExactCommonIntervalWrongFalsely : Prop := fnExactCommonIntervalRow.holds Try.pinned (OpenSpec.ofChange fnExactCommonIntervalWrong)

/-- 'laws.FnExactBeforeLeg': WHATEVER THE INPUT: true; the input reads as it did. -/
def fnExactBeforeLegSpec : ChangeSpec := { name := "fnExactBeforeLeg", fn := fun _ => fun
  | [d1, d2] => { results := [.lit (.bool true)], args := [d1, d2] }
  | _ => none }
def fnExactBeforeLegRow : OpenClaim := { program := "ythlmeofjjmfpnaa", sum := "426160e9c8f771300242d97856c63a08d09602c22088b85d5e03b46a4229caf5", func := "loop.example/g00924/laws.FnExactBeforeLeg", spec := "fnExactBeforeLeg", apart := false }
def FnExactBeforeLegSaid : Prop := fnExactBeforeLegRow.holds Try.pinned (OpenSpec.ofChange fnExactBeforeLegSpec)

/-- ITS FALSE NEIGHBOUR: 'it returns false'. Refute it at one input. -/
def fnExactBeforeLegWrong : ChangeSpec := { name := "fnExactBeforeLeg", fn := fun _ => fun
  | [d1, d2] => { results := [.lit (.bool false)], args := [d1, d2] }
  | _ => none }
def FnExactBeforeLegWrongFalsely : Prop := fnExactBeforeLegRow.holds Try.pinned (OpenSpec.ofChange fnExactBeforeLegWrong)

/-- 'laws.FnExactLatestStart': WHATEVER THE INPUT: true; the input reads as it did. -/
def fnExactLatestStartSpec : ChangeSpec := { name := "fnExactLatestStart", fn := fun _ => fun
  | [d1, d2] => { results := [.lit (.bool true)], args := [d1, d2] }
  | _ => none }
def fnExactLatestStartRow : OpenClaim := { program := "ythlmeofjjmfpnaa", sum := "426160e9c8f771300242d97856c63a08d09602c22088b85d5e03b46a4229caf5", func := "loop.example/g00924/laws.FnExactLatestStart", spec := "fnExactLatestStart", unfollowed := true, recurses := true, apart := false }
def FnExactLatestStartSaid : Prop := fnExactLatestStartRow.holds Try.pinned (OpenSpec.ofChange fnExactLatestStartSpec)

/-- ITS FALSE NEIGHBOUR: 'it returns false'. Refute it at one input. -/
def fnExactLatestStartWrong : ChangeSpec := { name := "fnExactLatestStart", fn := fun _ => fun
  | [d1, d2] => { results := [.lit (.bool false)], args := [d1, d2] }
  | _ => none }
def FnExactLatestStartWrongFalsely : Prop := fnExactLatestStartRow.holds Try.pinned (OpenSpec.ofChange fnExactLatestStartWrong)

/-- 'laws.FnExactNarrowVoyage': WHATEVER THE INPUT: true; the input reads as it did. -/
def fnExactNarrowVoyageSpec : ChangeSpec := { name := "fnExactNarrowVoyage", fn := fun _ => fun
  | [d1, d2, d3] => { results := [.lit (.bool true)], args := [d1, d2, d3] }
  | _ => none }
def fnExactNarrowVoyageRow : OpenClaim := { program := "ythlmeofjjmfpnaa", sum := "426160e9c8f771300242d97856c63a08d09602c22088b85d5e03b46a4229caf5", func := "loop.example/g00924/laws.FnExactNarrowVoyage", spec := "fnExactNarrowVoyage", unfollowed := true, recurses := true, apart := false }
def FnExactNarrowVoyageSaid : Prop := fnExactNarrowVoyageRow.holds Try.pinned (OpenSpec.ofChange fnExactNarrowVoyageSpec)

/-- ITS FALSE NEIGHBOUR: 'it returns false'. Refute it at one input. -/
def fnExactNarrowVoyageWrong : ChangeSpec := { name := "fnExactNarrowVoyage", fn := fun _ => fun
  | [d1, d2, d3] => { results := [.lit (.bool false)], args := [d1, d2, d3] }
  | _ => none }
def FnExactNarrowVoyageWrongFalsely : Prop := fnExactNarrowVoyageRow.holds Try.pinned (OpenSpec.ofChange fnExactNarrowVoyageWrong)

/-- 'laws.FnExactAlongVoyage': WHATEVER THE INPUT: true; the input reads as it did. -/
def fnExactAlongVoyageSpec : ChangeSpec := { name := "fnExactAlongVoyage", fn := fun _ => fun
  | [d1, d2] => { results := [.lit (.bool true)], args := [d1, d2] }
  | _ => none }
def fnExactAlongVoyageRow : OpenClaim := { program := "ythlmeofjjmfpnaa", sum := "426160e9c8f771300242d97856c63a08d09602c22088b85d5e03b46a4229caf5", func := "loop.example/g00924/laws.FnExactAlongVoyage", spec := "fnExactAlongVoyage", unfollowed := true, recurses := true, apart := false }
def FnExactAlongVoyageSaid : Prop := fnExactAlongVoyageRow.holds Try.pinned (OpenSpec.ofChange fnExactAlongVoyageSpec)

/-- ITS FALSE NEIGHBOUR: 'it returns false'. Refute it at one input. -/
def fnExactAlongVoyageWrong : ChangeSpec := { name := "fnExactAlongVoyage", fn := fun _ => fun
  | [d1, d2] => { results := [.lit (.bool false)], args := [d1, d2] }
  | _ => none }
def FnExactAlongVoyageWrongFalsely : Prop := fnExactAlongVoyageRow.holds Try.pinned (OpenSpec.ofChange fnExactAlongVoyageWrong)

/-- 'laws.FnIntervals': WHATEVER THE INPUT: true; the input reads as it did. -/
def fnIntervalsSpec : ChangeSpec := { name := "fnIntervals", fn := fun _ => fun
  | [d] => { results := [.lit (.bool true)], args := [d] }
  | _ => none }
def fnIntervalsRow : OpenClaim := { program := "ythlmeofjjmfpnaa", sum := "426160e9c8f771300242d97856c63a08d09602c22088b85d5e03b46a4229caf5", func := "loop.example/g00924/laws.FnIntervals", spec := "fnIntervals", apart := false }
def FnIntervalsSaid : Prop := fnIntervalsRow.holds Try.pinned (OpenSpec.ofChange fnIntervalsSpec)

/-- ITS FALSE NEIGHBOUR: 'it returns false'. Refute it at one input. -/
def fnIntervalsWrong : ChangeSpec := { name := "fnIntervals", fn := fun _ => fun
  | [d] => { results := [.lit (.bool false)], args := [d] }
  | _ => none }
def FnIntervalsWrongFalsely : Prop := fnIntervalsRow.holds Try.pinned (OpenSpec.ofChange fnIntervalsWrong)

/-- 'laws.FnVoyages': WHATEVER THE INPUT: true; the input reads as it did. -/
def fnVoyagesSpec : ChangeSpec := { name := "fnVoyages", fn := fun _ => fun
  | [d] => { results := [.lit (.bool true)], args := [d] }
  | _ => none }
def fnVoyagesRow : OpenClaim := { program := "ythlmeofjjmfpnaa", sum := "426160e9c8f771300242d97856c63a08d09602c22088b85d5e03b46a4229caf5", func := "loop.example/g00924/laws.FnVoyages", spec := "fnVoyages", unfollowed := true, recurses := true, apart := false }
def FnVoyagesSaid : Prop := fnVoyagesRow.holds Try.pinned (OpenSpec.ofChange fnVoyagesSpec)

/-- ITS FALSE NEIGHBOUR: 'it returns false'. Refute it at one input. -/
def fnVoyagesWrong : ChangeSpec := { name := "fnVoyages", fn := fun _ => fun
  | [d] => { results := [.lit (.bool false)], args := [d] }
  | _ => none }
def FnVoyagesWrongFalsely : Prop := fnVoyagesRow.holds Try.pinned (OpenSpec.ofChange fnVoyagesWrong)

/- THE SECOND FORM. 'bulk': how many values and letters a reading holds, each counted each time it is reached (what is shared counts as often as it is met; a slice's spare places count too). A statement '..UptoSaid' is the law's where the arguments, and the package variables that the reading takes, are together of bulk at most 1048576: NARROWER than '..Said'. Prove '..Said' where nothing that the law and all that it calls make is longer than what came in: it says more and counts as full. Else prove '..UptoSaid'. A law counts once. -/
mutual
def uptoBulk {H : Type} : DataW H → Nat
  | .lit (.string bytes) => bytes.length + 1
  | .lit _ => 1
  | .nil => 1
  | .ptr d => uptoBulk d + 1
  | .slice elems spare => uptoBulkAll elems + uptoBulkAll spare + 1
  | .agg parts => uptoBulkAll parts + 1
  | .iface _ d => uptoBulk d + 1
  | .map entries => uptoBulkEntries entries + 1
  | .held _ => 1
def uptoBulkAll {H : Type} : List (DataW H) → Nat
  | [] => 0
  | d :: r => uptoBulk d + uptoBulkAll r
def uptoBulkEntries {H : Type} : List (Lit × DataW H) → Nat
  | [] => 0
  | x :: r => uptoBulkEntry x + uptoBulkEntries r
def uptoBulkEntry {H : Type} : Lit × DataW H → Nat
  | (.string bytes, d) => bytes.length + uptoBulk d + 1
  | (_, d) => uptoBulk d + 1
 end
def uptoSmall : (H : Type) → List (DataW H) → Bool := fun _ ds => decide (uptoBulkAll ds ≤ 1048576)
def OpenSpec.upto (s : _root_.Go.ChangeSpec) : _root_.Go.OpenSpec := { _root_.Go.OpenSpec.ofChange s with cond := some uptoSmall }

/-- 'laws.FnExactIsInterval', WHERE WHAT IT READS IS OF BULK AT MOST 1048576: true; the input reads as it did. -/
def fnExactIsIntervalUptoRow : OpenClaim := { program := "ythlmeofjjmfpnaa", sum := "426160e9c8f771300242d97856c63a08d09602c22088b85d5e03b46a4229caf5", func := "loop.example/g00924/laws.FnExactIsInterval", spec := "fnExactIsInterval", apart := false, narrowed := true }
def FnExactIsIntervalUptoSaid : Prop := fnExactIsIntervalUptoRow.holds Try.pinned (OpenSpec.upto fnExactIsIntervalSpec)

/-- 'laws.FnExactInTime', WHERE WHAT IT READS IS OF BULK AT MOST 1048576: true; the input reads as it did. -/
def fnExactInTimeUptoRow : OpenClaim := { program := "ythlmeofjjmfpnaa", sum := "426160e9c8f771300242d97856c63a08d09602c22088b85d5e03b46a4229caf5", func := "loop.example/g00924/laws.FnExactInTime", spec := "fnExactInTime", apart := false, narrowed := true }
def FnExactInTimeUptoSaid : Prop := fnExactInTimeUptoRow.holds Try.pinned (OpenSpec.upto fnExactInTimeSpec)

/-- 'laws.FnExactNotBefore', WHERE WHAT IT READS IS OF BULK AT MOST 1048576: true; the input reads as it did. -/
def fnExactNotBeforeUptoRow : OpenClaim := { program := "ythlmeofjjmfpnaa", sum := "426160e9c8f771300242d97856c63a08d09602c22088b85d5e03b46a4229caf5", func := "loop.example/g00924/laws.FnExactNotBefore", spec := "fnExactNotBefore", apart := false, narrowed := true }
def FnExactNotBeforeUptoSaid : Prop := fnExactNotBeforeUptoRow.holds Try.pinned (OpenSpec.upto fnExactNotBeforeSpec)

/-- 'laws.FnExactCoverInterval', WHERE WHAT IT READS IS OF BULK AT MOST 1048576: true; the input reads as it did. -/
def fnExactCoverIntervalUptoRow : OpenClaim := { program := "ythlmeofjjmfpnaa", sum := "426160e9c8f771300242d97856c63a08d09602c22088b85d5e03b46a4229caf5", func := "loop.example/g00924/laws.FnExactCoverInterval", spec := "fnExactCoverInterval", apart := false, narrowed := true }
def FnExactCoverIntervalUptoSaid : Prop := fnExactCoverIntervalUptoRow.holds Try.pinned (OpenSpec.upto fnExactCoverIntervalSpec)

/-- 'laws.FnExactAfterLeg', WHERE WHAT IT READS IS OF BULK AT MOST 1048576: true; the input reads as it did. -/
def fnExactAfterLegUptoRow : OpenClaim := { program := "ythlmeofjjmfpnaa", sum := "426160e9c8f771300242d97856c63a08d09602c22088b85d5e03b46a4229caf5", func := "loop.example/g00924/laws.FnExactAfterLeg", spec := "fnExactAfterLeg", apart := false, narrowed := true }
def FnExactAfterLegUptoSaid : Prop := fnExactAfterLegUptoRow.holds Try.pinned (OpenSpec.upto fnExactAfterLegSpec)

/-- 'laws.FnExactCommonInterval', WHERE WHAT IT READS IS OF BULK AT MOST 1048576: true; the input reads as it did. -/
def fnExactCommonIntervalUptoRow : OpenClaim := { program := "ythlmeofjjmfpnaa", sum := "426160e9c8f771300242d97856c63a08d09602c22088b85d5e03b46a4229caf5", func := "loop.example/g00924/laws.FnExactCommonInterval", spec := "fnExactCommonInterval", apart := false, narrowed := true }
def FnExactCommonIntervalUptoSaid : Prop := fnExactCommonIntervalUptoRow.holds Try.pinned (OpenSpec.upto fnExactCommonIntervalSpec)

/-- 'laws.FnExactBeforeLeg', WHERE WHAT IT READS IS OF BULK AT MOST 1048576: true; the input reads as it did. -/
def fnExactBeforeLegUptoRow : OpenClaim := { program := "ythlmeofjjmfpnaa", sum := "426160e9c8f771300242d97856c63a08d09602c22088b85d5e03b46a4229caf5", func := "loop.example/g00924/laws.FnExactBeforeLeg", spec := "fnExactBeforeLeg", apart := false, narrowed := true }
def FnExactBeforeLegUptoSaid : Prop := fnExactBeforeLegUptoRow.holds Try.pinned (OpenSpec.upto fnExactBeforeLegSpec)

/-- 'laws.FnExactLatestStart', WHERE WHAT IT READS IS OF BULK AT MOST 1048576: true; the input reads as it did. -/
def fnExactLatestStartUptoRow : OpenClaim := { program := "ythlmeofjjmfpnaa", sum := "426160e9c8f771300242d97856c63a08d09602c22088b85d5e03b46a4229caf5", func := "loop.example/g00924/laws.FnExactLatestStart", spec := "fnExactLatestStart", unfollowed := true, recurses := true, apart := false, narrowed := true }
def FnExactLatestStartUptoSaid : Prop := fnExactLatestStartUptoRow.holds Try.pinned (OpenSpec.upto fnExactLatestStartSpec)

/-- 'laws.FnExactNarrowVoyage', WHERE WHAT IT READS IS OF BULK AT MOST 1048576: true; the input reads as it did. -/
def fnExactNarrowVoyageUptoRow : OpenClaim := { program := "ythlmeofjjmfpnaa", sum := "426160e9c8f771300242d97856c63a08d09602c22088b85d5e03b46a4229caf5", func := "loop.example/g00924/laws.FnExactNarrowVoyage", spec := "fnExactNarrowVoyage", unfollowed := true, recurses := true, apart := false, narrowed := true }
def FnExactNarrowVoyageUptoSaid : Prop := fnExactNarrowVoyageUptoRow.holds Try.pinned (OpenSpec.upto fnExactNarrowVoyageSpec)

/-- 'laws.FnExactAlongVoyage', WHERE WHAT IT READS IS OF BULK AT MOST 1048576: true; the input reads as it did. -/
def fnExactAlongVoyageUptoRow : OpenClaim := { program := "ythlmeofjjmfpnaa", sum := "426160e9c8f771300242d97856c63a08d09602c22088b85d5e03b46a4229caf5", func := "loop.example/g00924/laws.FnExactAlongVoyage", spec := "fnExactAlongVoyage", unfollowed := true, recurses := true, apart := false, narrowed := true }
def FnExactAlongVoyageUptoSaid : Prop := fnExactAlongVoyageUptoRow.holds Try.pinned (OpenSpec.upto fnExactAlongVoyageSpec)

/-- 'laws.FnIntervals', WHERE WHAT IT READS IS OF BULK AT MOST 1048576: true; the input reads as it did. -/
def fnIntervalsUptoRow : OpenClaim := { program := "ythlmeofjjmfpnaa", sum := "426160e9c8f771300242d97856c63a08d09602c22088b85d5e03b46a4229caf5", func := "loop.example/g00924/laws.FnIntervals", spec := "fnIntervals", apart := false, narrowed := true }
def FnIntervalsUptoSaid : Prop := fnIntervalsUptoRow.holds Try.pinned (OpenSpec.upto fnIntervalsSpec)

/-- 'laws.FnVoyages', WHERE WHAT IT READS IS OF BULK AT MOST 1048576: true; the input reads as it did. -/
def fnVoyagesUptoRow : OpenClaim := { program := "ythlmeofjjmfpnaa", sum := "426160e9c8f771300242d97856c63a08d09602c22088b85d5e03b46a4229caf5", func := "loop.example/g00924/laws.FnVoyages", spec := "fnVoyages", unfollowed := true, recurses := true, apart := false, narrowed := true }
def FnVoyagesUptoSaid : Prop := fnVoyagesUptoRow.holds Try.pinned (OpenSpec.upto fnVoyagesSpec)

end Rows
end Go.Proofs.Ythlmeofjjmfpnaa
