/-
  No cell of these rows narrows 'for every input' (looked for: loops, veiled, ifaces, maps, wideKeys, modest, calm, conditions, laid).
  DERIVED. THE GIVEN ROWS OF THIS SEAT. 10 by the template 'for every input the law returns true; each argument reads behind the call as it read before'; 0 by the template 'total and deterministic' (their statements: YtgjbdcalmodhpaaTotals.lean).
  GIVEN WITH THE SEED: the statements are not yours to turn. If you find one false, say at which input.
  Laid BY PROGRAM, IN A SANDBOX (cutbox-rows.mjs): the forced cells as the released guide's own fill.sh prints them over the translation becd5c03a3d77ebc… (all of the seat's roots in one cut). By AI agents, Wed Nov 11 2026. No macro, syntax, notation, axiom, sorry.
-/
import Derived.Test.YtgjbdcalmodhpaaChecked
import GoSem.Claim
import GoSem.ClaimJoined
import GoSem.ClaimMapViews
import Derived.JoinedTies
import Derived.KernelRfl
namespace Go.Proofs.Ytgjbdcalmodhpaa
/- THE CELL 'sum', in the pinned program and in every row, IS THE sha256 OF THE DUMP (.gsa) THAT YtgjbdcalmodhpaaProg.lean LOADS. Nothing in Lean hashes anything: it is a label: what it is worth is what the hold of that sum in a sandbox is worth. -/
noncomputable def Try.pinned : Pinned := { name := "ytgjbdcalmodhpaa", sum := "becd5c03a3d77ebc2ab0848365bb5ef425b80ea1f9705dc2f940b3a11f224afe", checked := Try.checked }
namespace Rows
def none {H : Type} : Left H := { results := [], args := [] }

/-- 'laws.FnExactDoClash': WHATEVER THE INPUT: true; the input reads as it did. -/
def fnExactDoClashSpec : ChangeSpec := { name := "fnExactDoClash", fn := fun _ => fun
  | [d1, d2, d3] => { results := [.lit (.bool true)], args := [d1, d2, d3] }
  | _ => none }
def fnExactDoClashRow : OpenClaim := { program := "ytgjbdcalmodhpaa", sum := "becd5c03a3d77ebc2ab0848365bb5ef425b80ea1f9705dc2f940b3a11f224afe", func := "loop.example/g00924/laws.FnExactDoClash", spec := "fnExactDoClash", apart := false }
def FnExactDoClashSaid : Prop := fnExactDoClashRow.holds Try.pinned (OpenSpec.ofChange fnExactDoClashSpec)

/-- ITS FALSE NEIGHBOUR: 'it returns false'. Refute it at one input. -/
def fnExactDoClashWrong : ChangeSpec := { name := "fnExactDoClash", fn := fun _ => fun
  | [d1, d2, d3] => { results := [.lit (.bool false)], args := [d1, d2, d3] }
  | _ => none }
def FnExactDoClashWrongFalsely : Prop := fnExactDoClashRow.holds Try.pinned (OpenSpec.ofChange fnExactDoClashWrong)

/-- 'laws.FnExactArePassages': WHATEVER THE INPUT: true; the input reads as it did. -/
def fnExactArePassagesSpec : ChangeSpec := { name := "fnExactArePassages", fn := fun _ => fun
  | [d] => { results := [.lit (.bool true)], args := [d] }
  | _ => none }
def fnExactArePassagesRow : OpenClaim := { program := "ytgjbdcalmodhpaa", sum := "becd5c03a3d77ebc2ab0848365bb5ef425b80ea1f9705dc2f940b3a11f224afe", func := "loop.example/g00924/laws.FnExactArePassages", spec := "fnExactArePassages", apart := false }
def FnExactArePassagesSaid : Prop := fnExactArePassagesRow.holds Try.pinned (OpenSpec.ofChange fnExactArePassagesSpec)

/-- ITS FALSE NEIGHBOUR: 'it returns false'. Refute it at one input. -/
def fnExactArePassagesWrong : ChangeSpec := { name := "fnExactArePassages", fn := fun _ => fun
  | [d] => { results := [.lit (.bool false)], args := [d] }
  | _ => none }
def FnExactArePassagesWrongFalsely : Prop := fnExactArePassagesRow.holds Try.pinned (OpenSpec.ofChange fnExactArePassagesWrong)

/-- 'laws.FnExactBusyMinutes': WHATEVER THE INPUT: true; the input reads as it did. -/
def fnExactBusyMinutesSpec : ChangeSpec := { name := "fnExactBusyMinutes", fn := fun _ => fun
  | [d] => { results := [.lit (.bool true)], args := [d] }
  | _ => none }
def fnExactBusyMinutesRow : OpenClaim := { program := "ytgjbdcalmodhpaa", sum := "becd5c03a3d77ebc2ab0848365bb5ef425b80ea1f9705dc2f940b3a11f224afe", func := "loop.example/g00924/laws.FnExactBusyMinutes", spec := "fnExactBusyMinutes", unfollowed := true, recurses := true, apart := false }
def FnExactBusyMinutesSaid : Prop := fnExactBusyMinutesRow.holds Try.pinned (OpenSpec.ofChange fnExactBusyMinutesSpec)

/-- ITS FALSE NEIGHBOUR: 'it returns false'. Refute it at one input. -/
def fnExactBusyMinutesWrong : ChangeSpec := { name := "fnExactBusyMinutes", fn := fun _ => fun
  | [d] => { results := [.lit (.bool false)], args := [d] }
  | _ => none }
def FnExactBusyMinutesWrongFalsely : Prop := fnExactBusyMinutesRow.holds Try.pinned (OpenSpec.ofChange fnExactBusyMinutesWrong)

/-- 'laws.FnExactFreeFrom': WHATEVER THE INPUT: true; the input reads as it did. -/
def fnExactFreeFromSpec : ChangeSpec := { name := "fnExactFreeFrom", fn := fun _ => fun
  | [d1, d2, d3] => { results := [.lit (.bool true)], args := [d1, d2, d3] }
  | _ => none }
def fnExactFreeFromRow : OpenClaim := { program := "ytgjbdcalmodhpaa", sum := "becd5c03a3d77ebc2ab0848365bb5ef425b80ea1f9705dc2f940b3a11f224afe", func := "loop.example/g00924/laws.FnExactFreeFrom", spec := "fnExactFreeFrom", unfollowed := true, recurses := true, apart := false }
def FnExactFreeFromSaid : Prop := fnExactFreeFromRow.holds Try.pinned (OpenSpec.ofChange fnExactFreeFromSpec)

/-- ITS FALSE NEIGHBOUR: 'it returns false'. Refute it at one input. -/
def fnExactFreeFromWrong : ChangeSpec := { name := "fnExactFreeFrom", fn := fun _ => fun
  | [d1, d2, d3] => { results := [.lit (.bool false)], args := [d1, d2, d3] }
  | _ => none }
def FnExactFreeFromWrongFalsely : Prop := fnExactFreeFromRow.holds Try.pinned (OpenSpec.ofChange fnExactFreeFromWrong)

/-- 'laws.FnExactSmallestDelay': WHATEVER THE INPUT: true; the input reads as it did. -/
def fnExactSmallestDelaySpec : ChangeSpec := { name := "fnExactSmallestDelay", fn := fun _ => fun
  | [d1, d2, d3] => { results := [.lit (.bool true)], args := [d1, d2, d3] }
  | _ => none }
def fnExactSmallestDelayRow : OpenClaim := { program := "ytgjbdcalmodhpaa", sum := "becd5c03a3d77ebc2ab0848365bb5ef425b80ea1f9705dc2f940b3a11f224afe", func := "loop.example/g00924/laws.FnExactSmallestDelay", spec := "fnExactSmallestDelay", unfollowed := true, recurses := true, apart := false }
def FnExactSmallestDelaySaid : Prop := fnExactSmallestDelayRow.holds Try.pinned (OpenSpec.ofChange fnExactSmallestDelaySpec)

/-- ITS FALSE NEIGHBOUR: 'it returns false'. Refute it at one input. -/
def fnExactSmallestDelayWrong : ChangeSpec := { name := "fnExactSmallestDelay", fn := fun _ => fun
  | [d1, d2, d3] => { results := [.lit (.bool false)], args := [d1, d2, d3] }
  | _ => none }
def FnExactSmallestDelayWrongFalsely : Prop := fnExactSmallestDelayRow.holds Try.pinned (OpenSpec.ofChange fnExactSmallestDelayWrong)

/-- 'laws.FnExactClashPairs': WHATEVER THE INPUT: true; the input reads as it did. -/
def fnExactClashPairsSpec : ChangeSpec := { name := "fnExactClashPairs", fn := fun _ => fun
  | [d1, d2] => { results := [.lit (.bool true)], args := [d1, d2] }
  | _ => none }
def fnExactClashPairsRow : OpenClaim := { program := "ytgjbdcalmodhpaa", sum := "becd5c03a3d77ebc2ab0848365bb5ef425b80ea1f9705dc2f940b3a11f224afe", func := "loop.example/g00924/laws.FnExactClashPairs", spec := "fnExactClashPairs", apart := false }
def FnExactClashPairsSaid : Prop := fnExactClashPairsRow.holds Try.pinned (OpenSpec.ofChange fnExactClashPairsSpec)

/-- ITS FALSE NEIGHBOUR: 'it returns false'. Refute it at one input. -/
def fnExactClashPairsWrong : ChangeSpec := { name := "fnExactClashPairs", fn := fun _ => fun
  | [d1, d2] => { results := [.lit (.bool false)], args := [d1, d2] }
  | _ => none }
def FnExactClashPairsWrongFalsely : Prop := fnExactClashPairsRow.holds Try.pinned (OpenSpec.ofChange fnExactClashPairsWrong)

/-- 'laws.FnExactDelayInTurn': WHATEVER THE INPUT: true; the input reads as it did. -/
def fnExactDelayInTurnSpec : ChangeSpec := { name := "fnExactDelayInTurn", fn := fun _ => fun
  | [d1, d2] => { results := [.lit (.bool true)], args := [d1, d2] }
  | _ => none }
def fnExactDelayInTurnRow : OpenClaim := { program := "ytgjbdcalmodhpaa", sum := "becd5c03a3d77ebc2ab0848365bb5ef425b80ea1f9705dc2f940b3a11f224afe", func := "loop.example/g00924/laws.FnExactDelayInTurn", spec := "fnExactDelayInTurn", unfollowed := true, recurses := true, apart := false }
def FnExactDelayInTurnSaid : Prop := fnExactDelayInTurnRow.holds Try.pinned (OpenSpec.ofChange fnExactDelayInTurnSpec)

/-- ITS FALSE NEIGHBOUR: 'it returns false'. Refute it at one input. -/
def fnExactDelayInTurnWrong : ChangeSpec := { name := "fnExactDelayInTurn", fn := fun _ => fun
  | [d1, d2] => { results := [.lit (.bool false)], args := [d1, d2] }
  | _ => none }
def FnExactDelayInTurnWrongFalsely : Prop := fnExactDelayInTurnRow.holds Try.pinned (OpenSpec.ofChange fnExactDelayInTurnWrong)

/-- 'laws.FnExactMostPassages': WHATEVER THE INPUT: true; the input reads as it did. -/
def fnExactMostPassagesSpec : ChangeSpec := { name := "fnExactMostPassages", fn := fun _ => fun
  | [d1, d2] => { results := [.lit (.bool true)], args := [d1, d2] }
  | _ => none }
def fnExactMostPassagesRow : OpenClaim := { program := "ytgjbdcalmodhpaa", sum := "becd5c03a3d77ebc2ab0848365bb5ef425b80ea1f9705dc2f940b3a11f224afe", func := "loop.example/g00924/laws.FnExactMostPassages", spec := "fnExactMostPassages", apart := false }
def FnExactMostPassagesSaid : Prop := fnExactMostPassagesRow.holds Try.pinned (OpenSpec.ofChange fnExactMostPassagesSpec)

/-- ITS FALSE NEIGHBOUR: 'it returns false'. Refute it at one input. -/
def fnExactMostPassagesWrong : ChangeSpec := { name := "fnExactMostPassages", fn := fun _ => fun
  | [d1, d2] => { results := [.lit (.bool false)], args := [d1, d2] }
  | _ => none }
def FnExactMostPassagesWrongFalsely : Prop := fnExactMostPassagesRow.holds Try.pinned (OpenSpec.ofChange fnExactMostPassagesWrong)

/-- 'laws.FnPassings': WHATEVER THE INPUT: true; the input reads as it did. -/
def fnPassingsSpec : ChangeSpec := { name := "fnPassings", fn := fun _ => fun
  | [d] => { results := [.lit (.bool true)], args := [d] }
  | _ => none }
def fnPassingsRow : OpenClaim := { program := "ytgjbdcalmodhpaa", sum := "becd5c03a3d77ebc2ab0848365bb5ef425b80ea1f9705dc2f940b3a11f224afe", func := "loop.example/g00924/laws.FnPassings", spec := "fnPassings", unfollowed := true, recurses := true, apart := false }
def FnPassingsSaid : Prop := fnPassingsRow.holds Try.pinned (OpenSpec.ofChange fnPassingsSpec)

/-- ITS FALSE NEIGHBOUR: 'it returns false'. Refute it at one input. -/
def fnPassingsWrong : ChangeSpec := { name := "fnPassings", fn := fun _ => fun
  | [d] => { results := [.lit (.bool false)], args := [d] }
  | _ => none }
def FnPassingsWrongFalsely : Prop := fnPassingsRow.holds Try.pinned (OpenSpec.ofChange fnPassingsWrong)

/-- 'laws.FnStretches': WHATEVER THE INPUT: true; the input reads as it did. -/
def fnStretchesSpec : ChangeSpec := { name := "fnStretches", fn := fun _ => fun
  | [d] => { results := [.lit (.bool true)], args := [d] }
  | _ => none }
def fnStretchesRow : OpenClaim := { program := "ytgjbdcalmodhpaa", sum := "becd5c03a3d77ebc2ab0848365bb5ef425b80ea1f9705dc2f940b3a11f224afe", func := "loop.example/g00924/laws.FnStretches", spec := "fnStretches", unfollowed := true, recurses := true, apart := false }
def FnStretchesSaid : Prop := fnStretchesRow.holds Try.pinned (OpenSpec.ofChange fnStretchesSpec)

/-- ITS FALSE NEIGHBOUR: 'it returns false'. Refute it at one input. -/
def fnStretchesWrong : ChangeSpec := { name := "fnStretches", fn := fun _ => fun
  | [d] => { results := [.lit (.bool false)], args := [d] }
  | _ => none }
def FnStretchesWrongFalsely : Prop := fnStretchesRow.holds Try.pinned (OpenSpec.ofChange fnStretchesWrong)

/- THE SECOND FORM. 'bulk': how many values and letters a reading holds, each counted each time it is reached (what is shared counts as often as it is met; a slice's spare places count too). A statement '..UptoSaid' is the law's where the arguments, and the package variables that the reading takes, are together of bulk at most 1048576: NARROWER than '..Said'. Prove '..Said' where nothing that the law and all that it calls make is longer than what came in: it says more and counts as full. Else prove '..UptoSaid'. A law counts once. -/
mutual
def uptoBulk {H : Type} : DataW H → Nat
  | .lit (.string bytes) => bytes.length + 1
  | .lit _ => 1
  | .nil => 1
  | .ptr d => uptoBulk d + 1
  | .slice elems spare => uptoBulkAll elems + uptoBulkAll spare + 1
  | .agg parts => uptoBulkAll parts + 1
  | .iface _ d => uptoBulk d + 1
  | .map entries => uptoBulkEntries entries + 1
  | .held _ => 1
def uptoBulkAll {H : Type} : List (DataW H) → Nat
  | [] => 0
  | d :: r => uptoBulk d + uptoBulkAll r
def uptoBulkEntries {H : Type} : List (Lit × DataW H) → Nat
  | [] => 0
  | x :: r => uptoBulkEntry x + uptoBulkEntries r
def uptoBulkEntry {H : Type} : Lit × DataW H → Nat
  | (.string bytes, d) => bytes.length + uptoBulk d + 1
  | (_, d) => uptoBulk d + 1
 end
def uptoSmall : (H : Type) → List (DataW H) → Bool := fun _ ds => decide (uptoBulkAll ds ≤ 1048576)
def OpenSpec.upto (s : _root_.Go.ChangeSpec) : _root_.Go.OpenSpec := { _root_.Go.OpenSpec.ofChange s with cond := some uptoSmall }

/-- 'laws.FnExactDoClash', WHERE WHAT IT READS IS OF BULK AT MOST 1048576: true; the input reads as it did. -/
def fnExactDoClashUptoRow : OpenClaim := { program := "ytgjbdcalmodhpaa", sum := "becd5c03a3d77ebc2ab0848365bb5ef425b80ea1f9705dc2f940b3a11f224afe", func := "loop.example/g00924/laws.FnExactDoClash", spec := "fnExactDoClash", apart := false, narrowed := true }
def FnExactDoClashUptoSaid : Prop := fnExactDoClashUptoRow.holds Try.pinned (OpenSpec.upto fnExactDoClashSpec)

/-- 'laws.FnExactArePassages', WHERE WHAT IT READS IS OF BULK AT MOST 1048576: true; the input reads as it did. -/
def fnExactArePassagesUptoRow : OpenClaim := { program := "ytgjbdcalmodhpaa", sum := "becd5c03a3d77ebc2ab0848365bb5ef425b80ea1f9705dc2f940b3a11f224afe", func := "loop.example/g00924/laws.FnExactArePassages", spec := "fnExactArePassages", apart := false, narrowed := true }
def FnExactArePassagesUptoSaid : Prop := fnExactArePassagesUptoRow.holds Try.pinned (OpenSpec.upto fnExactArePassagesSpec)

/-- 'laws.FnExactBusyMinutes', WHERE WHAT IT READS IS OF BULK AT MOST 1048576: true; the input reads as it did. -/
def fnExactBusyMinutesUptoRow : OpenClaim := { program := "ytgjbdcalmodhpaa", sum := "becd5c03a3d77ebc2ab0848365bb5ef425b80ea1f9705dc2f940b3a11f224afe", func := "loop.example/g00924/laws.FnExactBusyMinutes", spec := "fnExactBusyMinutes", unfollowed := true, recurses := true, apart := false, narrowed := true }
def FnExactBusyMinutesUptoSaid : Prop := fnExactBusyMinutesUptoRow.holds Try.pinned (OpenSpec.upto fnExactBusyMinutesSpec)

/-- 'laws.FnExactFreeFrom', WHERE WHAT IT READS IS OF BULK AT MOST 1048576: true; the input reads as it did. -/
def fnExactFreeFromUptoRow : OpenClaim := { program := "ytgjbdcalmodhpaa", sum := "becd5c03a3d77ebc2ab0848365bb5ef425b80ea1f9705dc2f940b3a11f224afe", func := "loop.example/g00924/laws.FnExactFreeFrom", spec := "fnExactFreeFrom", unfollowed := true, recurses := true, apart := false, narrowed := true }
def FnExactFreeFromUptoSaid : Prop := fnExactFreeFromUptoRow.holds Try.pinned (OpenSpec.upto fnExactFreeFromSpec)

/-- 'laws.FnExactSmallestDelay', WHERE WHAT IT READS IS OF BULK AT MOST 1048576: true; the input reads as it did. -/
def fnExactSmallestDelayUptoRow : OpenClaim := { program := "ytgjbdcalmodhpaa", sum := "becd5c03a3d77ebc2ab0848365bb5ef425b80ea1f9705dc2f940b3a11f224afe", func := "loop.example/g00924/laws.FnExactSmallestDelay", spec := "fnExactSmallestDelay", unfollowed := true, recurses := true, apart := false, narrowed := true }
def FnExactSmallestDelayUptoSaid : Prop := fnExactSmallestDelayUptoRow.holds Try.pinned (OpenSpec.upto fnExactSmallestDelaySpec)

/-- 'laws.FnExactClashPairs', WHERE WHAT IT READS IS OF BULK AT MOST 1048576: true; the input reads as it did. -/
def fnExactClashPairsUptoRow : OpenClaim := { program := "ytgjbdcalmodhpaa", sum := "becd5c03a3d77ebc2ab0848365bb5ef425b80ea1f9705dc2f940b3a11f224afe", func := "loop.example/g00924/laws.FnExactClashPairs", spec := "fnExactClashPairs", apart := false, narrowed := true }
def FnExactClashPairsUptoSaid : Prop := fnExactClashPairsUptoRow.holds Try.pinned (OpenSpec.upto fnExactClashPairsSpec)

/-- 'laws.FnExactDelayInTurn', WHERE WHAT IT READS IS OF BULK AT MOST 1048576: true; the input reads as it did. -/
def fnExactDelayInTurnUptoRow : OpenClaim := { program := "ytgjbdcalmodhpaa", sum := "becd5c03a3d77ebc2ab0848365bb5ef425b80ea1f9705dc2f940b3a11f224afe", func := "loop.example/g00924/laws.FnExactDelayInTurn", spec := "fnExactDelayInTurn", unfollowed := true, recurses := true, apart := false, narrowed := true }
def FnExactDelayInTurnUptoSaid : Prop := fnExactDelayInTurnUptoRow.holds Try.pinned (OpenSpec.upto fnExactDelayInTurnSpec)

/-- 'laws.FnExactMostPassages', WHERE WHAT IT READS IS OF BULK AT MOST 1048576: true; the input reads as it did. -/
def fnExactMostPassagesUptoRow : OpenClaim := { program := "ytgjbdcalmodhpaa", sum := "becd5c03a3d77ebc2ab0848365bb5ef425b80ea1f9705dc2f940b3a11f224afe", func := "loop.example/g00924/laws.FnExactMostPassages", spec := "fnExactMostPassages", apart := false, narrowed := true }
def FnExactMostPassagesUptoSaid : Prop := fnExactMostPassagesUptoRow.holds Try.pinned (OpenSpec.upto fnExactMostPassagesSpec)

/-- 'laws.FnPassings', WHERE WHAT IT READS IS OF BULK AT MOST 1048576: true; the input reads as it did. -/
def fnPassingsUptoRow : OpenClaim := { program := "ytgjbdcalmodhpaa", sum := "becd5c03a3d77ebc2ab0848365bb5ef425b80ea1f9705dc2f940b3a11f224afe", func := "loop.example/g00924/laws.FnPassings", spec := "fnPassings", unfollowed := true, recurses := true, apart := false, narrowed := true }
def FnPassingsUptoSaid : Prop := fnPassingsUptoRow.holds Try.pinned (OpenSpec.upto fnPassingsSpec)

/-- 'laws.FnStretches', WHERE WHAT IT READS IS OF BULK AT MOST 1048576: true; the input reads as it did. -/
def fnStretchesUptoRow : OpenClaim := { program := "ytgjbdcalmodhpaa", sum := "becd5c03a3d77ebc2ab0848365bb5ef425b80ea1f9705dc2f940b3a11f224afe", func := "loop.example/g00924/laws.FnStretches", spec := "fnStretches", unfollowed := true, recurses := true, apart := false, narrowed := true }
def FnStretchesUptoSaid : Prop := fnStretchesUptoRow.holds Try.pinned (OpenSpec.upto fnStretchesSpec)

end Rows
end Go.Proofs.Ytgjbdcalmodhpaa
