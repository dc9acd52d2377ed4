/-
  No cell of these rows narrows 'for every input' (looked for: loops, veiled, ifaces, maps, wideKeys, modest, calm, conditions, laid).
  DERIVED. THE GIVEN ROWS OF THIS SEAT. 12 by the template 'for every input the law returns true; each argument reads behind the call as it read before'; 0 by the template 'total and deterministic' (their statements: YtcpjcfblojoigaaTotals.lean).
  GIVEN WITH THE SEED: the statements are not yours to turn. If you find one false, say at which input.
  Laid BY PROGRAM, IN A SANDBOX (cutbox-rows.mjs): the forced cells as the released guide's own fill.sh prints them over the translation 28bfcca8cc2299b1… (all of the seat's roots in one cut). By AI agents, Wed Nov 11 2026. No macro, syntax, notation, axiom, sorry.
-/
import Derived.Test.YtcpjcfblojoigaaChecked
import GoSem.Claim
import GoSem.ClaimJoined
import GoSem.ClaimMapViews
import Derived.JoinedTies
import Derived.KernelRfl
namespace Go.Proofs.Ytcpjcfblojoigaa
/- THE CELL 'sum', in the pinned program and in every row, IS THE sha256 OF THE DUMP (.gsa) THAT YtcpjcfblojoigaaProg.lean LOADS. Nothing in Lean hashes anything: it is a label: what it is worth is what the hold of that sum in a sandbox is worth. -/
noncomputable def Try.pinned : Pinned := { name := "ytcpjcfblojoigaa", sum := "28bfcca8cc2299b1b96768e838e49c3adb9c1765b23f59fae47ed280cceee7ff", checked := Try.checked }
namespace Rows
def none {H : Type} : Left H := { results := [], args := [] }

/-- 'laws.FnExactIsAbove': WHATEVER THE INPUT: true; the input reads as it did. -/
def fnExactIsAboveSpec : ChangeSpec := { name := "fnExactIsAbove", fn := fun _ => fun
  | [d1, d2] => { results := [.lit (.bool true)], args := [d1, d2] }
  | _ => none }
def fnExactIsAboveRow : OpenClaim := { program := "ytcpjcfblojoigaa", sum := "28bfcca8cc2299b1b96768e838e49c3adb9c1765b23f59fae47ed280cceee7ff", func := "loop.example/g00725/laws.FnExactIsAbove", spec := "fnExactIsAbove", apart := false }
def FnExactIsAboveSaid : Prop := fnExactIsAboveRow.holds Try.pinned (OpenSpec.ofChange fnExactIsAboveSpec)

/-- ITS FALSE NEIGHBOUR: 'it returns false'. Refute it at one input. -/
def fnExactIsAboveWrong : ChangeSpec := { name := "fnExactIsAbove", fn := fun _ => fun
  | [d1, d2] => { results := [.lit (.bool false)], args := [d1, d2] }
  | _ => none }
def FnExactIsAboveWrongFalsely : Prop := fnExactIsAboveRow.holds Try.pinned (OpenSpec.ofChange fnExactIsAboveWrong)

/-- 'laws.FnExactEncodeName': WHATEVER THE INPUT: true; the input reads as it did. -/
def fnExactEncodeNameSpec : ChangeSpec := { name := "fnExactEncodeName", fn := fun _ => fun
  | [d] => { results := [.lit (.bool true)], args := [d] }
  | _ => none }
def fnExactEncodeNameRow : OpenClaim := { program := "ytcpjcfblojoigaa", sum := "28bfcca8cc2299b1b96768e838e49c3adb9c1765b23f59fae47ed280cceee7ff", func := "loop.example/g00725/laws.FnExactEncodeName", spec := "fnExactEncodeName", apart := false }
def FnExactEncodeNameSaid : Prop := fnExactEncodeNameRow.holds Try.pinned (OpenSpec.ofChange fnExactEncodeNameSpec)

/-- ITS FALSE NEIGHBOUR: 'it returns false'. Refute it at one input. -/
def fnExactEncodeNameWrong : ChangeSpec := { name := "fnExactEncodeName", fn := fun _ => fun
  | [d] => { results := [.lit (.bool false)], args := [d] }
  | _ => none }
def FnExactEncodeNameWrongFalsely : Prop := fnExactEncodeNameRow.holds Try.pinned (OpenSpec.ofChange fnExactEncodeNameWrong)

/-- 'laws.FnExactSuspectBy': WHATEVER THE INPUT: true; the input reads as it did. -/
def fnExactSuspectBySpec : ChangeSpec := { name := "fnExactSuspectBy", fn := fun _ => fun
  | [d1, d2] => { results := [.lit (.bool true)], args := [d1, d2] }
  | _ => none }
def fnExactSuspectByRow : OpenClaim := { program := "ytcpjcfblojoigaa", sum := "28bfcca8cc2299b1b96768e838e49c3adb9c1765b23f59fae47ed280cceee7ff", func := "loop.example/g00725/laws.FnExactSuspectBy", spec := "fnExactSuspectBy", apart := false }
def FnExactSuspectBySaid : Prop := fnExactSuspectByRow.holds Try.pinned (OpenSpec.ofChange fnExactSuspectBySpec)

/-- ITS FALSE NEIGHBOUR: 'it returns false'. Refute it at one input. -/
def fnExactSuspectByWrong : ChangeSpec := { name := "fnExactSuspectBy", fn := fun _ => fun
  | [d1, d2] => { results := [.lit (.bool false)], args := [d1, d2] }
  | _ => none }
def FnExactSuspectByWrongFalsely : Prop := fnExactSuspectByRow.holds Try.pinned (OpenSpec.ofChange fnExactSuspectByWrong)

/-- 'laws.FnExactNextTarget': WHATEVER THE INPUT: true; the input reads as it did. -/
def fnExactNextTargetSpec : ChangeSpec := { name := "fnExactNextTarget", fn := fun _ => fun
  | [d1, d2, d3] => { results := [.lit (.bool true)], args := [d1, d2, d3] }
  | _ => none }
def fnExactNextTargetRow : OpenClaim := { program := "ytcpjcfblojoigaa", sum := "28bfcca8cc2299b1b96768e838e49c3adb9c1765b23f59fae47ed280cceee7ff", func := "loop.example/g00725/laws.FnExactNextTarget", spec := "fnExactNextTarget", apart := false }
def FnExactNextTargetSaid : Prop := fnExactNextTargetRow.holds Try.pinned (OpenSpec.ofChange fnExactNextTargetSpec)

/-- ITS FALSE NEIGHBOUR: 'it returns false'. Refute it at one input. -/
def fnExactNextTargetWrong : ChangeSpec := { name := "fnExactNextTarget", fn := fun _ => fun
  | [d1, d2, d3] => { results := [.lit (.bool false)], args := [d1, d2, d3] }
  | _ => none }
def FnExactNextTargetWrongFalsely : Prop := fnExactNextTargetRow.holds Try.pinned (OpenSpec.ofChange fnExactNextTargetWrong)

/-- 'laws.FnExactFindClaim': WHATEVER THE INPUT: true; the input reads as it did. -/
def fnExactFindClaimSpec : ChangeSpec := { name := "fnExactFindClaim", fn := fun _ => fun
  | [d1, d2] => { results := [.lit (.bool true)], args := [d1, d2] }
  | _ => none }
def fnExactFindClaimRow : OpenClaim := { program := "ytcpjcfblojoigaa", sum := "28bfcca8cc2299b1b96768e838e49c3adb9c1765b23f59fae47ed280cceee7ff", func := "loop.example/g00725/laws.FnExactFindClaim", spec := "fnExactFindClaim", apart := false }
def FnExactFindClaimSaid : Prop := fnExactFindClaimRow.holds Try.pinned (OpenSpec.ofChange fnExactFindClaimSpec)

/-- ITS FALSE NEIGHBOUR: 'it returns false'. Refute it at one input. -/
def fnExactFindClaimWrong : ChangeSpec := { name := "fnExactFindClaim", fn := fun _ => fun
  | [d1, d2] => { results := [.lit (.bool false)], args := [d1, d2] }
  | _ => none }
def FnExactFindClaimWrongFalsely : Prop := fnExactFindClaimRow.holds Try.pinned (OpenSpec.ofChange fnExactFindClaimWrong)

/-- 'laws.FnExactNodesIn': WHATEVER THE INPUT: true; the input reads as it did. -/
def fnExactNodesInSpec : ChangeSpec := { name := "fnExactNodesIn", fn := fun _ => fun
  | [d1, d2] => { results := [.lit (.bool true)], args := [d1, d2] }
  | _ => none }
def fnExactNodesInRow : OpenClaim := { program := "ytcpjcfblojoigaa", sum := "28bfcca8cc2299b1b96768e838e49c3adb9c1765b23f59fae47ed280cceee7ff", func := "loop.example/g00725/laws.FnExactNodesIn", spec := "fnExactNodesIn", apart := false }
def FnExactNodesInSaid : Prop := fnExactNodesInRow.holds Try.pinned (OpenSpec.ofChange fnExactNodesInSpec)

/-- ITS FALSE NEIGHBOUR: 'it returns false'. Refute it at one input. -/
def fnExactNodesInWrong : ChangeSpec := { name := "fnExactNodesIn", fn := fun _ => fun
  | [d1, d2] => { results := [.lit (.bool false)], args := [d1, d2] }
  | _ => none }
def FnExactNodesInWrongFalsely : Prop := fnExactNodesInRow.holds Try.pinned (OpenSpec.ofChange fnExactNodesInWrong)

/-- 'laws.FnExactHelpersFor': WHATEVER THE INPUT: true; the input reads as it did. -/
def fnExactHelpersForSpec : ChangeSpec := { name := "fnExactHelpersFor", fn := fun _ => fun
  | [d1, d2, d3, d4] => { results := [.lit (.bool true)], args := [d1, d2, d3, d4] }
  | _ => none }
def fnExactHelpersForRow : OpenClaim := { program := "ytcpjcfblojoigaa", sum := "28bfcca8cc2299b1b96768e838e49c3adb9c1765b23f59fae47ed280cceee7ff", func := "loop.example/g00725/laws.FnExactHelpersFor", spec := "fnExactHelpersFor", apart := false }
def FnExactHelpersForSaid : Prop := fnExactHelpersForRow.holds Try.pinned (OpenSpec.ofChange fnExactHelpersForSpec)

/-- ITS FALSE NEIGHBOUR: 'it returns false'. Refute it at one input. -/
def fnExactHelpersForWrong : ChangeSpec := { name := "fnExactHelpersFor", fn := fun _ => fun
  | [d1, d2, d3, d4] => { results := [.lit (.bool false)], args := [d1, d2, d3, d4] }
  | _ => none }
def FnExactHelpersForWrongFalsely : Prop := fnExactHelpersForRow.holds Try.pinned (OpenSpec.ofChange fnExactHelpersForWrong)

/-- 'laws.FnExactBuryBy': WHATEVER THE INPUT: true; the input reads as it did. -/
def fnExactBuryBySpec : ChangeSpec := { name := "fnExactBuryBy", fn := fun _ => fun
  | [d1, d2] => { results := [.lit (.bool true)], args := [d1, d2] }
  | _ => none }
def fnExactBuryByRow : OpenClaim := { program := "ytcpjcfblojoigaa", sum := "28bfcca8cc2299b1b96768e838e49c3adb9c1765b23f59fae47ed280cceee7ff", func := "loop.example/g00725/laws.FnExactBuryBy", spec := "fnExactBuryBy", apart := false }
def FnExactBuryBySaid : Prop := fnExactBuryByRow.holds Try.pinned (OpenSpec.ofChange fnExactBuryBySpec)

/-- ITS FALSE NEIGHBOUR: 'it returns false'. Refute it at one input. -/
def fnExactBuryByWrong : ChangeSpec := { name := "fnExactBuryBy", fn := fun _ => fun
  | [d1, d2] => { results := [.lit (.bool false)], args := [d1, d2] }
  | _ => none }
def FnExactBuryByWrongFalsely : Prop := fnExactBuryByRow.holds Try.pinned (OpenSpec.ofChange fnExactBuryByWrong)

/-- 'laws.FnExactMessageFault': WHATEVER THE INPUT: true; the input reads as it did. -/
def fnExactMessageFaultSpec : ChangeSpec := { name := "fnExactMessageFault", fn := fun _ => fun
  | [d] => { results := [.lit (.bool true)], args := [d] }
  | _ => none }
def fnExactMessageFaultRow : OpenClaim := { program := "ytcpjcfblojoigaa", sum := "28bfcca8cc2299b1b96768e838e49c3adb9c1765b23f59fae47ed280cceee7ff", func := "loop.example/g00725/laws.FnExactMessageFault", spec := "fnExactMessageFault", apart := false }
def FnExactMessageFaultSaid : Prop := fnExactMessageFaultRow.holds Try.pinned (OpenSpec.ofChange fnExactMessageFaultSpec)

/-- ITS FALSE NEIGHBOUR: 'it returns false'. Refute it at one input. -/
def fnExactMessageFaultWrong : ChangeSpec := { name := "fnExactMessageFault", fn := fun _ => fun
  | [d] => { results := [.lit (.bool false)], args := [d] }
  | _ => none }
def FnExactMessageFaultWrongFalsely : Prop := fnExactMessageFaultRow.holds Try.pinned (OpenSpec.ofChange fnExactMessageFaultWrong)

/-- 'laws.FnExactAgeWaits': WHATEVER THE INPUT: true; the input reads as it did. -/
def fnExactAgeWaitsSpec : ChangeSpec := { name := "fnExactAgeWaits", fn := fun _ => fun
  | [d] => { results := [.lit (.bool true)], args := [d] }
  | _ => none }
def fnExactAgeWaitsRow : OpenClaim := { program := "ytcpjcfblojoigaa", sum := "28bfcca8cc2299b1b96768e838e49c3adb9c1765b23f59fae47ed280cceee7ff", func := "loop.example/g00725/laws.FnExactAgeWaits", spec := "fnExactAgeWaits", apart := false }
def FnExactAgeWaitsSaid : Prop := fnExactAgeWaitsRow.holds Try.pinned (OpenSpec.ofChange fnExactAgeWaitsSpec)

/-- ITS FALSE NEIGHBOUR: 'it returns false'. Refute it at one input. -/
def fnExactAgeWaitsWrong : ChangeSpec := { name := "fnExactAgeWaits", fn := fun _ => fun
  | [d] => { results := [.lit (.bool false)], args := [d] }
  | _ => none }
def FnExactAgeWaitsWrongFalsely : Prop := fnExactAgeWaitsRow.holds Try.pinned (OpenSpec.ofChange fnExactAgeWaitsWrong)

/-- 'laws.FnExactClearWaits': WHATEVER THE INPUT: true; the input reads as it did. -/
def fnExactClearWaitsSpec : ChangeSpec := { name := "fnExactClearWaits", fn := fun _ => fun
  | [d1, d2] => { results := [.lit (.bool true)], args := [d1, d2] }
  | _ => none }
def fnExactClearWaitsRow : OpenClaim := { program := "ytcpjcfblojoigaa", sum := "28bfcca8cc2299b1b96768e838e49c3adb9c1765b23f59fae47ed280cceee7ff", func := "loop.example/g00725/laws.FnExactClearWaits", spec := "fnExactClearWaits", apart := false }
def FnExactClearWaitsSaid : Prop := fnExactClearWaitsRow.holds Try.pinned (OpenSpec.ofChange fnExactClearWaitsSpec)

/-- ITS FALSE NEIGHBOUR: 'it returns false'. Refute it at one input. -/
def fnExactClearWaitsWrong : ChangeSpec := { name := "fnExactClearWaits", fn := fun _ => fun
  | [d1, d2] => { results := [.lit (.bool false)], args := [d1, d2] }
  | _ => none }
def FnExactClearWaitsWrongFalsely : Prop := fnExactClearWaitsRow.holds Try.pinned (OpenSpec.ofChange fnExactClearWaitsWrong)

/-- 'laws.FnExactRecordsFor': WHATEVER THE INPUT: true; the input reads as it did. -/
def fnExactRecordsForSpec : ChangeSpec := { name := "fnExactRecordsFor", fn := fun _ => fun
  | [d1, d2, d3] => { results := [.lit (.bool true)], args := [d1, d2, d3] }
  | _ => none }
def fnExactRecordsForRow : OpenClaim := { program := "ytcpjcfblojoigaa", sum := "28bfcca8cc2299b1b96768e838e49c3adb9c1765b23f59fae47ed280cceee7ff", func := "loop.example/g00725/laws.FnExactRecordsFor", spec := "fnExactRecordsFor", apart := false }
def FnExactRecordsForSaid : Prop := fnExactRecordsForRow.holds Try.pinned (OpenSpec.ofChange fnExactRecordsForSpec)

/-- ITS FALSE NEIGHBOUR: 'it returns false'. Refute it at one input. -/
def fnExactRecordsForWrong : ChangeSpec := { name := "fnExactRecordsFor", fn := fun _ => fun
  | [d1, d2, d3] => { results := [.lit (.bool false)], args := [d1, d2, d3] }
  | _ => none }
def FnExactRecordsForWrongFalsely : Prop := fnExactRecordsForRow.holds Try.pinned (OpenSpec.ofChange fnExactRecordsForWrong)

/- THE SECOND FORM. 'bulk': how many values and letters a reading holds, each counted each time it is reached (what is shared counts as often as it is met; a slice's spare places count too). A statement '..UptoSaid' is the law's where the arguments, and the package variables that the reading takes, are together of bulk at most 1048576: NARROWER than '..Said'. Prove '..Said' where nothing that the law and all that it calls make is longer than what came in: it says more and counts as full. Else prove '..UptoSaid'. A law counts once. -/
mutual
def uptoBulk {H : Type} : DataW H → Nat
  | .lit (.string bytes) => bytes.length + 1
  | .lit _ => 1
  | .nil => 1
  | .ptr d => uptoBulk d + 1
  | .slice elems spare => uptoBulkAll elems + uptoBulkAll spare + 1
  | .agg parts => uptoBulkAll parts + 1
  | .iface _ d => uptoBulk d + 1
  | .map entries => uptoBulkEntries entries + 1
  | .held _ => 1
def uptoBulkAll {H : Type} : List (DataW H) → Nat
  | [] => 0
  | d :: r => uptoBulk d + uptoBulkAll r
def uptoBulkEntries {H : Type} : List (Lit × DataW H) → Nat
  | [] => 0
  | x :: r => uptoBulkEntry x + uptoBulkEntries r
def uptoBulkEntry {H : Type} : Lit × DataW H → Nat
  | (.string bytes, d) => bytes.length + uptoBulk d + 1
  | (_, d) => uptoBulk d + 1
 end
def uptoSmall : (H : Type) → List (DataW H) → Bool := fun _ ds => decide (uptoBulkAll ds ≤ 1048576)
def OpenSpec.upto (s : _root_.Go.ChangeSpec) : _root_.Go.OpenSpec := { _root_.Go.OpenSpec.ofChange s with cond := some uptoSmall }

/-- 'laws.FnExactIsAbove', WHERE WHAT IT READS IS OF BULK AT MOST 1048576: true; the input reads as it did. -/
def fnExactIsAboveUptoRow : OpenClaim := { program := "ytcpjcfblojoigaa", sum := "28bfcca8cc2299b1b96768e838e49c3adb9c1765b23f59fae47ed280cceee7ff", func := "loop.example/g00725/laws.FnExactIsAbove", spec := "fnExactIsAbove", apart := false, narrowed := true }
def FnExactIsAboveUptoSaid : Prop := fnExactIsAboveUptoRow.holds Try.pinned (OpenSpec.upto fnExactIsAboveSpec)

/-- 'laws.FnExactEncodeName', WHERE WHAT IT READS IS OF BULK AT MOST 1048576: true; the input reads as it did. -/
def fnExactEncodeNameUptoRow : OpenClaim := { program := "ytcpjcfblojoigaa", sum := "28bfcca8cc2299b1b96768e838e49c3adb9c1765b23f59fae47ed280cceee7ff", func := "loop.example/g00725/laws.FnExactEncodeName", spec := "fnExactEncodeName", apart := false, narrowed := true }
def FnExactEncodeNameUptoSaid : Prop := fnExactEncodeNameUptoRow.holds Try.pinned (OpenSpec.upto fnExactEncodeNameSpec)

/-- 'laws.FnExactSuspectBy', WHERE WHAT IT READS IS OF BULK AT MOST 1048576: true; the input reads as it did. -/
def fnExactSuspectByUptoRow : OpenClaim := { program := "ytcpjcfblojoigaa", sum := "28bfcca8cc2299b1b96768e838e49c3adb9c1765b23f59fae47ed280cceee7ff", func := "loop.example/g00725/laws.FnExactSuspectBy", spec := "fnExactSuspectBy", apart := false, narrowed := true }
def FnExactSuspectByUptoSaid : Prop := fnExactSuspectByUptoRow.holds Try.pinned (OpenSpec.upto fnExactSuspectBySpec)

/-- 'laws.FnExactNextTarget', WHERE WHAT IT READS IS OF BULK AT MOST 1048576: true; the input reads as it did. -/
def fnExactNextTargetUptoRow : OpenClaim := { program := "ytcpjcfblojoigaa", sum := "28bfcca8cc2299b1b96768e838e49c3adb9c1765b23f59fae47ed280cceee7ff", func := "loop.example/g00725/laws.FnExactNextTarget", spec := "fnExactNextTarget", apart := false, narrowed := true }
def FnExactNextTargetUptoSaid : Prop := fnExactNextTargetUptoRow.holds Try.pinned (OpenSpec.upto fnExactNextTargetSpec)

/-- 'laws.FnExactFindClaim', WHERE WHAT IT READS IS OF BULK AT MOST 1048576: true; the input reads as it did. -/
def fnExactFindClaimUptoRow : OpenClaim := { program := "ytcpjcfblojoigaa", sum := "28bfcca8cc2299b1b96768e838e49c3adb9c1765b23f59fae47ed280cceee7ff", func := "loop.example/g00725/laws.FnExactFindClaim", spec := "fnExactFindClaim", apart := false, narrowed := true }
def FnExactFindClaimUptoSaid : Prop := fnExactFindClaimUptoRow.holds Try.pinned (OpenSpec.upto fnExactFindClaimSpec)

/-- 'laws.FnExactNodesIn', WHERE WHAT IT READS IS OF BULK AT MOST 1048576: true; the input reads as it did. -/
def fnExactNodesInUptoRow : OpenClaim := { program := "ytcpjcfblojoigaa", sum := "28bfcca8cc2299b1b96768e838e49c3adb9c1765b23f59fae47ed280cceee7ff", func := "loop.example/g00725/laws.FnExactNodesIn", spec := "fnExactNodesIn", apart := false, narrowed := true }
def FnExactNodesInUptoSaid : Prop := fnExactNodesInUptoRow.holds Try.pinned (OpenSpec.upto fnExactNodesInSpec)

/-- 'laws.FnExactHelpersFor', WHERE WHAT IT READS IS OF BULK AT MOST 1048576: true; the input reads as it did. -/
def fnExactHelpersForUptoRow : OpenClaim := { program := "ytcpjcfblojoigaa", sum := "28bfcca8cc2299b1b96768e838e49c3adb9c1765b23f59fae47ed280cceee7ff", func := "loop.example/g00725/laws.FnExactHelpersFor", spec := "fnExactHelpersFor", apart := false, narrowed := true }
def FnExactHelpersForUptoSaid : Prop := fnExactHelpersForUptoRow.holds Try.pinned (OpenSpec.upto fnExactHelpersForSpec)

/-- 'laws.FnExactBuryBy', WHERE WHAT IT READS IS OF BULK AT MOST 1048576: true; the input reads as it did. -/
def fnExactBuryByUptoRow : OpenClaim := { program := "ytcpjcfblojoigaa", sum := "28bfcca8cc2299b1b96768e838e49c3adb9c1765b23f59fae47ed280cceee7ff", func := "loop.example/g00725/laws.FnExactBuryBy", spec := "fnExactBuryBy", apart := false, narrowed := true }
def FnExactBuryByUptoSaid : Prop := fnExactBuryByUptoRow.holds Try.pinned (OpenSpec.upto fnExactBuryBySpec)

/-- 'laws.FnExactMessageFault', WHERE WHAT IT READS IS OF BULK AT MOST 1048576: true; the input reads as it did. -/
def fnExactMessageFaultUptoRow : OpenClaim := { program := "ytcpjcfblojoigaa", sum := "28bfcca8cc2299b1b96768e838e49c3adb9c1765b23f59fae47ed280cceee7ff", func := "loop.example/g00725/laws.FnExactMessageFault", spec := "fnExactMessageFault", apart := false, narrowed := true }
def FnExactMessageFaultUptoSaid : Prop := fnExactMessageFaultUptoRow.holds Try.pinned (OpenSpec.upto fnExactMessageFaultSpec)

/-- 'laws.FnExactAgeWaits', WHERE WHAT IT READS IS OF BULK AT MOST 1048576: true; the input reads as it did. -/
def fnExactAgeWaitsUptoRow : OpenClaim := { program := "ytcpjcfblojoigaa", sum := "28bfcca8cc2299b1b96768e838e49c3adb9c1765b23f59fae47ed280cceee7ff", func := "loop.example/g00725/laws.FnExactAgeWaits", spec := "fnExactAgeWaits", apart := false, narrowed := true }
def FnExactAgeWaitsUptoSaid : Prop := fnExactAgeWaitsUptoRow.holds Try.pinned (OpenSpec.upto fnExactAgeWaitsSpec)

/-- 'laws.FnExactClearWaits', WHERE WHAT IT READS IS OF BULK AT MOST 1048576: true; the input reads as it did. -/
def fnExactClearWaitsUptoRow : OpenClaim := { program := "ytcpjcfblojoigaa", sum := "28bfcca8cc2299b1b96768e838e49c3adb9c1765b23f59fae47ed280cceee7ff", func := "loop.example/g00725/laws.FnExactClearWaits", spec := "fnExactClearWaits", apart := false, narrowed := true }
def FnExactClearWaitsUptoSaid : Prop := fnExactClearWaitsUptoRow.holds Try.pinned (OpenSpec.upto fnExactClearWaitsSpec)

/-- 'laws.FnExactRecordsFor', WHERE WHAT IT READS IS OF BULK AT MOST 1048576: true; the input reads as it did. -/
def fnExactRecordsForUptoRow : OpenClaim := { program := "ytcpjcfblojoigaa", sum := "28bfcca8cc2299b1b96768e838e49c3adb9c1765b23f59fae47ed280cceee7ff", func := "loop.example/g00725/laws.FnExactRecordsFor", spec := "fnExactRecordsFor", apart := false, narrowed := true }
def FnExactRecordsForUptoSaid : Prop := fnExactRecordsForUptoRow.holds Try.pinned (OpenSpec.upto fnExactRecordsForSpec)

end Rows
end Go.Proofs.Ytcpjcfblojoigaa
