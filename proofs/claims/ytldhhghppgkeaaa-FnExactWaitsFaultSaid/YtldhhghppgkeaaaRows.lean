/-
  No cell of these rows narrows 'for every input' (looked for: loops, veiled, ifaces, maps, wideKeys, modest, calm, conditions, laid).
  DERIVED. THE GIVEN ROWS OF THIS SEAT. 12 by the template 'for every input the law returns true; each argument reads behind the call as it read before'; 0 by the template 'total and deterministic' (their statements: YtldhhghppgkeaaaTotals.lean).
  GIVEN WITH THE SEED: the statements are not yours to turn. If you find one false, say at which input.
  Laid BY PROGRAM, IN A SANDBOX (cutbox-rows.mjs): the forced cells as the released guide's own fill.sh prints them over the translation c4c98f38d66ccce1… (all of the seat's roots in one cut). By AI agents, Wed Nov 11 2026. No macro, syntax, notation, axiom, sorry.
-/
import Derived.Test.YtldhhghppgkeaaaChecked
import GoSem.Claim
import GoSem.ClaimJoined
import GoSem.ClaimMapViews
import Derived.JoinedTies
import Derived.KernelRfl
namespace Go.Proofs.Ytldhhghppgkeaaa
/- THE CELL 'sum', in the pinned program and in every row, IS THE sha256 OF THE DUMP (.gsa) THAT YtldhhghppgkeaaaProg.lean LOADS. Nothing in Lean hashes anything: it is a label: what it is worth is what the hold of that sum in a sandbox is worth. -/
noncomputable def Try.pinned : Pinned := { name := "ytldhhghppgkeaaa", sum := "c4c98f38d66ccce13ada9bf0222c220b95126de415328f2efe3a4e5c2e2424cf", checked := Try.checked }
namespace Rows
def none {H : Type} : Left H := { results := [], args := [] }

/-- 'laws.FnExactBeats': WHATEVER THE INPUT: true; the input reads as it did. -/
def fnExactBeatsSpec : ChangeSpec := { name := "fnExactBeats", fn := fun _ => fun
  | [d1, d2] => { results := [.lit (.bool true)], args := [d1, d2] }
  | _ => none }
def fnExactBeatsRow : OpenClaim := { program := "ytldhhghppgkeaaa", sum := "c4c98f38d66ccce13ada9bf0222c220b95126de415328f2efe3a4e5c2e2424cf", func := "loop.example/g00725/laws.FnExactBeats", spec := "fnExactBeats", apart := false }
def FnExactBeatsSaid : Prop := fnExactBeatsRow.holds Try.pinned (OpenSpec.ofChange fnExactBeatsSpec)

/-- ITS FALSE NEIGHBOUR: 'it returns false'. Refute it at one input. -/
def fnExactBeatsWrong : ChangeSpec := { name := "fnExactBeats", fn := fun _ => fun
  | [d1, d2] => { results := [.lit (.bool false)], args := [d1, d2] }
  | _ => none }
def FnExactBeatsWrongFalsely : Prop := fnExactBeatsRow.holds Try.pinned (OpenSpec.ofChange fnExactBeatsWrong)

/-- 'laws.FnExactClaimFault': WHATEVER THE INPUT: true; the input reads as it did. -/
def fnExactClaimFaultSpec : ChangeSpec := { name := "fnExactClaimFault", fn := fun _ => fun
  | [d] => { results := [.lit (.bool true)], args := [d] }
  | _ => none }
def fnExactClaimFaultRow : OpenClaim := { program := "ytldhhghppgkeaaa", sum := "c4c98f38d66ccce13ada9bf0222c220b95126de415328f2efe3a4e5c2e2424cf", func := "loop.example/g00725/laws.FnExactClaimFault", spec := "fnExactClaimFault", apart := false }
def FnExactClaimFaultSaid : Prop := fnExactClaimFaultRow.holds Try.pinned (OpenSpec.ofChange fnExactClaimFaultSpec)

/-- ITS FALSE NEIGHBOUR: 'it returns false'. Refute it at one input. -/
def fnExactClaimFaultWrong : ChangeSpec := { name := "fnExactClaimFault", fn := fun _ => fun
  | [d] => { results := [.lit (.bool false)], args := [d] }
  | _ => none }
def FnExactClaimFaultWrongFalsely : Prop := fnExactClaimFaultRow.holds Try.pinned (OpenSpec.ofChange fnExactClaimFaultWrong)

/-- 'laws.FnExactNewWindow': WHATEVER THE INPUT: true; the input reads as it did. -/
def fnExactNewWindowSpec : ChangeSpec := { name := "fnExactNewWindow", fn := fun _ => fun
  | [] => { results := [.lit (.bool true)], args := [] }
  | _ => none }
def fnExactNewWindowRow : OpenClaim := { program := "ytldhhghppgkeaaa", sum := "c4c98f38d66ccce13ada9bf0222c220b95126de415328f2efe3a4e5c2e2424cf", func := "loop.example/g00725/laws.FnExactNewWindow", spec := "fnExactNewWindow", apart := false }
def FnExactNewWindowSaid : Prop := fnExactNewWindowRow.holds Try.pinned (OpenSpec.ofChange fnExactNewWindowSpec)

/-- ITS FALSE NEIGHBOUR: 'it returns false'. Refute it at one input. -/
def fnExactNewWindowWrong : ChangeSpec := { name := "fnExactNewWindow", fn := fun _ => fun
  | [] => { results := [.lit (.bool false)], args := [] }
  | _ => none }
def FnExactNewWindowWrongFalsely : Prop := fnExactNewWindowRow.holds Try.pinned (OpenSpec.ofChange fnExactNewWindowWrong)

/-- 'laws.FnClaims': WHATEVER THE INPUT: true; the input reads as it did. -/
def fnClaimsSpec : ChangeSpec := { name := "fnClaims", fn := fun _ => fun
  | [d] => { results := [.lit (.bool true)], args := [d] }
  | _ => none }
def fnClaimsRow : OpenClaim := { program := "ytldhhghppgkeaaa", sum := "c4c98f38d66ccce13ada9bf0222c220b95126de415328f2efe3a4e5c2e2424cf", func := "loop.example/g00725/laws.FnClaims", spec := "fnClaims", apart := false }
def FnClaimsSaid : Prop := fnClaimsRow.holds Try.pinned (OpenSpec.ofChange fnClaimsSpec)

/-- ITS FALSE NEIGHBOUR: 'it returns false'. Refute it at one input. -/
def fnClaimsWrong : ChangeSpec := { name := "fnClaims", fn := fun _ => fun
  | [d] => { results := [.lit (.bool false)], args := [d] }
  | _ => none }
def FnClaimsWrongFalsely : Prop := fnClaimsRow.holds Try.pinned (OpenSpec.ofChange fnClaimsWrong)

/-- 'laws.FnExactSameRecords': WHATEVER THE INPUT: true; the input reads as it did. -/
def fnExactSameRecordsSpec : ChangeSpec := { name := "fnExactSameRecords", fn := fun _ => fun
  | [d1, d2] => { results := [.lit (.bool true)], args := [d1, d2] }
  | _ => none }
def fnExactSameRecordsRow : OpenClaim := { program := "ytldhhghppgkeaaa", sum := "c4c98f38d66ccce13ada9bf0222c220b95126de415328f2efe3a4e5c2e2424cf", func := "loop.example/g00725/laws.FnExactSameRecords", spec := "fnExactSameRecords", apart := false }
def FnExactSameRecordsSaid : Prop := fnExactSameRecordsRow.holds Try.pinned (OpenSpec.ofChange fnExactSameRecordsSpec)

/-- ITS FALSE NEIGHBOUR: 'it returns false'. Refute it at one input. -/
def fnExactSameRecordsWrong : ChangeSpec := { name := "fnExactSameRecords", fn := fun _ => fun
  | [d1, d2] => { results := [.lit (.bool false)], args := [d1, d2] }
  | _ => none }
def FnExactSameRecordsWrongFalsely : Prop := fnExactSameRecordsRow.holds Try.pinned (OpenSpec.ofChange fnExactSameRecordsWrong)

/-- 'laws.FnExactSameViews': WHATEVER THE INPUT: true; the input reads as it did. -/
def fnExactSameViewsSpec : ChangeSpec := { name := "fnExactSameViews", fn := fun _ => fun
  | [d1, d2] => { results := [.lit (.bool true)], args := [d1, d2] }
  | _ => none }
def fnExactSameViewsRow : OpenClaim := { program := "ytldhhghppgkeaaa", sum := "c4c98f38d66ccce13ada9bf0222c220b95126de415328f2efe3a4e5c2e2424cf", func := "loop.example/g00725/laws.FnExactSameViews", spec := "fnExactSameViews", apart := false }
def FnExactSameViewsSaid : Prop := fnExactSameViewsRow.holds Try.pinned (OpenSpec.ofChange fnExactSameViewsSpec)

/-- ITS FALSE NEIGHBOUR: 'it returns false'. Refute it at one input. -/
def fnExactSameViewsWrong : ChangeSpec := { name := "fnExactSameViews", fn := fun _ => fun
  | [d1, d2] => { results := [.lit (.bool false)], args := [d1, d2] }
  | _ => none }
def FnExactSameViewsWrongFalsely : Prop := fnExactSameViewsRow.holds Try.pinned (OpenSpec.ofChange fnExactSameViewsWrong)

/-- 'laws.FnExactSameWindows': WHATEVER THE INPUT: true; the input reads as it did. -/
def fnExactSameWindowsSpec : ChangeSpec := { name := "fnExactSameWindows", fn := fun _ => fun
  | [d1, d2] => { results := [.lit (.bool true)], args := [d1, d2] }
  | _ => none }
def fnExactSameWindowsRow : OpenClaim := { program := "ytldhhghppgkeaaa", sum := "c4c98f38d66ccce13ada9bf0222c220b95126de415328f2efe3a4e5c2e2424cf", func := "loop.example/g00725/laws.FnExactSameWindows", spec := "fnExactSameWindows", apart := false }
def FnExactSameWindowsSaid : Prop := fnExactSameWindowsRow.holds Try.pinned (OpenSpec.ofChange fnExactSameWindowsSpec)

/-- ITS FALSE NEIGHBOUR: 'it returns false'. Refute it at one input. -/
def fnExactSameWindowsWrong : ChangeSpec := { name := "fnExactSameWindows", fn := fun _ => fun
  | [d1, d2] => { results := [.lit (.bool false)], args := [d1, d2] }
  | _ => none }
def FnExactSameWindowsWrongFalsely : Prop := fnExactSameWindowsRow.holds Try.pinned (OpenSpec.ofChange fnExactSameWindowsWrong)

/-- 'laws.FnExactSameWaits': WHATEVER THE INPUT: true; the input reads as it did. -/
def fnExactSameWaitsSpec : ChangeSpec := { name := "fnExactSameWaits", fn := fun _ => fun
  | [d1, d2] => { results := [.lit (.bool true)], args := [d1, d2] }
  | _ => none }
def fnExactSameWaitsRow : OpenClaim := { program := "ytldhhghppgkeaaa", sum := "c4c98f38d66ccce13ada9bf0222c220b95126de415328f2efe3a4e5c2e2424cf", func := "loop.example/g00725/laws.FnExactSameWaits", spec := "fnExactSameWaits", apart := false }
def FnExactSameWaitsSaid : Prop := fnExactSameWaitsRow.holds Try.pinned (OpenSpec.ofChange fnExactSameWaitsSpec)

/-- ITS FALSE NEIGHBOUR: 'it returns false'. Refute it at one input. -/
def fnExactSameWaitsWrong : ChangeSpec := { name := "fnExactSameWaits", fn := fun _ => fun
  | [d1, d2] => { results := [.lit (.bool false)], args := [d1, d2] }
  | _ => none }
def FnExactSameWaitsWrongFalsely : Prop := fnExactSameWaitsRow.holds Try.pinned (OpenSpec.ofChange fnExactSameWaitsWrong)

/-- 'laws.FnExactWindowFault': WHATEVER THE INPUT: true; the input reads as it did. -/
def fnExactWindowFaultSpec : ChangeSpec := { name := "fnExactWindowFault", fn := fun _ => fun
  | [d] => { results := [.lit (.bool true)], args := [d] }
  | _ => none }
def fnExactWindowFaultRow : OpenClaim := { program := "ytldhhghppgkeaaa", sum := "c4c98f38d66ccce13ada9bf0222c220b95126de415328f2efe3a4e5c2e2424cf", func := "loop.example/g00725/laws.FnExactWindowFault", spec := "fnExactWindowFault", apart := false }
def FnExactWindowFaultSaid : Prop := fnExactWindowFaultRow.holds Try.pinned (OpenSpec.ofChange fnExactWindowFaultSpec)

/-- ITS FALSE NEIGHBOUR: 'it returns false'. Refute it at one input. -/
def fnExactWindowFaultWrong : ChangeSpec := { name := "fnExactWindowFault", fn := fun _ => fun
  | [d] => { results := [.lit (.bool false)], args := [d] }
  | _ => none }
def FnExactWindowFaultWrongFalsely : Prop := fnExactWindowFaultRow.holds Try.pinned (OpenSpec.ofChange fnExactWindowFaultWrong)

/-- 'laws.FnExactRefuteBy': WHATEVER THE INPUT: true; the input reads as it did. -/
def fnExactRefuteBySpec : ChangeSpec := { name := "fnExactRefuteBy", fn := fun _ => fun
  | [d1, d2] => { results := [.lit (.bool true)], args := [d1, d2] }
  | _ => none }
def fnExactRefuteByRow : OpenClaim := { program := "ytldhhghppgkeaaa", sum := "c4c98f38d66ccce13ada9bf0222c220b95126de415328f2efe3a4e5c2e2424cf", func := "loop.example/g00725/laws.FnExactRefuteBy", spec := "fnExactRefuteBy", apart := false }
def FnExactRefuteBySaid : Prop := fnExactRefuteByRow.holds Try.pinned (OpenSpec.ofChange fnExactRefuteBySpec)

/-- ITS FALSE NEIGHBOUR: 'it returns false'. Refute it at one input. -/
def fnExactRefuteByWrong : ChangeSpec := { name := "fnExactRefuteBy", fn := fun _ => fun
  | [d1, d2] => { results := [.lit (.bool false)], args := [d1, d2] }
  | _ => none }
def FnExactRefuteByWrongFalsely : Prop := fnExactRefuteByRow.holds Try.pinned (OpenSpec.ofChange fnExactRefuteByWrong)

/-- 'laws.FnExactViewFault': WHATEVER THE INPUT: true; the input reads as it did. -/
def fnExactViewFaultSpec : ChangeSpec := { name := "fnExactViewFault", fn := fun _ => fun
  | [d] => { results := [.lit (.bool true)], args := [d] }
  | _ => none }
def fnExactViewFaultRow : OpenClaim := { program := "ytldhhghppgkeaaa", sum := "c4c98f38d66ccce13ada9bf0222c220b95126de415328f2efe3a4e5c2e2424cf", func := "loop.example/g00725/laws.FnExactViewFault", spec := "fnExactViewFault", apart := false }
def FnExactViewFaultSaid : Prop := fnExactViewFaultRow.holds Try.pinned (OpenSpec.ofChange fnExactViewFaultSpec)

/-- ITS FALSE NEIGHBOUR: 'it returns false'. Refute it at one input. -/
def fnExactViewFaultWrong : ChangeSpec := { name := "fnExactViewFault", fn := fun _ => fun
  | [d] => { results := [.lit (.bool false)], args := [d] }
  | _ => none }
def FnExactViewFaultWrongFalsely : Prop := fnExactViewFaultRow.holds Try.pinned (OpenSpec.ofChange fnExactViewFaultWrong)

/-- 'laws.FnExactWaitsFault': WHATEVER THE INPUT: true; the input reads as it did. -/
def fnExactWaitsFaultSpec : ChangeSpec := { name := "fnExactWaitsFault", fn := fun _ => fun
  | [d] => { results := [.lit (.bool true)], args := [d] }
  | _ => none }
def fnExactWaitsFaultRow : OpenClaim := { program := "ytldhhghppgkeaaa", sum := "c4c98f38d66ccce13ada9bf0222c220b95126de415328f2efe3a4e5c2e2424cf", func := "loop.example/g00725/laws.FnExactWaitsFault", spec := "fnExactWaitsFault", apart := false }
def FnExactWaitsFaultSaid : Prop := fnExactWaitsFaultRow.holds Try.pinned (OpenSpec.ofChange fnExactWaitsFaultSpec)

/-- ITS FALSE NEIGHBOUR: 'it returns false'. Refute it at one input. -/
def fnExactWaitsFaultWrong : ChangeSpec := { name := "fnExactWaitsFault", fn := fun _ => fun
  | [d] => { results := [.lit (.bool false)], args := [d] }
  | _ => none }
def FnExactWaitsFaultWrongFalsely : Prop := fnExactWaitsFaultRow.holds Try.pinned (OpenSpec.ofChange fnExactWaitsFaultWrong)

/- THE SECOND FORM. 'bulk': how many values and letters a reading holds, each counted each time it is reached (what is shared counts as often as it is met; a slice's spare places count too). A statement '..UptoSaid' is the law's where the arguments, and the package variables that the reading takes, are together of bulk at most 1048576: NARROWER than '..Said'. Prove '..Said' where nothing that the law and all that it calls make is longer than what came in: it says more and counts as full. Else prove '..UptoSaid'. A law counts once. -/
mutual
def uptoBulk {H : Type} : DataW H → Nat
  | .lit (.string bytes) => bytes.length + 1
  | .lit _ => 1
  | .nil => 1
  | .ptr d => uptoBulk d + 1
  | .slice elems spare => uptoBulkAll elems + uptoBulkAll spare + 1
  | .agg parts => uptoBulkAll parts + 1
  | .iface _ d => uptoBulk d + 1
  | .map entries => uptoBulkEntries entries + 1
  | .held _ => 1
def uptoBulkAll {H : Type} : List (DataW H) → Nat
  | [] => 0
  | d :: r => uptoBulk d + uptoBulkAll r
def uptoBulkEntries {H : Type} : List (Lit × DataW H) → Nat
  | [] => 0
  | x :: r => uptoBulkEntry x + uptoBulkEntries r
def uptoBulkEntry {H : Type} : Lit × DataW H → Nat
  | (.string bytes, d) => bytes.length + uptoBulk d + 1
  | (_, d) => uptoBulk d + 1
 end
def uptoSmall : (H : Type) → List (DataW H) → Bool := fun _ ds => decide (uptoBulkAll ds ≤ 1048576)
def OpenSpec.upto (s : _root_.Go.ChangeSpec) : _root_.Go.OpenSpec := { _root_.Go.OpenSpec.ofChange s with cond := some uptoSmall }

/-- 'laws.FnExactBeats', WHERE WHAT IT READS IS OF BULK AT MOST 1048576: true; the input reads as it did. -/
def fnExactBeatsUptoRow : OpenClaim := { program := "ytldhhghppgkeaaa", sum := "c4c98f38d66ccce13ada9bf0222c220b95126de415328f2efe3a4e5c2e2424cf", func := "loop.example/g00725/laws.FnExactBeats", spec := "fnExactBeats", apart := false, narrowed := true }
def FnExactBeatsUptoSaid : Prop := fnExactBeatsUptoRow.holds Try.pinned (OpenSpec.upto fnExactBeatsSpec)

/-- 'laws.FnExactClaimFault', WHERE WHAT IT READS IS OF BULK AT MOST 1048576: true; the input reads as it did. -/
def fnExactClaimFaultUptoRow : OpenClaim := { program := "ytldhhghppgkeaaa", sum := "c4c98f38d66ccce13ada9bf0222c220b95126de415328f2efe3a4e5c2e2424cf", func := "loop.example/g00725/laws.FnExactClaimFault", spec := "fnExactClaimFault", apart := false, narrowed := true }
def FnExactClaimFaultUptoSaid : Prop := fnExactClaimFaultUptoRow.holds Try.pinned (OpenSpec.upto fnExactClaimFaultSpec)

/-- 'laws.FnExactNewWindow', WHERE WHAT IT READS IS OF BULK AT MOST 1048576: true; the input reads as it did. -/
def fnExactNewWindowUptoRow : OpenClaim := { program := "ytldhhghppgkeaaa", sum := "c4c98f38d66ccce13ada9bf0222c220b95126de415328f2efe3a4e5c2e2424cf", func := "loop.example/g00725/laws.FnExactNewWindow", spec := "fnExactNewWindow", apart := false, narrowed := true }
def FnExactNewWindowUptoSaid : Prop := fnExactNewWindowUptoRow.holds Try.pinned (OpenSpec.upto fnExactNewWindowSpec)

/-- 'laws.FnClaims', WHERE WHAT IT READS IS OF BULK AT MOST 1048576: true; the input reads as it did. -/
def fnClaimsUptoRow : OpenClaim := { program := "ytldhhghppgkeaaa", sum := "c4c98f38d66ccce13ada9bf0222c220b95126de415328f2efe3a4e5c2e2424cf", func := "loop.example/g00725/laws.FnClaims", spec := "fnClaims", apart := false, narrowed := true }
def FnClaimsUptoSaid : Prop := fnClaimsUptoRow.holds Try.pinned (OpenSpec.upto fnClaimsSpec)

/-- 'laws.FnExactSameRecords', WHERE WHAT IT READS IS OF BULK AT MOST 1048576: true; the input reads as it did. -/
def fnExactSameRecordsUptoRow : OpenClaim := { program := "ytldhhghppgkeaaa", sum := "c4c98f38d66ccce13ada9bf0222c220b95126de415328f2efe3a4e5c2e2424cf", func := "loop.example/g00725/laws.FnExactSameRecords", spec := "fnExactSameRecords", apart := false, narrowed := true }
def FnExactSameRecordsUptoSaid : Prop := fnExactSameRecordsUptoRow.holds Try.pinned (OpenSpec.upto fnExactSameRecordsSpec)

/-- 'laws.FnExactSameViews', WHERE WHAT IT READS IS OF BULK AT MOST 1048576: true; the input reads as it did. -/
def fnExactSameViewsUptoRow : OpenClaim := { program := "ytldhhghppgkeaaa", sum := "c4c98f38d66ccce13ada9bf0222c220b95126de415328f2efe3a4e5c2e2424cf", func := "loop.example/g00725/laws.FnExactSameViews", spec := "fnExactSameViews", apart := false, narrowed := true }
def FnExactSameViewsUptoSaid : Prop := fnExactSameViewsUptoRow.holds Try.pinned (OpenSpec.upto fnExactSameViewsSpec)

/-- 'laws.FnExactSameWindows', WHERE WHAT IT READS IS OF BULK AT MOST 1048576: true; the input reads as it did. -/
def fnExactSameWindowsUptoRow : OpenClaim := { program := "ytldhhghppgkeaaa", sum := "c4c98f38d66ccce13ada9bf0222c220b95126de415328f2efe3a4e5c2e2424cf", func := "loop.example/g00725/laws.FnExactSameWindows", spec := "fnExactSameWindows", apart := false, narrowed := true }
def FnExactSameWindowsUptoSaid : Prop := fnExactSameWindowsUptoRow.holds Try.pinned (OpenSpec.upto fnExactSameWindowsSpec)

/-- 'laws.FnExactSameWaits', WHERE WHAT IT READS IS OF BULK AT MOST 1048576: true; the input reads as it did. -/
def fnExactSameWaitsUptoRow : OpenClaim := { program := "ytldhhghppgkeaaa", sum := "c4c98f38d66ccce13ada9bf0222c220b95126de415328f2efe3a4e5c2e2424cf", func := "loop.example/g00725/laws.FnExactSameWaits", spec := "fnExactSameWaits", apart := false, narrowed := true }
def FnExactSameWaitsUptoSaid : Prop := fnExactSameWaitsUptoRow.holds Try.pinned (OpenSpec.upto fnExactSameWaitsSpec)

/-- 'laws.FnExactWindowFault', WHERE WHAT IT READS IS OF BULK AT MOST 1048576: true; the input reads as it did. -/
def fnExactWindowFaultUptoRow : OpenClaim := { program := "ytldhhghppgkeaaa", sum := "c4c98f38d66ccce13ada9bf0222c220b95126de415328f2efe3a4e5c2e2424cf", func := "loop.example/g00725/laws.FnExactWindowFault", spec := "fnExactWindowFault", apart := false, narrowed := true }
def FnExactWindowFaultUptoSaid : Prop := fnExactWindowFaultUptoRow.holds Try.pinned (OpenSpec.upto fnExactWindowFaultSpec)

/-- 'laws.FnExactRefuteBy', WHERE WHAT IT READS IS OF BULK AT MOST 1048576: true; the input reads as it did. -/
def fnExactRefuteByUptoRow : OpenClaim := { program := "ytldhhghppgkeaaa", sum := "c4c98f38d66ccce13ada9bf0222c220b95126de415328f2efe3a4e5c2e2424cf", func := "loop.example/g00725/laws.FnExactRefuteBy", spec := "fnExactRefuteBy", apart := false, narrowed := true }
def FnExactRefuteByUptoSaid : Prop := fnExactRefuteByUptoRow.holds Try.pinned (OpenSpec.upto fnExactRefuteBySpec)

/-- 'laws.FnExactViewFault', WHERE WHAT IT READS IS OF BULK AT MOST 1048576: true; the input reads as it did. -/
def fnExactViewFaultUptoRow : OpenClaim := { program := "ytldhhghppgkeaaa", sum := "c4c98f38d66ccce13ada9bf0222c220b95126de415328f2efe3a4e5c2e2424cf", func := "loop.example/g00725/laws.FnExactViewFault", spec := "fnExactViewFault", apart := false, narrowed := true }
def FnExactViewFaultUptoSaid : Prop := fnExactViewFaultUptoRow.holds Try.pinned (OpenSpec.upto fnExactViewFaultSpec)

/-- 'laws.FnExactWaitsFault', WHERE WHAT IT READS IS OF BULK AT MOST 1048576: true; the input reads as it did. -/
def fnExactWaitsFaultUptoRow : OpenClaim := { program := "ytldhhghppgkeaaa", sum := "c4c98f38d66ccce13ada9bf0222c220b95126de415328f2efe3a4e5c2e2424cf", func := "loop.example/g00725/laws.FnExactWaitsFault", spec := "fnExactWaitsFault", apart := false, narrowed := true }
def FnExactWaitsFaultUptoSaid : Prop := fnExactWaitsFaultUptoRow.holds Try.pinned (OpenSpec.upto fnExactWaitsFaultSpec)

end Rows
end Go.Proofs.Ytldhhghppgkeaaa
