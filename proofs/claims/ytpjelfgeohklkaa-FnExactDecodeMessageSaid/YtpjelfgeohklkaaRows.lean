/-
  No cell of these rows narrows 'for every input' (looked for: loops, veiled, ifaces, maps, wideKeys, modest, calm, conditions, laid).
  DERIVED. THE GIVEN ROWS OF THIS SEAT. 5 by the template 'for every input the law returns true; each argument reads behind the call as it read before'; 0 by the template 'total and deterministic' (their statements: YtpjelfgeohklkaaTotals.lean).
  GIVEN WITH THE SEED: the statements are not yours to turn. If you find one false, say at which input.
  Laid BY PROGRAM, IN A SANDBOX (cutbox-rows.mjs): the forced cells as the released guide's own fill.sh prints them over the translation df1a168e1f62f7e4… (all of the seat's roots in one cut). By AI agents, Wed Nov 11 2026. No macro, syntax, notation, axiom, sorry.
-/
import Derived.Test.YtpjelfgeohklkaaChecked
import GoSem.Claim
import GoSem.ClaimJoined
import GoSem.ClaimMapViews
import Derived.JoinedTies
import Derived.KernelRfl
namespace Go.Proofs.Ytpjelfgeohklkaa
/- THE CELL 'sum', in the pinned program and in every row, IS THE sha256 OF THE DUMP (.gsa) THAT YtpjelfgeohklkaaProg.lean LOADS. Nothing in Lean hashes anything: it is a label: what it is worth is what the hold of that sum in a sandbox is worth. -/
noncomputable def Try.pinned : Pinned := { name := "ytpjelfgeohklkaa", sum := "df1a168e1f62f7e450f96de21f47ab81aec650ffc180e62708920177dbec72a2", checked := Try.checked }
namespace Rows
def none {H : Type} : Left H := { results := [], args := [] }

/-- 'laws.FnExactSameMessages': WHATEVER THE INPUT: true; the input reads as it did. -/
def fnExactSameMessagesSpec : ChangeSpec := { name := "fnExactSameMessages", fn := fun _ => fun
  | [d1, d2] => { results := [.lit (.bool true)], args := [d1, d2] }
  | _ => none }
def fnExactSameMessagesRow : OpenClaim := { program := "ytpjelfgeohklkaa", sum := "df1a168e1f62f7e450f96de21f47ab81aec650ffc180e62708920177dbec72a2", func := "loop.example/g00725/laws.FnExactSameMessages", spec := "fnExactSameMessages", unfollowed := true, recurses := true, apart := false }
def FnExactSameMessagesSaid : Prop := fnExactSameMessagesRow.holds Try.pinned (OpenSpec.ofChange fnExactSameMessagesSpec)

/-- ITS FALSE NEIGHBOUR: 'it returns false'. Refute it at one input. -/
def fnExactSameMessagesWrong : ChangeSpec := { name := "fnExactSameMessages", fn := fun _ => fun
  | [d1, d2] => { results := [.lit (.bool false)], args := [d1, d2] }
  | _ => none }
def FnExactSameMessagesWrongFalsely : Prop := fnExactSameMessagesRow.holds Try.pinned (OpenSpec.ofChange fnExactSameMessagesWrong)

/-- 'laws.FnExactMessageFault': WHATEVER THE INPUT: true; the input reads as it did. -/
def fnExactMessageFaultSpec : ChangeSpec := { name := "fnExactMessageFault", fn := fun _ => fun
  | [d] => { results := [.lit (.bool true)], args := [d] }
  | _ => none }
def fnExactMessageFaultRow : OpenClaim := { program := "ytpjelfgeohklkaa", sum := "df1a168e1f62f7e450f96de21f47ab81aec650ffc180e62708920177dbec72a2", func := "loop.example/g00725/laws.FnExactMessageFault", spec := "fnExactMessageFault", apart := false }
def FnExactMessageFaultSaid : Prop := fnExactMessageFaultRow.holds Try.pinned (OpenSpec.ofChange fnExactMessageFaultSpec)

/-- ITS FALSE NEIGHBOUR: 'it returns false'. Refute it at one input. -/
def fnExactMessageFaultWrong : ChangeSpec := { name := "fnExactMessageFault", fn := fun _ => fun
  | [d] => { results := [.lit (.bool false)], args := [d] }
  | _ => none }
def FnExactMessageFaultWrongFalsely : Prop := fnExactMessageFaultRow.holds Try.pinned (OpenSpec.ofChange fnExactMessageFaultWrong)

/-- 'laws.FnExactEncodeMessage': WHATEVER THE INPUT: true; the input reads as it did. -/
def fnExactEncodeMessageSpec : ChangeSpec := { name := "fnExactEncodeMessage", fn := fun _ => fun
  | [d] => { results := [.lit (.bool true)], args := [d] }
  | _ => none }
def fnExactEncodeMessageRow : OpenClaim := { program := "ytpjelfgeohklkaa", sum := "df1a168e1f62f7e450f96de21f47ab81aec650ffc180e62708920177dbec72a2", func := "loop.example/g00725/laws.FnExactEncodeMessage", spec := "fnExactEncodeMessage", apart := false }
def FnExactEncodeMessageSaid : Prop := fnExactEncodeMessageRow.holds Try.pinned (OpenSpec.ofChange fnExactEncodeMessageSpec)

/-- ITS FALSE NEIGHBOUR: 'it returns false'. Refute it at one input. -/
def fnExactEncodeMessageWrong : ChangeSpec := { name := "fnExactEncodeMessage", fn := fun _ => fun
  | [d] => { results := [.lit (.bool false)], args := [d] }
  | _ => none }
def FnExactEncodeMessageWrongFalsely : Prop := fnExactEncodeMessageRow.holds Try.pinned (OpenSpec.ofChange fnExactEncodeMessageWrong)

/-- 'laws.FnExactEncodeMessages': WHATEVER THE INPUT: true; the input reads as it did. -/
def fnExactEncodeMessagesSpec : ChangeSpec := { name := "fnExactEncodeMessages", fn := fun _ => fun
  | [d] => { results := [.lit (.bool true)], args := [d] }
  | _ => none }
def fnExactEncodeMessagesRow : OpenClaim := { program := "ytpjelfgeohklkaa", sum := "df1a168e1f62f7e450f96de21f47ab81aec650ffc180e62708920177dbec72a2", func := "loop.example/g00725/laws.FnExactEncodeMessages", spec := "fnExactEncodeMessages", apart := false }
def FnExactEncodeMessagesSaid : Prop := fnExactEncodeMessagesRow.holds Try.pinned (OpenSpec.ofChange fnExactEncodeMessagesSpec)

/-- ITS FALSE NEIGHBOUR: 'it returns false'. Refute it at one input. -/
def fnExactEncodeMessagesWrong : ChangeSpec := { name := "fnExactEncodeMessages", fn := fun _ => fun
  | [d] => { results := [.lit (.bool false)], args := [d] }
  | _ => none }
def FnExactEncodeMessagesWrongFalsely : Prop := fnExactEncodeMessagesRow.holds Try.pinned (OpenSpec.ofChange fnExactEncodeMessagesWrong)

/-- 'laws.FnExactDecodeMessage': WHATEVER THE INPUT: true; the input reads as it did. -/
def fnExactDecodeMessageSpec : ChangeSpec := { name := "fnExactDecodeMessage", fn := fun _ => fun
  | [d] => { results := [.lit (.bool true)], args := [d] }
  | _ => none }
def fnExactDecodeMessageRow : OpenClaim := { program := "ytpjelfgeohklkaa", sum := "df1a168e1f62f7e450f96de21f47ab81aec650ffc180e62708920177dbec72a2", func := "loop.example/g00725/laws.FnExactDecodeMessage", spec := "fnExactDecodeMessage", apart := false }
def FnExactDecodeMessageSaid : Prop := fnExactDecodeMessageRow.holds Try.pinned (OpenSpec.ofChange fnExactDecodeMessageSpec)

/-- ITS FALSE NEIGHBOUR: 'it returns false'. Refute it at one input. -/
def fnExactDecodeMessageWrong : ChangeSpec := { name := "fnExactDecodeMessage", fn := fun _ => fun
  | [d] => { results := [.lit (.bool false)], args := [d] }
  | _ => none }
def FnExactDecodeMessageWrongFalsely : Prop := fnExactDecodeMessageRow.holds Try.pinned (OpenSpec.ofChange fnExactDecodeMessageWrong)

/- THE SECOND FORM. 'bulk': how many values and letters a reading holds, each counted each time it is reached (what is shared counts as often as it is met; a slice's spare places count too). A statement '..UptoSaid' is the law's where the arguments, and the package variables that the reading takes, are together of bulk at most 1048576: NARROWER than '..Said'. Prove '..Said' where nothing that the law and all that it calls make is longer than what came in: it says more and counts as full. Else prove '..UptoSaid'. A law counts once. -/
mutual
def uptoBulk {H : Type} : DataW H → Nat
  | .lit (.string bytes) => bytes.length + 1
  | .lit _ => 1
  | .nil => 1
  | .ptr d => uptoBulk d + 1
  | .slice elems spare => uptoBulkAll elems + uptoBulkAll spare + 1
  | .agg parts => uptoBulkAll parts + 1
  | .iface _ d => uptoBulk d + 1
  | .map entries => uptoBulkEntries entries + 1
  | .held _ => 1
def uptoBulkAll {H : Type} : List (DataW H) → Nat
  | [] => 0
  | d :: r => uptoBulk d + uptoBulkAll r
def uptoBulkEntries {H : Type} : List (Lit × DataW H) → Nat
  | [] => 0
  | x :: r => uptoBulkEntry x + uptoBulkEntries r
def uptoBulkEntry {H : Type} : Lit × DataW H → Nat
  | (.string bytes, d) => bytes.length + uptoBulk d + 1
  | (_, d) => uptoBulk d + 1
 end
def uptoSmall : (H : Type) → List (DataW H) → Bool := fun _ ds => decide (uptoBulkAll ds ≤ 1048576)
def OpenSpec.upto (s : _root_.Go.ChangeSpec) : _root_.Go.OpenSpec := { _root_.Go.OpenSpec.ofChange s with cond := some uptoSmall }

/-- 'laws.FnExactSameMessages', WHERE WHAT IT READS IS OF BULK AT MOST 1048576: true; the input reads as it did. -/
def fnExactSameMessagesUptoRow : OpenClaim := { program := "ytpjelfgeohklkaa", sum := "df1a168e1f62f7e450f96de21f47ab81aec650ffc180e62708920177dbec72a2", func := "loop.example/g00725/laws.FnExactSameMessages", spec := "fnExactSameMessages", unfollowed := true, recurses := true, apart := false, narrowed := true }
def FnExactSameMessagesUptoSaid : Prop := fnExactSameMessagesUptoRow.holds Try.pinned (OpenSpec.upto fnExactSameMessagesSpec)

/-- 'laws.FnExactMessageFault', WHERE WHAT IT READS IS OF BULK AT MOST 1048576: true; the input reads as it did. -/
def fnExactMessageFaultUptoRow : OpenClaim := { program := "ytpjelfgeohklkaa", sum := "df1a168e1f62f7e450f96de21f47ab81aec650ffc180e62708920177dbec72a2", func := "loop.example/g00725/laws.FnExactMessageFault", spec := "fnExactMessageFault", apart := false, narrowed := true }
def FnExactMessageFaultUptoSaid : Prop := fnExactMessageFaultUptoRow.holds Try.pinned (OpenSpec.upto fnExactMessageFaultSpec)

/-- 'laws.FnExactEncodeMessage', WHERE WHAT IT READS IS OF BULK AT MOST 1048576: true; the input reads as it did. -/
def fnExactEncodeMessageUptoRow : OpenClaim := { program := "ytpjelfgeohklkaa", sum := "df1a168e1f62f7e450f96de21f47ab81aec650ffc180e62708920177dbec72a2", func := "loop.example/g00725/laws.FnExactEncodeMessage", spec := "fnExactEncodeMessage", apart := false, narrowed := true }
def FnExactEncodeMessageUptoSaid : Prop := fnExactEncodeMessageUptoRow.holds Try.pinned (OpenSpec.upto fnExactEncodeMessageSpec)

/-- 'laws.FnExactEncodeMessages', WHERE WHAT IT READS IS OF BULK AT MOST 1048576: true; the input reads as it did. -/
def fnExactEncodeMessagesUptoRow : OpenClaim := { program := "ytpjelfgeohklkaa", sum := "df1a168e1f62f7e450f96de21f47ab81aec650ffc180e62708920177dbec72a2", func := "loop.example/g00725/laws.FnExactEncodeMessages", spec := "fnExactEncodeMessages", apart := false, narrowed := true }
def FnExactEncodeMessagesUptoSaid : Prop := fnExactEncodeMessagesUptoRow.holds Try.pinned (OpenSpec.upto fnExactEncodeMessagesSpec)

/-- 'laws.FnExactDecodeMessage', WHERE WHAT IT READS IS OF BULK AT MOST 1048576: true; the input reads as it did. -/
def fnExactDecodeMessageUptoRow : OpenClaim := { program := "ytpjelfgeohklkaa", sum := "df1a168e1f62f7e450f96de21f47ab81aec650ffc180e62708920177dbec72a2", func := "loop.example/g00725/laws.FnExactDecodeMessage", spec := "fnExactDecodeMessage", apart := false, narrowed := true }
def FnExactDecodeMessageUptoSaid : Prop := fnExactDecodeMessageUptoRow.holds Try.pinned (OpenSpec.upto fnExactDecodeMessageSpec)

end Rows
end Go.Proofs.Ytpjelfgeohklkaa
