/-
  No cell of these rows narrows 'for every input' (looked for: loops, veiled, ifaces, maps, wideKeys, modest, calm, conditions, laid).
  DERIVED. THE GIVEN ROWS OF THIS SEAT. 4 by the template 'for every input the law returns true; each argument reads behind the call as it read before'; 0 by the template 'total and deterministic' (their statements: YtpinapnhohjipaaTotals.lean).
  GIVEN WITH THE SEED: the statements are not yours to turn. If you find one false, say at which input.
  Laid BY PROGRAM, IN A SANDBOX (cutbox-rows.mjs): the forced cells as the released guide's own fill.sh prints them over the translation 4d89e56c223c6921… (all of the seat's roots in one cut). By AI agents, Wed Nov 11 2026. No macro, syntax, notation, axiom, sorry.
-/
import Derived.Test.YtpinapnhohjipaaChecked
import GoSem.Claim
import GoSem.ClaimJoined
import GoSem.ClaimMapViews
import Derived.JoinedTies
import Derived.KernelRfl
namespace Go.Proofs.Ytpinapnhohjipaa
/- THE CELL 'sum', in the pinned program and in every row, IS THE sha256 OF THE DUMP (.gsa) THAT YtpinapnhohjipaaProg.lean LOADS. Nothing in Lean hashes anything: it is a label: what it is worth is what the hold of that sum in a sandbox is worth. -/
noncomputable def Try.pinned : Pinned := { name := "ytpinapnhohjipaa", sum := "4d89e56c223c69218bef95eaf4396afad3d70c26a05ee275f6a5530e6a3acd4c", checked := Try.checked }
namespace Rows
def none {H : Type} : Left H := { results := [], args := [] }

/-- 'laws.FnWaits': WHATEVER THE INPUT: true; the input reads as it did. -/
def fnWaitsSpec : ChangeSpec := { name := "fnWaits", fn := fun _ => fun
  | [d] => { results := [.lit (.bool true)], args := [d] }
  | _ => none }
def fnWaitsRow : OpenClaim := { program := "ytpinapnhohjipaa", sum := "4d89e56c223c69218bef95eaf4396afad3d70c26a05ee275f6a5530e6a3acd4c", func := "loop.example/g00725/laws.FnWaits", spec := "fnWaits", apart := false }
def FnWaitsSaid : Prop := fnWaitsRow.holds Try.pinned (OpenSpec.ofChange fnWaitsSpec)

/-- ITS FALSE NEIGHBOUR: 'it returns false'. Refute it at one input. -/
def fnWaitsWrong : ChangeSpec := { name := "fnWaits", fn := fun _ => fun
  | [d] => { results := [.lit (.bool false)], args := [d] }
  | _ => none }
def FnWaitsWrongFalsely : Prop := fnWaitsRow.holds Try.pinned (OpenSpec.ofChange fnWaitsWrong)

/-- 'laws.FnKnown': WHATEVER THE INPUT: true; the input reads as it did. -/
def fnKnownSpec : ChangeSpec := { name := "fnKnown", fn := fun _ => fun
  | [d] => { results := [.lit (.bool true)], args := [d] }
  | _ => none }
def fnKnownRow : OpenClaim := { program := "ytpinapnhohjipaa", sum := "4d89e56c223c69218bef95eaf4396afad3d70c26a05ee275f6a5530e6a3acd4c", func := "loop.example/g00725/laws.FnKnown", spec := "fnKnown", apart := false }
def FnKnownSaid : Prop := fnKnownRow.holds Try.pinned (OpenSpec.ofChange fnKnownSpec)

/-- ITS FALSE NEIGHBOUR: 'it returns false'. Refute it at one input. -/
def fnKnownWrong : ChangeSpec := { name := "fnKnown", fn := fun _ => fun
  | [d] => { results := [.lit (.bool false)], args := [d] }
  | _ => none }
def FnKnownWrongFalsely : Prop := fnKnownRow.holds Try.pinned (OpenSpec.ofChange fnKnownWrong)

/-- 'laws.FnTargets': WHATEVER THE INPUT: true; the input reads as it did. -/
def fnTargetsSpec : ChangeSpec := { name := "fnTargets", fn := fun _ => fun
  | [d] => { results := [.lit (.bool true)], args := [d] }
  | _ => none }
def fnTargetsRow : OpenClaim := { program := "ytpinapnhohjipaa", sum := "4d89e56c223c69218bef95eaf4396afad3d70c26a05ee275f6a5530e6a3acd4c", func := "loop.example/g00725/laws.FnTargets", spec := "fnTargets", apart := false }
def FnTargetsSaid : Prop := fnTargetsRow.holds Try.pinned (OpenSpec.ofChange fnTargetsSpec)

/-- ITS FALSE NEIGHBOUR: 'it returns false'. Refute it at one input. -/
def fnTargetsWrong : ChangeSpec := { name := "fnTargets", fn := fun _ => fun
  | [d] => { results := [.lit (.bool false)], args := [d] }
  | _ => none }
def FnTargetsWrongFalsely : Prop := fnTargetsRow.holds Try.pinned (OpenSpec.ofChange fnTargetsWrong)

/-- 'laws.FnDecides': WHATEVER THE INPUT: true; the input reads as it did. -/
def fnDecidesSpec : ChangeSpec := { name := "fnDecides", fn := fun _ => fun
  | [d] => { results := [.lit (.bool true)], args := [d] }
  | _ => none }
def fnDecidesRow : OpenClaim := { program := "ytpinapnhohjipaa", sum := "4d89e56c223c69218bef95eaf4396afad3d70c26a05ee275f6a5530e6a3acd4c", func := "loop.example/g00725/laws.FnDecides", spec := "fnDecides", apart := false }
def FnDecidesSaid : Prop := fnDecidesRow.holds Try.pinned (OpenSpec.ofChange fnDecidesSpec)

/-- ITS FALSE NEIGHBOUR: 'it returns false'. Refute it at one input. -/
def fnDecidesWrong : ChangeSpec := { name := "fnDecides", fn := fun _ => fun
  | [d] => { results := [.lit (.bool false)], args := [d] }
  | _ => none }
def FnDecidesWrongFalsely : Prop := fnDecidesRow.holds Try.pinned (OpenSpec.ofChange fnDecidesWrong)

/- THE SECOND FORM. 'bulk': how many values and letters a reading holds, each counted each time it is reached (what is shared counts as often as it is met; a slice's spare places count too). A statement '..UptoSaid' is the law's where the arguments, and the package variables that the reading takes, are together of bulk at most 1048576: NARROWER than '..Said'. Prove '..Said' where nothing that the law and all that it calls make is longer than what came in: it says more and counts as full. Else prove '..UptoSaid'. A law counts once. -/
mutual
def uptoBulk {H : Type} : DataW H → Nat
  | .lit (.string bytes) => bytes.length + 1
  | .lit _ => 1
  | .nil => 1
  | .ptr d => uptoBulk d + 1
  | .slice elems spare => uptoBulkAll elems + uptoBulkAll spare + 1
  | .agg parts => uptoBulkAll parts + 1
  | .iface _ d => uptoBulk d + 1
  | .map entries => uptoBulkEntries entries + 1
  | .held _ => 1
def uptoBulkAll {H : Type} : List (DataW H) → Nat
  | [] => 0
  | d :: r => uptoBulk d + uptoBulkAll r
def uptoBulkEntries {H : Type} : List (Lit × DataW H) → Nat
  | [] => 0
  | x :: r => uptoBulkEntry x + uptoBulkEntries r
def uptoBulkEntry {H : Type} : Lit × DataW H → Nat
  | (.string bytes, d) => bytes.length + uptoBulk d + 1
  | (_, d) => uptoBulk d + 1
 end
def uptoSmall : (H : Type) → List (DataW H) → Bool := fun _ ds => decide (uptoBulkAll ds ≤ 1048576)
def OpenSpec.upto (s : _root_.Go.ChangeSpec) : _root_.Go.OpenSpec := { _root_.Go.OpenSpec.ofChange s with cond := some uptoSmall }

/-- 'laws.FnWaits', WHERE WHAT IT READS IS OF BULK AT MOST 1048576: true; the input reads as it did. -/
def fnWaitsUptoRow : OpenClaim := { program := "ytpinapnhohjipaa", sum := "4d89e56c223c69218bef95eaf4396afad3d70c26a05ee275f6a5530e6a3acd4c", func := "loop.example/g00725/laws.FnWaits", spec := "fnWaits", apart := false, narrowed := true }
def FnWaitsUptoSaid : Prop := fnWaitsUptoRow.holds Try.pinned (OpenSpec.upto fnWaitsSpec)

/-- 'laws.FnKnown', WHERE WHAT IT READS IS OF BULK AT MOST 1048576: true; the input reads as it did. -/
def fnKnownUptoRow : OpenClaim := { program := "ytpinapnhohjipaa", sum := "4d89e56c223c69218bef95eaf4396afad3d70c26a05ee275f6a5530e6a3acd4c", func := "loop.example/g00725/laws.FnKnown", spec := "fnKnown", apart := false, narrowed := true }
def FnKnownUptoSaid : Prop := fnKnownUptoRow.holds Try.pinned (OpenSpec.upto fnKnownSpec)

/-- 'laws.FnTargets', WHERE WHAT IT READS IS OF BULK AT MOST 1048576: true; the input reads as it did. -/
def fnTargetsUptoRow : OpenClaim := { program := "ytpinapnhohjipaa", sum := "4d89e56c223c69218bef95eaf4396afad3d70c26a05ee275f6a5530e6a3acd4c", func := "loop.example/g00725/laws.FnTargets", spec := "fnTargets", apart := false, narrowed := true }
def FnTargetsUptoSaid : Prop := fnTargetsUptoRow.holds Try.pinned (OpenSpec.upto fnTargetsSpec)

/-- 'laws.FnDecides', WHERE WHAT IT READS IS OF BULK AT MOST 1048576: true; the input reads as it did. -/
def fnDecidesUptoRow : OpenClaim := { program := "ytpinapnhohjipaa", sum := "4d89e56c223c69218bef95eaf4396afad3d70c26a05ee275f6a5530e6a3acd4c", func := "loop.example/g00725/laws.FnDecides", spec := "fnDecides", apart := false, narrowed := true }
def FnDecidesUptoSaid : Prop := fnDecidesUptoRow.holds Try.pinned (OpenSpec.upto fnDecidesSpec)

end Rows
end Go.Proofs.Ytpinapnhohjipaa
