/-
  No cell of these rows narrows 'for every input' (looked for: loops, veiled, ifaces, maps, wideKeys, modest, calm, conditions, laid).
  DERIVED. THE GIVEN ROWS OF THIS SEAT. 3 by the template 'for every input the law returns true; each argument reads behind the call as it read before'; 0 by the template 'total and deterministic' (their statements: YtijeopohnhlpoaaTotals.lean).
  GIVEN WITH THE SEED: the statements are not yours to turn. If you find one false, say at which input.
  Laid BY PROGRAM, IN A SANDBOX (cutbox-rows.mjs): the forced cells as the released guide's own fill.sh prints them over the translation 565cea0d21ace6ac… (all of the seat's roots in one cut). By AI agents, Wed Nov 11 2026. No macro, syntax, notation, axiom, sorry.
-/
import Derived.Test.YtijeopohnhlpoaaChecked
import GoSem.Claim
import GoSem.ClaimJoined
import GoSem.ClaimMapViews
import Derived.JoinedTies
import Derived.KernelRfl
namespace Go.Proofs.Ytijeopohnhlpoaa
/- THE CELL 'sum', in the pinned program and in every row, IS THE sha256 OF THE DUMP (.gsa) THAT YtijeopohnhlpoaaProg.lean LOADS. Nothing in Lean hashes anything: it is a label: what it is worth is what the hold of that sum in a sandbox is worth. -/
noncomputable def Try.pinned : Pinned := { name := "ytijeopohnhlpoaa", sum := "565cea0d21ace6acfef97aa6ef03c902ffb5be57e7c2206c39aea699834e7792", checked := Try.checked }
namespace Rows
def none {H : Type} : Left H := { results := [], args := [] }

/-- 'laws.FnExactAgeWaits': WHATEVER THE INPUT: true; the input reads as it did. -/
def fnExactAgeWaitsSpec : ChangeSpec := { name := "fnExactAgeWaits", fn := fun _ => fun
  | [d] => { results := [.lit (.bool true)], args := [d] }
  | _ => none }
def fnExactAgeWaitsRow : OpenClaim := { program := "ytijeopohnhlpoaa", sum := "565cea0d21ace6acfef97aa6ef03c902ffb5be57e7c2206c39aea699834e7792", func := "loop.example/g00725/laws.FnExactAgeWaits", spec := "fnExactAgeWaits", apart := false }
def FnExactAgeWaitsSaid : Prop := fnExactAgeWaitsRow.holds Try.pinned (OpenSpec.ofChange fnExactAgeWaitsSpec)

/-- ITS FALSE NEIGHBOUR: 'it returns false'. Refute it at one input. -/
def fnExactAgeWaitsWrong : ChangeSpec := { name := "fnExactAgeWaits", fn := fun _ => fun
  | [d] => { results := [.lit (.bool false)], args := [d] }
  | _ => none }
def FnExactAgeWaitsWrongFalsely : Prop := fnExactAgeWaitsRow.holds Try.pinned (OpenSpec.ofChange fnExactAgeWaitsWrong)

/-- 'laws.FnExactClearWaits': WHATEVER THE INPUT: true; the input reads as it did. -/
def fnExactClearWaitsSpec : ChangeSpec := { name := "fnExactClearWaits", fn := fun _ => fun
  | [d1, d2] => { results := [.lit (.bool true)], args := [d1, d2] }
  | _ => none }
def fnExactClearWaitsRow : OpenClaim := { program := "ytijeopohnhlpoaa", sum := "565cea0d21ace6acfef97aa6ef03c902ffb5be57e7c2206c39aea699834e7792", func := "loop.example/g00725/laws.FnExactClearWaits", spec := "fnExactClearWaits", apart := false }
def FnExactClearWaitsSaid : Prop := fnExactClearWaitsRow.holds Try.pinned (OpenSpec.ofChange fnExactClearWaitsSpec)

/-- ITS FALSE NEIGHBOUR: 'it returns false'. Refute it at one input. -/
def fnExactClearWaitsWrong : ChangeSpec := { name := "fnExactClearWaits", fn := fun _ => fun
  | [d1, d2] => { results := [.lit (.bool false)], args := [d1, d2] }
  | _ => none }
def FnExactClearWaitsWrongFalsely : Prop := fnExactClearWaitsRow.holds Try.pinned (OpenSpec.ofChange fnExactClearWaitsWrong)

/-- 'laws.FnExactBuryBy': WHATEVER THE INPUT: true; the input reads as it did. -/
def fnExactBuryBySpec : ChangeSpec := { name := "fnExactBuryBy", fn := fun _ => fun
  | [d1, d2] => { results := [.lit (.bool true)], args := [d1, d2] }
  | _ => none }
def fnExactBuryByRow : OpenClaim := { program := "ytijeopohnhlpoaa", sum := "565cea0d21ace6acfef97aa6ef03c902ffb5be57e7c2206c39aea699834e7792", func := "loop.example/g00725/laws.FnExactBuryBy", spec := "fnExactBuryBy", apart := false }
def FnExactBuryBySaid : Prop := fnExactBuryByRow.holds Try.pinned (OpenSpec.ofChange fnExactBuryBySpec)

/-- ITS FALSE NEIGHBOUR: 'it returns false'. Refute it at one input. -/
def fnExactBuryByWrong : ChangeSpec := { name := "fnExactBuryBy", fn := fun _ => fun
  | [d1, d2] => { results := [.lit (.bool false)], args := [d1, d2] }
  | _ => none }
def FnExactBuryByWrongFalsely : Prop := fnExactBuryByRow.holds Try.pinned (OpenSpec.ofChange fnExactBuryByWrong)

/- THE SECOND FORM. 'bulk': how many values and letters a reading holds, each counted each time it is reached (what is shared counts as often as it is met; a slice's spare places count too). A statement '..UptoSaid' is the law's where the arguments, and the package variables that the reading takes, are together of bulk at most 1048576: NARROWER than '..Said'. Prove '..Said' where nothing that the law and all that it calls make is longer than what came in: it says more and counts as full. Else prove '..UptoSaid'. A law counts once. -/
mutual
def uptoBulk {H : Type} : DataW H → Nat
  | .lit (.string bytes) => bytes.length + 1
  | .lit _ => 1
  | .nil => 1
  | .ptr d => uptoBulk d + 1
  | .slice elems spare => uptoBulkAll elems + uptoBulkAll spare + 1
  | .agg parts => uptoBulkAll parts + 1
  | .iface _ d => uptoBulk d + 1
  | .map entries => uptoBulkEntries entries + 1
  | .held _ => 1
def uptoBulkAll {H : Type} : List (DataW H) → Nat
  | [] => 0
  | d :: r => uptoBulk d + uptoBulkAll r
def uptoBulkEntries {H : Type} : List (Lit × DataW H) → Nat
  | [] => 0
  | x :: r => uptoBulkEntry x + uptoBulkEntries r
def uptoBulkEntry {H : Type} : Lit × DataW H → Nat
  | (.string bytes, d) => bytes.length + uptoBulk d + 1
  | (_, d) => uptoBulk d + 1
 end
def uptoSmall : (H : Type) → List (DataW H) → Bool := fun _ ds => decide (uptoBulkAll ds ≤ 1048576)
def OpenSpec.upto (s : _root_.Go.ChangeSpec) : _root_.Go.OpenSpec := { _root_.Go.OpenSpec.ofChange s with cond := some uptoSmall }

/-- 'laws.FnExactAgeWaits', WHERE WHAT IT READS IS OF BULK AT MOST 1048576: true; the input reads as it did. -/
def fnExactAgeWaitsUptoRow : OpenClaim := { program := "ytijeopohnhlpoaa", sum := "565cea0d21ace6acfef97aa6ef03c902ffb5be57e7c2206c39aea699834e7792", func := "loop.example/g00725/laws.FnExactAgeWaits", spec := "fnExactAgeWaits", apart := false, narrowed := true }
def FnExactAgeWaitsUptoSaid : Prop := fnExactAgeWaitsUptoRow.holds Try.pinned (OpenSpec.upto fnExactAgeWaitsSpec)

/-- 'laws.FnExactClearWaits', WHERE WHAT IT READS IS OF BULK AT MOST 1048576: true; the input reads as it did. -/
def fnExactClearWaitsUptoRow : OpenClaim := { program := "ytijeopohnhlpoaa", sum := "565cea0d21ace6acfef97aa6ef03c902ffb5be57e7c2206c39aea699834e7792", func := "loop.example/g00725/laws.FnExactClearWaits", spec := "fnExactClearWaits", apart := false, narrowed := true }
def FnExactClearWaitsUptoSaid : Prop := fnExactClearWaitsUptoRow.holds Try.pinned (OpenSpec.upto fnExactClearWaitsSpec)

/-- 'laws.FnExactBuryBy', WHERE WHAT IT READS IS OF BULK AT MOST 1048576: true; the input reads as it did. -/
def fnExactBuryByUptoRow : OpenClaim := { program := "ytijeopohnhlpoaa", sum := "565cea0d21ace6acfef97aa6ef03c902ffb5be57e7c2206c39aea699834e7792", func := "loop.example/g00725/laws.FnExactBuryBy", spec := "fnExactBuryBy", apart := false, narrowed := true }
def FnExactBuryByUptoSaid : Prop := fnExactBuryByUptoRow.holds Try.pinned (OpenSpec.upto fnExactBuryBySpec)

end Rows
end Go.Proofs.Ytijeopohnhlpoaa
