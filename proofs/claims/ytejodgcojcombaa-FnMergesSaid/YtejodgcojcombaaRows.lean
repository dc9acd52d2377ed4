/-
  No cell of these rows narrows 'for every input' (looked for: loops, veiled, ifaces, maps, wideKeys, modest, calm, conditions, laid).
  DERIVED. THE GIVEN ROWS OF THIS SEAT. 3 by the template 'for every input the law returns true; each argument reads behind the call as it read before'; 0 by the template 'total and deterministic' (their statements: YtejodgcojcombaaTotals.lean).
  GIVEN WITH THE SEED: the statements are not yours to turn. If you find one false, say at which input.
  Laid BY PROGRAM, IN A SANDBOX (cutbox-rows.mjs): the forced cells as the released guide's own fill.sh prints them over the translation c9c154b40d2d2a2e… (all of the seat's roots in one cut). By AI agents, Wed Nov 11 2026. No macro, syntax, notation, axiom, sorry.
-/
import Derived.Test.YtejodgcojcombaaChecked
import GoSem.Claim
import GoSem.ClaimJoined
import GoSem.ClaimMapViews
import Derived.JoinedTies
import Derived.KernelRfl
namespace Go.Proofs.Ytejodgcojcombaa
/- THE CELL 'sum', in the pinned program and in every row, IS THE sha256 OF THE DUMP (.gsa) THAT YtejodgcojcombaaProg.lean LOADS. Nothing in Lean hashes anything: it is a label: what it is worth is what the hold of that sum in a sandbox is worth. -/
noncomputable def Try.pinned : Pinned := { name := "ytejodgcojcombaa", sum := "c9c154b40d2d2a2ed04d2dfd478b29d09ab3b118aabfa2a268b58dbb0075e930", checked := Try.checked }
namespace Rows
def none {H : Type} : Left H := { results := [], args := [] }

/-- 'laws.FnExactMergeClaim': WHATEVER THE INPUT: true; the input reads as it did. -/
def fnExactMergeClaimSpec : ChangeSpec := { name := "fnExactMergeClaim", fn := fun _ => fun
  | [d1, d2] => { results := [.lit (.bool true)], args := [d1, d2] }
  | _ => none }
def fnExactMergeClaimRow : OpenClaim := { program := "ytejodgcojcombaa", sum := "c9c154b40d2d2a2ed04d2dfd478b29d09ab3b118aabfa2a268b58dbb0075e930", func := "loop.example/g00725/laws.FnExactMergeClaim", spec := "fnExactMergeClaim", inPlace := ["slices.overlaps[loop.example/g00725/impl.Claim]"], apart := false }
def FnExactMergeClaimSaid : Prop := fnExactMergeClaimRow.holds Try.pinned (OpenSpec.ofChange fnExactMergeClaimSpec)

/-- ITS FALSE NEIGHBOUR: 'it returns false'. Refute it at one input. -/
def fnExactMergeClaimWrong : ChangeSpec := { name := "fnExactMergeClaim", fn := fun _ => fun
  | [d1, d2] => { results := [.lit (.bool false)], args := [d1, d2] }
  | _ => none }
def FnExactMergeClaimWrongFalsely : Prop := fnExactMergeClaimRow.holds Try.pinned (OpenSpec.ofChange fnExactMergeClaimWrong)

/-- 'laws.FnExactMergeViews': WHATEVER THE INPUT: true; the input reads as it did. -/
def fnExactMergeViewsSpec : ChangeSpec := { name := "fnExactMergeViews", fn := fun _ => fun
  | [d1, d2] => { results := [.lit (.bool true)], args := [d1, d2] }
  | _ => none }
def fnExactMergeViewsRow : OpenClaim := { program := "ytejodgcojcombaa", sum := "c9c154b40d2d2a2ed04d2dfd478b29d09ab3b118aabfa2a268b58dbb0075e930", func := "loop.example/g00725/laws.FnExactMergeViews", spec := "fnExactMergeViews", inPlace := ["slices.overlaps[loop.example/g00725/impl.Claim]"], apart := false }
def FnExactMergeViewsSaid : Prop := fnExactMergeViewsRow.holds Try.pinned (OpenSpec.ofChange fnExactMergeViewsSpec)

/-- ITS FALSE NEIGHBOUR: 'it returns false'. Refute it at one input. -/
def fnExactMergeViewsWrong : ChangeSpec := { name := "fnExactMergeViews", fn := fun _ => fun
  | [d1, d2] => { results := [.lit (.bool false)], args := [d1, d2] }
  | _ => none }
def FnExactMergeViewsWrongFalsely : Prop := fnExactMergeViewsRow.holds Try.pinned (OpenSpec.ofChange fnExactMergeViewsWrong)

/-- 'laws.FnMerges': WHATEVER THE INPUT: true; the input reads as it did. -/
def fnMergesSpec : ChangeSpec := { name := "fnMerges", fn := fun _ => fun
  | [d] => { results := [.lit (.bool true)], args := [d] }
  | _ => none }
def fnMergesRow : OpenClaim := { program := "ytejodgcojcombaa", sum := "c9c154b40d2d2a2ed04d2dfd478b29d09ab3b118aabfa2a268b58dbb0075e930", func := "loop.example/g00725/laws.FnMerges", spec := "fnMerges", inPlace := ["slices.overlaps[loop.example/g00725/impl.Claim]"], apart := false }
def FnMergesSaid : Prop := fnMergesRow.holds Try.pinned (OpenSpec.ofChange fnMergesSpec)

/-- ITS FALSE NEIGHBOUR: 'it returns false'. Refute it at one input. -/
def fnMergesWrong : ChangeSpec := { name := "fnMerges", fn := fun _ => fun
  | [d] => { results := [.lit (.bool false)], args := [d] }
  | _ => none }
def FnMergesWrongFalsely : Prop := fnMergesRow.holds Try.pinned (OpenSpec.ofChange fnMergesWrong)

/- THE SECOND FORM. 'bulk': how many values and letters a reading holds, each counted each time it is reached (what is shared counts as often as it is met; a slice's spare places count too). A statement '..UptoSaid' is the law's where the arguments, and the package variables that the reading takes, are together of bulk at most 1048576: NARROWER than '..Said'. Prove '..Said' where nothing that the law and all that it calls make is longer than what came in: it says more and counts as full. Else prove '..UptoSaid'. A law counts once. -/
mutual
def uptoBulk {H : Type} : DataW H → Nat
  | .lit (.string bytes) => bytes.length + 1
  | .lit _ => 1
  | .nil => 1
  | .ptr d => uptoBulk d + 1
  | .slice elems spare => uptoBulkAll elems + uptoBulkAll spare + 1
  | .agg parts => uptoBulkAll parts + 1
  | .iface _ d => uptoBulk d + 1
  | .map entries => uptoBulkEntries entries + 1
  | .held _ => 1
def uptoBulkAll {H : Type} : List (DataW H) → Nat
  | [] => 0
  | d :: r => uptoBulk d + uptoBulkAll r
def uptoBulkEntries {H : Type} : List (Lit × DataW H) → Nat
  | [] => 0
  | x :: r => uptoBulkEntry x + uptoBulkEntries r
def uptoBulkEntry {H : Type} : Lit × DataW H → Nat
  | (.string bytes, d) => bytes.length + uptoBulk d + 1
  | (_, d) => uptoBulk d + 1
 end
def uptoSmall : (H : Type) → List (DataW H) → Bool := fun _ ds => decide (uptoBulkAll ds ≤ 1048576)
def OpenSpec.upto (s : _root_.Go.ChangeSpec) : _root_.Go.OpenSpec := { _root_.Go.OpenSpec.ofChange s with cond := some uptoSmall }

/-- 'laws.FnExactMergeClaim', WHERE WHAT IT READS IS OF BULK AT MOST 1048576: true; the input reads as it did. -/
def fnExactMergeClaimUptoRow : OpenClaim := { program := "ytejodgcojcombaa", sum := "c9c154b40d2d2a2ed04d2dfd478b29d09ab3b118aabfa2a268b58dbb0075e930", func := "loop.example/g00725/laws.FnExactMergeClaim", spec := "fnExactMergeClaim", inPlace := ["slices.overlaps[loop.example/g00725/impl.Claim]"], apart := false, narrowed := true }
def FnExactMergeClaimUptoSaid : Prop := fnExactMergeClaimUptoRow.holds Try.pinned (OpenSpec.upto fnExactMergeClaimSpec)

/-- 'laws.FnExactMergeViews', WHERE WHAT IT READS IS OF BULK AT MOST 1048576: true; the input reads as it did. -/
def fnExactMergeViewsUptoRow : OpenClaim := { program := "ytejodgcojcombaa", sum := "c9c154b40d2d2a2ed04d2dfd478b29d09ab3b118aabfa2a268b58dbb0075e930", func := "loop.example/g00725/laws.FnExactMergeViews", spec := "fnExactMergeViews", inPlace := ["slices.overlaps[loop.example/g00725/impl.Claim]"], apart := false, narrowed := true }
def FnExactMergeViewsUptoSaid : Prop := fnExactMergeViewsUptoRow.holds Try.pinned (OpenSpec.upto fnExactMergeViewsSpec)

/-- 'laws.FnMerges', WHERE WHAT IT READS IS OF BULK AT MOST 1048576: true; the input reads as it did. -/
def fnMergesUptoRow : OpenClaim := { program := "ytejodgcojcombaa", sum := "c9c154b40d2d2a2ed04d2dfd478b29d09ab3b118aabfa2a268b58dbb0075e930", func := "loop.example/g00725/laws.FnMerges", spec := "fnMerges", inPlace := ["slices.overlaps[loop.example/g00725/impl.Claim]"], apart := false, narrowed := true }
def FnMergesUptoSaid : Prop := fnMergesUptoRow.holds Try.pinned (OpenSpec.upto fnMergesSpec)

end Rows
end Go.Proofs.Ytejodgcojcombaa
