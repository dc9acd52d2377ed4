/-
  No cell of these rows narrows 'for every input' (looked for: loops, veiled, ifaces, maps, wideKeys, modest, calm, conditions, laid).
  DERIVED. THE GIVEN ROWS OF THIS SEAT. 5 by the template 'for every input the law returns true; each argument reads behind the call as it read before'; 0 by the template 'total and deterministic' (their statements: YtllkeaghjacalaaTotals.lean).
  GIVEN WITH THE SEED: the statements are not yours to turn. If you find one false, say at which input.
  Laid BY PROGRAM, IN A SANDBOX (cutbox-rows.mjs): the forced cells as the released guide's own fill.sh prints them over the translation 25ec064cebdc792c… (all of the seat's roots in one cut). By AI agents, Wed Nov 11 2026. No macro, syntax, notation, axiom, sorry.
-/
import Derived.Test.YtllkeaghjacalaaChecked
import GoSem.Claim
import GoSem.ClaimJoined
import GoSem.ClaimMapViews
import Derived.JoinedTies
import Derived.KernelRfl
namespace Go.Proofs.Ytllkeaghjacalaa
/- THE CELL 'sum', in the pinned program and in every row, IS THE sha256 OF THE DUMP (.gsa) THAT YtllkeaghjacalaaProg.lean LOADS. Nothing in Lean hashes anything: it is a label: what it is worth is what the hold of that sum in a sandbox is worth. -/
noncomputable def Try.pinned : Pinned := { name := "ytllkeaghjacalaa", sum := "25ec064cebdc792cecb47edb69a31da5bf2062f6455b243026723b2c1fd6727b", checked := Try.checked }
namespace Rows
def none {H : Type} : Left H := { results := [], args := [] }

/-- 'laws.FnExactEncodeName': WHATEVER THE INPUT: true; the input reads as it did. -/
def fnExactEncodeNameSpec : ChangeSpec := { name := "fnExactEncodeName", fn := fun _ => fun
  | [d] => { results := [.lit (.bool true)], args := [d] }
  | _ => none }
def fnExactEncodeNameRow : OpenClaim := { program := "ytllkeaghjacalaa", sum := "25ec064cebdc792cecb47edb69a31da5bf2062f6455b243026723b2c1fd6727b", func := "loop.example/g00725/laws.FnExactEncodeName", spec := "fnExactEncodeName", apart := false }
def FnExactEncodeNameSaid : Prop := fnExactEncodeNameRow.holds Try.pinned (OpenSpec.ofChange fnExactEncodeNameSpec)

/-- ITS FALSE NEIGHBOUR: 'it returns false'. Refute it at one input. -/
def fnExactEncodeNameWrong : ChangeSpec := { name := "fnExactEncodeName", fn := fun _ => fun
  | [d] => { results := [.lit (.bool false)], args := [d] }
  | _ => none }
def FnExactEncodeNameWrongFalsely : Prop := fnExactEncodeNameRow.holds Try.pinned (OpenSpec.ofChange fnExactEncodeNameWrong)

/-- 'laws.FnExactReadName': WHATEVER THE INPUT: true; the input reads as it did. -/
def fnExactReadNameSpec : ChangeSpec := { name := "fnExactReadName", fn := fun _ => fun
  | [d1, d2] => { results := [.lit (.bool true)], args := [d1, d2] }
  | _ => none }
def fnExactReadNameRow : OpenClaim := { program := "ytllkeaghjacalaa", sum := "25ec064cebdc792cecb47edb69a31da5bf2062f6455b243026723b2c1fd6727b", func := "loop.example/g00725/laws.FnExactReadName", spec := "fnExactReadName", apart := false }
def FnExactReadNameSaid : Prop := fnExactReadNameRow.holds Try.pinned (OpenSpec.ofChange fnExactReadNameSpec)

/-- ITS FALSE NEIGHBOUR: 'it returns false'. Refute it at one input. -/
def fnExactReadNameWrong : ChangeSpec := { name := "fnExactReadName", fn := fun _ => fun
  | [d1, d2] => { results := [.lit (.bool false)], args := [d1, d2] }
  | _ => none }
def FnExactReadNameWrongFalsely : Prop := fnExactReadNameRow.holds Try.pinned (OpenSpec.ofChange fnExactReadNameWrong)

/-- 'laws.FnNames': WHATEVER THE INPUT: true; the input reads as it did. -/
def fnNamesSpec : ChangeSpec := { name := "fnNames", fn := fun _ => fun
  | [d] => { results := [.lit (.bool true)], args := [d] }
  | _ => none }
def fnNamesRow : OpenClaim := { program := "ytllkeaghjacalaa", sum := "25ec064cebdc792cecb47edb69a31da5bf2062f6455b243026723b2c1fd6727b", func := "loop.example/g00725/laws.FnNames", spec := "fnNames", apart := false }
def FnNamesSaid : Prop := fnNamesRow.holds Try.pinned (OpenSpec.ofChange fnNamesSpec)

/-- ITS FALSE NEIGHBOUR: 'it returns false'. Refute it at one input. -/
def fnNamesWrong : ChangeSpec := { name := "fnNames", fn := fun _ => fun
  | [d] => { results := [.lit (.bool false)], args := [d] }
  | _ => none }
def FnNamesWrongFalsely : Prop := fnNamesRow.holds Try.pinned (OpenSpec.ofChange fnNamesWrong)

/-- 'laws.FnExactPackQuery': WHATEVER THE INPUT: true; the input reads as it did. -/
def fnExactPackQuerySpec : ChangeSpec := { name := "fnExactPackQuery", fn := fun _ => fun
  | [d] => { results := [.lit (.bool true)], args := [d] }
  | _ => none }
def fnExactPackQueryRow : OpenClaim := { program := "ytllkeaghjacalaa", sum := "25ec064cebdc792cecb47edb69a31da5bf2062f6455b243026723b2c1fd6727b", func := "loop.example/g00725/laws.FnExactPackQuery", spec := "fnExactPackQuery", apart := false }
def FnExactPackQuerySaid : Prop := fnExactPackQueryRow.holds Try.pinned (OpenSpec.ofChange fnExactPackQuerySpec)

/-- ITS FALSE NEIGHBOUR: 'it returns false'. Refute it at one input. -/
def fnExactPackQueryWrong : ChangeSpec := { name := "fnExactPackQuery", fn := fun _ => fun
  | [d] => { results := [.lit (.bool false)], args := [d] }
  | _ => none }
def FnExactPackQueryWrongFalsely : Prop := fnExactPackQueryRow.holds Try.pinned (OpenSpec.ofChange fnExactPackQueryWrong)

/-- 'laws.FnExactReadQuery': WHATEVER THE INPUT: true; the input reads as it did. -/
def fnExactReadQuerySpec : ChangeSpec := { name := "fnExactReadQuery", fn := fun _ => fun
  | [d] => { results := [.lit (.bool true)], args := [d] }
  | _ => none }
def fnExactReadQueryRow : OpenClaim := { program := "ytllkeaghjacalaa", sum := "25ec064cebdc792cecb47edb69a31da5bf2062f6455b243026723b2c1fd6727b", func := "loop.example/g00725/laws.FnExactReadQuery", spec := "fnExactReadQuery", apart := false }
def FnExactReadQuerySaid : Prop := fnExactReadQueryRow.holds Try.pinned (OpenSpec.ofChange fnExactReadQuerySpec)

/-- ITS FALSE NEIGHBOUR: 'it returns false'. Refute it at one input. -/
def fnExactReadQueryWrong : ChangeSpec := { name := "fnExactReadQuery", fn := fun _ => fun
  | [d] => { results := [.lit (.bool false)], args := [d] }
  | _ => none }
def FnExactReadQueryWrongFalsely : Prop := fnExactReadQueryRow.holds Try.pinned (OpenSpec.ofChange fnExactReadQueryWrong)

/- THE SECOND FORM. 'bulk': how many values and letters a reading holds, each counted each time it is reached (what is shared counts as often as it is met; a slice's spare places count too). A statement '..UptoSaid' is the law's where the arguments, and the package variables that the reading takes, are together of bulk at most 1048576: NARROWER than '..Said'. Prove '..Said' where nothing that the law and all that it calls make is longer than what came in: it says more and counts as full. Else prove '..UptoSaid'. A law counts once. -/
mutual
def uptoBulk {H : Type} : DataW H → Nat
  | .lit (.string bytes) => bytes.length + 1
  | .lit _ => 1
  | .nil => 1
  | .ptr d => uptoBulk d + 1
  | .slice elems spare => uptoBulkAll elems + uptoBulkAll spare + 1
  | .agg parts => uptoBulkAll parts + 1
  | .iface _ d => uptoBulk d + 1
  | .map entries => uptoBulkEntries entries + 1
  | .held _ => 1
def uptoBulkAll {H : Type} : List (DataW H) → Nat
  | [] => 0
  | d :: r => uptoBulk d + uptoBulkAll r
def uptoBulkEntries {H : Type} : List (Lit × DataW H) → Nat
  | [] => 0
  | x :: r => uptoBulkEntry x + uptoBulkEntries r
def uptoBulkEntry {H : Type} : Lit × DataW H → Nat
  | (.string bytes, d) => bytes.length + uptoBulk d + 1
  | (_, d) => uptoBulk d + 1
 end
def uptoSmall : (H : Type) → List (DataW H) → Bool := fun _ ds => decide (uptoBulkAll ds ≤ 1048576)
def OpenSpec.upto (s : _root_.Go.ChangeSpec) : _root_.Go.OpenSpec := { _root_.Go.OpenSpec.ofChange s with cond := some uptoSmall }

/-- 'laws.FnExactEncodeName', WHERE WHAT IT READS IS OF BULK AT MOST 1048576: true; the input reads as it did. -/
def fnExactEncodeNameUptoRow : OpenClaim := { program := "ytllkeaghjacalaa", sum := "25ec064cebdc792cecb47edb69a31da5bf2062f6455b243026723b2c1fd6727b", func := "loop.example/g00725/laws.FnExactEncodeName", spec := "fnExactEncodeName", apart := false, narrowed := true }
def FnExactEncodeNameUptoSaid : Prop := fnExactEncodeNameUptoRow.holds Try.pinned (OpenSpec.upto fnExactEncodeNameSpec)

/-- 'laws.FnExactReadName', WHERE WHAT IT READS IS OF BULK AT MOST 1048576: true; the input reads as it did. -/
def fnExactReadNameUptoRow : OpenClaim := { program := "ytllkeaghjacalaa", sum := "25ec064cebdc792cecb47edb69a31da5bf2062f6455b243026723b2c1fd6727b", func := "loop.example/g00725/laws.FnExactReadName", spec := "fnExactReadName", apart := false, narrowed := true }
def FnExactReadNameUptoSaid : Prop := fnExactReadNameUptoRow.holds Try.pinned (OpenSpec.upto fnExactReadNameSpec)

/-- 'laws.FnNames', WHERE WHAT IT READS IS OF BULK AT MOST 1048576: true; the input reads as it did. -/
def fnNamesUptoRow : OpenClaim := { program := "ytllkeaghjacalaa", sum := "25ec064cebdc792cecb47edb69a31da5bf2062f6455b243026723b2c1fd6727b", func := "loop.example/g00725/laws.FnNames", spec := "fnNames", apart := false, narrowed := true }
def FnNamesUptoSaid : Prop := fnNamesUptoRow.holds Try.pinned (OpenSpec.upto fnNamesSpec)

/-- 'laws.FnExactPackQuery', WHERE WHAT IT READS IS OF BULK AT MOST 1048576: true; the input reads as it did. -/
def fnExactPackQueryUptoRow : OpenClaim := { program := "ytllkeaghjacalaa", sum := "25ec064cebdc792cecb47edb69a31da5bf2062f6455b243026723b2c1fd6727b", func := "loop.example/g00725/laws.FnExactPackQuery", spec := "fnExactPackQuery", apart := false, narrowed := true }
def FnExactPackQueryUptoSaid : Prop := fnExactPackQueryUptoRow.holds Try.pinned (OpenSpec.upto fnExactPackQuerySpec)

/-- 'laws.FnExactReadQuery', WHERE WHAT IT READS IS OF BULK AT MOST 1048576: true; the input reads as it did. -/
def fnExactReadQueryUptoRow : OpenClaim := { program := "ytllkeaghjacalaa", sum := "25ec064cebdc792cecb47edb69a31da5bf2062f6455b243026723b2c1fd6727b", func := "loop.example/g00725/laws.FnExactReadQuery", spec := "fnExactReadQuery", apart := false, narrowed := true }
def FnExactReadQueryUptoSaid : Prop := fnExactReadQueryUptoRow.holds Try.pinned (OpenSpec.upto fnExactReadQuerySpec)

end Rows
end Go.Proofs.Ytllkeaghjacalaa
