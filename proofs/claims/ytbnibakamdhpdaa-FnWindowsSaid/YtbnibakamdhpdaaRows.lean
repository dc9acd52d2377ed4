/-
  No cell of these rows narrows 'for every input' (looked for: loops, veiled, ifaces, maps, wideKeys, modest, calm, conditions, laid).
  DERIVED. THE GIVEN ROWS OF THIS SEAT. 4 by the template 'for every input the law returns true; each argument reads behind the call as it read before'; 0 by the template 'total and deterministic' (their statements: YtbnibakamdhpdaaTotals.lean).
  GIVEN WITH THE SEED: the statements are not yours to turn. If you find one false, say at which input.
  Laid BY PROGRAM, IN A SANDBOX (cutbox-rows.mjs): the forced cells as the released guide's own fill.sh prints them over the translation ab684f9d0fb5b366… (all of the seat's roots in one cut). By AI agents, Wed Nov 11 2026. No macro, syntax, notation, axiom, sorry.
-/
import Derived.Test.YtbnibakamdhpdaaChecked
import GoSem.Claim
import GoSem.ClaimJoined
import GoSem.ClaimMapViews
import Derived.JoinedTies
import Derived.KernelRfl
namespace Go.Proofs.Ytbnibakamdhpdaa
/- THE CELL 'sum', in the pinned program and in every row, IS THE sha256 OF THE DUMP (.gsa) THAT YtbnibakamdhpdaaProg.lean LOADS. Nothing in Lean hashes anything: it is a label: what it is worth is what the hold of that sum in a sandbox is worth. -/
noncomputable def Try.pinned : Pinned := { name := "ytbnibakamdhpdaa", sum := "ab684f9d0fb5b366f8db3ab32c847d3c3d0e094317c85ab3c23fedf1265bcec6", checked := Try.checked }
namespace Rows
def none {H : Type} : Left H := { results := [], args := [] }

/-- 'laws.FnWindows': WHATEVER THE INPUT: true; the input reads as it did. -/
def fnWindowsSpec : ChangeSpec := { name := "fnWindows", fn := fun _ => fun
  | [d] => { results := [.lit (.bool true)], args := [d] }
  | _ => none }
def fnWindowsRow : OpenClaim := { program := "ytbnibakamdhpdaa", sum := "ab684f9d0fb5b366f8db3ab32c847d3c3d0e094317c85ab3c23fedf1265bcec6", func := "loop.example/g00725/laws.FnWindows", spec := "fnWindows", unfollowed := true, recurses := true, apart := false }
def FnWindowsSaid : Prop := fnWindowsRow.holds Try.pinned (OpenSpec.ofChange fnWindowsSpec)

/-- ITS FALSE NEIGHBOUR: 'it returns false'. Refute it at one input. -/
def fnWindowsWrong : ChangeSpec := { name := "fnWindows", fn := fun _ => fun
  | [d] => { results := [.lit (.bool false)], args := [d] }
  | _ => none }
def FnWindowsWrongFalsely : Prop := fnWindowsRow.holds Try.pinned (OpenSpec.ofChange fnWindowsWrong)

/-- 'laws.FnExactIsNews': WHATEVER THE INPUT: true; the input reads as it did. -/
def fnExactIsNewsSpec : ChangeSpec := { name := "fnExactIsNews", fn := fun _ => fun
  | [d1, d2] => { results := [.lit (.bool true)], args := [d1, d2] }
  | _ => none }
def fnExactIsNewsRow : OpenClaim := { program := "ytbnibakamdhpdaa", sum := "ab684f9d0fb5b366f8db3ab32c847d3c3d0e094317c85ab3c23fedf1265bcec6", func := "loop.example/g00725/laws.FnExactIsNews", spec := "fnExactIsNews", unfollowed := true, recurses := true, apart := false }
def FnExactIsNewsSaid : Prop := fnExactIsNewsRow.holds Try.pinned (OpenSpec.ofChange fnExactIsNewsSpec)

/-- ITS FALSE NEIGHBOUR: 'it returns false'. Refute it at one input. -/
def fnExactIsNewsWrong : ChangeSpec := { name := "fnExactIsNews", fn := fun _ => fun
  | [d1, d2] => { results := [.lit (.bool false)], args := [d1, d2] }
  | _ => none }
def FnExactIsNewsWrongFalsely : Prop := fnExactIsNewsRow.holds Try.pinned (OpenSpec.ofChange fnExactIsNewsWrong)

/-- 'laws.FnExactTakeCounter': WHATEVER THE INPUT: true; the input reads as it did. -/
def fnExactTakeCounterSpec : ChangeSpec := { name := "fnExactTakeCounter", fn := fun _ => fun
  | [d1, d2] => { results := [.lit (.bool true)], args := [d1, d2] }
  | _ => none }
def fnExactTakeCounterRow : OpenClaim := { program := "ytbnibakamdhpdaa", sum := "ab684f9d0fb5b366f8db3ab32c847d3c3d0e094317c85ab3c23fedf1265bcec6", func := "loop.example/g00725/laws.FnExactTakeCounter", spec := "fnExactTakeCounter", unfollowed := true, recurses := true, apart := false }
def FnExactTakeCounterSaid : Prop := fnExactTakeCounterRow.holds Try.pinned (OpenSpec.ofChange fnExactTakeCounterSpec)

/-- ITS FALSE NEIGHBOUR: 'it returns false'. Refute it at one input. -/
def fnExactTakeCounterWrong : ChangeSpec := { name := "fnExactTakeCounter", fn := fun _ => fun
  | [d1, d2] => { results := [.lit (.bool false)], args := [d1, d2] }
  | _ => none }
def FnExactTakeCounterWrongFalsely : Prop := fnExactTakeCounterRow.holds Try.pinned (OpenSpec.ofChange fnExactTakeCounterWrong)

/-- 'laws.FnExactTakeAll': WHATEVER THE INPUT: true; the input reads as it did. -/
def fnExactTakeAllSpec : ChangeSpec := { name := "fnExactTakeAll", fn := fun _ => fun
  | [d1, d2] => { results := [.lit (.bool true)], args := [d1, d2] }
  | _ => none }
def fnExactTakeAllRow : OpenClaim := { program := "ytbnibakamdhpdaa", sum := "ab684f9d0fb5b366f8db3ab32c847d3c3d0e094317c85ab3c23fedf1265bcec6", func := "loop.example/g00725/laws.FnExactTakeAll", spec := "fnExactTakeAll", unfollowed := true, recurses := true, apart := false }
def FnExactTakeAllSaid : Prop := fnExactTakeAllRow.holds Try.pinned (OpenSpec.ofChange fnExactTakeAllSpec)

/-- ITS FALSE NEIGHBOUR: 'it returns false'. Refute it at one input. -/
def fnExactTakeAllWrong : ChangeSpec := { name := "fnExactTakeAll", fn := fun _ => fun
  | [d1, d2] => { results := [.lit (.bool false)], args := [d1, d2] }
  | _ => none }
def FnExactTakeAllWrongFalsely : Prop := fnExactTakeAllRow.holds Try.pinned (OpenSpec.ofChange fnExactTakeAllWrong)

/- THE SECOND FORM. 'bulk': how many values and letters a reading holds, each counted each time it is reached (what is shared counts as often as it is met; a slice's spare places count too). A statement '..UptoSaid' is the law's where the arguments, and the package variables that the reading takes, are together of bulk at most 1048576: NARROWER than '..Said'. Prove '..Said' where nothing that the law and all that it calls make is longer than what came in: it says more and counts as full. Else prove '..UptoSaid'. A law counts once. -/
mutual
def uptoBulk {H : Type} : DataW H → Nat
  | .lit (.string bytes) => bytes.length + 1
  | .lit _ => 1
  | .nil => 1
  | .ptr d => uptoBulk d + 1
  | .slice elems spare => uptoBulkAll elems + uptoBulkAll spare + 1
  | .agg parts => uptoBulkAll parts + 1
  | .iface _ d => uptoBulk d + 1
  | .map entries => uptoBulkEntries entries + 1
  | .held _ => 1
def uptoBulkAll {H : Type} : List (DataW H) → Nat
  | [] => 0
  | d :: r => uptoBulk d + uptoBulkAll r
def uptoBulkEntries {H : Type} : List (Lit × DataW H) → Nat
  | [] => 0
  | x :: r => uptoBulkEntry x + uptoBulkEntries r
def uptoBulkEntry {H : Type} : Lit × DataW H → Nat
  | (.string bytes, d) => bytes.length + uptoBulk d + 1
  | (_, d) => uptoBulk d + 1
 end
def uptoSmall : (H : Type) → List (DataW H) → Bool := fun _ ds => decide (uptoBulkAll ds ≤ 1048576)
def OpenSpec.upto (s : _root_.Go.ChangeSpec) : _root_.Go.OpenSpec := { _root_.Go.OpenSpec.ofChange s with cond := some uptoSmall }

/-- 'laws.FnWindows', WHERE WHAT IT READS IS OF BULK AT MOST 1048576: true; the input reads as it did. -/
def fnWindowsUptoRow : OpenClaim := { program := "ytbnibakamdhpdaa", sum := "ab684f9d0fb5b366f8db3ab32c847d3c3d0e094317c85ab3c23fedf1265bcec6", func := "loop.example/g00725/laws.FnWindows", spec := "fnWindows", unfollowed := true, recurses := true, apart := false, narrowed := true }
def FnWindowsUptoSaid : Prop := fnWindowsUptoRow.holds Try.pinned (OpenSpec.upto fnWindowsSpec)

/-- 'laws.FnExactIsNews', WHERE WHAT IT READS IS OF BULK AT MOST 1048576: true; the input reads as it did. -/
def fnExactIsNewsUptoRow : OpenClaim := { program := "ytbnibakamdhpdaa", sum := "ab684f9d0fb5b366f8db3ab32c847d3c3d0e094317c85ab3c23fedf1265bcec6", func := "loop.example/g00725/laws.FnExactIsNews", spec := "fnExactIsNews", unfollowed := true, recurses := true, apart := false, narrowed := true }
def FnExactIsNewsUptoSaid : Prop := fnExactIsNewsUptoRow.holds Try.pinned (OpenSpec.upto fnExactIsNewsSpec)

/-- 'laws.FnExactTakeCounter', WHERE WHAT IT READS IS OF BULK AT MOST 1048576: true; the input reads as it did. -/
def fnExactTakeCounterUptoRow : OpenClaim := { program := "ytbnibakamdhpdaa", sum := "ab684f9d0fb5b366f8db3ab32c847d3c3d0e094317c85ab3c23fedf1265bcec6", func := "loop.example/g00725/laws.FnExactTakeCounter", spec := "fnExactTakeCounter", unfollowed := true, recurses := true, apart := false, narrowed := true }
def FnExactTakeCounterUptoSaid : Prop := fnExactTakeCounterUptoRow.holds Try.pinned (OpenSpec.upto fnExactTakeCounterSpec)

/-- 'laws.FnExactTakeAll', WHERE WHAT IT READS IS OF BULK AT MOST 1048576: true; the input reads as it did. -/
def fnExactTakeAllUptoRow : OpenClaim := { program := "ytbnibakamdhpdaa", sum := "ab684f9d0fb5b366f8db3ab32c847d3c3d0e094317c85ab3c23fedf1265bcec6", func := "loop.example/g00725/laws.FnExactTakeAll", spec := "fnExactTakeAll", unfollowed := true, recurses := true, apart := false, narrowed := true }
def FnExactTakeAllUptoSaid : Prop := fnExactTakeAllUptoRow.holds Try.pinned (OpenSpec.upto fnExactTakeAllSpec)

end Rows
end Go.Proofs.Ytbnibakamdhpdaa
