-- Laid by a program of this session (the kit's print, turned where it falls short; the texts of functions that it does not take are proved by hand).
import Derived.Test.YtldhhghppgkeaaaProg
import Derived.Below
import Derived.Deep.Draws
import Derived.Deep.AppendLies
import Derived.Maps.AppendAt
import Derived.OwnWalk
import Derived.Laws.BytesArg
import Derived.Laws.MakeOwn
import Derived.Laws.OwnMore
import Derived.Deep.OwnRows
import Derived.Tactics
import Derived.Lib.ConvBytes
import Derived.Laws.Slices
import Derived.WalkKit
import Derived.KernelRfl
import Derived.RowKit3
import Derived.Deep.LoopGhost
import Derived.Deep.QuietTactic
import Derived.BigQuiet
import Derived.WideLaws
import Derived.Deep.DeepCutAuto
import Derived.Deep.CutBlock
import Derived.Deep.RegionHeld3
import Derived.Laws.Rows
import Derived.Lib.AppendStr
import Derived.ArgAppend
import Derived.Laws.IdiomCopy
import Derived.OrdersHeld
import Derived.Laws.BitsLemmas
import Derived.RowKit
import Derived.Test.YtldhhghppgkeaaaWWords
import Derived.Test.YtldhhghppgkeaaaWLast
import Derived.Test.YtldhhghppgkeaaaWTab
import Derived.Test.YtldhhghppgkeaaaWFour
import Derived.Test.YtldhhghppgkeaaaWQPut
import Derived.Test.YtldhhghppgkeaaaWApart
import Derived.Test.YtldhhghppgkeaaaWArr
import Derived.Test.YtldhhghppgkeaaaWZeros
import Derived.Test.YtldhhghppgkeaaaWFoot
import Derived.Test.YtldhhghppgkeaaaWKept
import Derived.Test.YtldhhghppgkeaaaWShare
import Derived.Test.YtldhhghppgkeaaaWN
import Derived.Test.YtldhhghppgkeaaaWFootNe
import Derived.Test.YtldhhghppgkeaaaWAt
import Derived.Test.YtldhhghppgkeaaaWEqStruct
import Derived.Test.YtldhhghppgkeaaaWRepsOne
import Derived.Test.YtldhhghppgkeaaaWInv
import Derived.Test.YtldhhghppgkeaaaWInvWords
import Derived.Test.YtldhhghppgkeaaaWGuard
import Derived.Test.YtldhhghppgkeaaaWNEv
import Derived.Test.YtldhhghppgkeaaaWMore
namespace Go.Proofs.Ytldhhghppgkeaaa.MFnExactRefuteBy
open Go.RowKit Go.Proofs.YtldhhghppgkeaaaW.PrintWords Go.Proofs.YtldhhghppgkeaaaW.PrintLast Go.Proofs.YtldhhghppgkeaaaW.PrintMore
attribute [local go_sem] max2_int min2_int max_two min_two max_three min_three max_four min_four   -- for this text's walks alone
set_option linter.unusedVariables false
set_option linter.unusedSimpArgs false



def errW : Option Int → Value
  | none => .nilIface
  | some c => .iface 0 (.int .i64 c)
theorem errW_none : errW none = .nilIface := rfl
theorem errW_some (c : Int) : errW (some c) = .iface 0 (.int .i64 c) := rfl

-- the values' own types

end Go.Proofs.Ytldhhghppgkeaaa.MFnExactRefuteBy
