-- Written by px.py, a program of this session's, for this claim.
import Derived.Test.YtgpjamonbhijaaaProg
import Derived.Below
import Derived.Deep.Draws
import Derived.Deep.AppendLies
import Derived.Maps.AppendAt
import Derived.OwnWalk
import Derived.Laws.BytesArg
import Derived.Laws.MakeOwn
import Derived.Laws.OwnMore
import Derived.Deep.OwnRows
import Derived.Tactics
import Derived.Lib.ConvBytes
import Derived.Laws.Slices
import Derived.WalkKit
import Derived.KernelRfl
import Derived.RowKit3
import Derived.Deep.LoopGhost
import Derived.Deep.QuietTactic
import Derived.BigQuiet
import Derived.WideLaws
import Derived.Deep.DeepCutAuto
import Derived.Deep.CutBlock
import Derived.Deep.RegionHeld3
import Derived.Laws.Rows
import Derived.Lib.AppendStr
import Derived.ArgAppend
import Derived.Laws.IdiomCopy
import Derived.OrdersHeld
import Derived.Laws.BitsLemmas
import Derived.RowKit
import Derived.Test.YtgpjamonbhijaaaWWords
import Derived.Test.YtgpjamonbhijaaaWLast
import Derived.Test.YtgpjamonbhijaaaWTab
import Derived.Test.YtgpjamonbhijaaaWFour
import Derived.Test.YtgpjamonbhijaaaWQPut
import Derived.Test.YtgpjamonbhijaaaWApart
import Derived.Test.YtgpjamonbhijaaaWArr
import Derived.Test.YtgpjamonbhijaaaWZeros
import Derived.Test.YtgpjamonbhijaaaWFoot
import Derived.Test.YtgpjamonbhijaaaWKept
import Derived.Test.YtgpjamonbhijaaaWShare
import Derived.Test.YtgpjamonbhijaaaWN
import Derived.Test.YtgpjamonbhijaaaWFootNe
import Derived.Test.YtgpjamonbhijaaaWAt
import Derived.Test.YtgpjamonbhijaaaWEqStruct
import Derived.Test.YtgpjamonbhijaaaWRepsOne
import Derived.Test.YtgpjamonbhijaaaWInv
import Derived.Test.YtgpjamonbhijaaaWInvWords
import Derived.Test.YtgpjamonbhijaaaWGuard
import Derived.Test.YtgpjamonbhijaaaWNEv
import Derived.Test.YtgpjamonbhijaaaWMore
namespace Go.Proofs.Ytgpjamonbhijaaa.XFnExactIsCharacter
open Go.RowKit Go.Proofs.YtgpjamonbhijaaaW.PrintWords Go.Proofs.YtgpjamonbhijaaaW.PrintLast Go.Proofs.YtgpjamonbhijaaaW.PrintMore
attribute [local go_sem] max2_int min2_int max_two min_two max_three min_three max_four min_four   -- for this text's walks alone
set_option linter.unusedVariables false
set_option linter.unusedSimpArgs false



def errW : Option Int → Value
  | none => .nilIface
  | some c => .iface 0 (.int .i64 c)
theorem errW_none : errW none = .nilIface := rfl
theorem errW_some (c : Int) : errW (some c) = .iface 0 (.int .i64 c) := rfl

-- the values' own types

end Go.Proofs.Ytgpjamonbhijaaa.XFnExactIsCharacter
