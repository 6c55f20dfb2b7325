-- Written by px.py, a program of this session's, for this claim.
import Derived.Test.YtpeokcbjbjjmpaaProg
import Derived.Below
import Derived.Deep.Draws
import Derived.Deep.AppendLies
import Derived.Maps.AppendAt
import Derived.OwnWalk
import Derived.Laws.BytesArg
import Derived.Laws.MakeOwn
import Derived.Laws.OwnMore
import Derived.Deep.OwnRows
import Derived.Tactics
import Derived.Lib.ConvBytes
import Derived.Laws.Slices
import Derived.WalkKit
import Derived.KernelRfl
import Derived.RowKit3
import Derived.Deep.LoopGhost
import Derived.Deep.QuietTactic
import Derived.BigQuiet
import Derived.WideLaws
import Derived.Deep.DeepCutAuto
import Derived.Deep.CutBlock
import Derived.Deep.RegionHeld3
import Derived.Laws.Rows
import Derived.Lib.AppendStr
import Derived.ArgAppend
import Derived.Laws.IdiomCopy
import Derived.OrdersHeld
import Derived.Laws.BitsLemmas
import Derived.RowKit
import Derived.Test.YtpeokcbjbjjmpaaWWords
import Derived.Test.YtpeokcbjbjjmpaaWLast
import Derived.Test.YtpeokcbjbjjmpaaWTab
import Derived.Test.YtpeokcbjbjjmpaaWFour
import Derived.Test.YtpeokcbjbjjmpaaWQPut
import Derived.Test.YtpeokcbjbjjmpaaWApart
import Derived.Test.YtpeokcbjbjjmpaaWArr
import Derived.Test.YtpeokcbjbjjmpaaWZeros
import Derived.Test.YtpeokcbjbjjmpaaWFoot
import Derived.Test.YtpeokcbjbjjmpaaWKept
import Derived.Test.YtpeokcbjbjjmpaaWShare
import Derived.Test.YtpeokcbjbjjmpaaWN
import Derived.Test.YtpeokcbjbjjmpaaWFootNe
import Derived.Test.YtpeokcbjbjjmpaaWAt
import Derived.Test.YtpeokcbjbjjmpaaWEqStruct
import Derived.Test.YtpeokcbjbjjmpaaWRepsOne
import Derived.Test.YtpeokcbjbjjmpaaWInv
import Derived.Test.YtpeokcbjbjjmpaaWInvWords
import Derived.Test.YtpeokcbjbjjmpaaWGuard
import Derived.Test.YtpeokcbjbjjmpaaWNEv
import Derived.Test.YtpeokcbjbjjmpaaWMore
namespace Go.Proofs.Ytpeokcbjbjjmpaa.XFnExactCurvePoints
open Go.RowKit Go.Proofs.YtpeokcbjbjjmpaaW.PrintWords Go.Proofs.YtpeokcbjbjjmpaaW.PrintLast Go.Proofs.YtpeokcbjbjjmpaaW.PrintMore
attribute [local go_sem] max2_int min2_int max_two min_two max_three min_three max_four min_four   -- for this text's walks alone
set_option linter.unusedVariables false
set_option linter.unusedSimpArgs false



def errW : Option Int → Value
  | none => .nilIface
  | some c => .iface 0 (.int .i64 c)
theorem errW_none : errW none = .nilIface := rfl
theorem errW_some (c : Int) : errW (some c) = .iface 0 (.int .i64 c) := rfl

theorem info2 : (Try.prog.info? 2).map (fun i => (i.zero, i.size, i.bytes)) = some (some (.int .i64 0), 1, 8) := by kernel_rfl
-- the values' own types

end Go.Proofs.Ytpeokcbjbjjmpaa.XFnExactCurvePoints
