/- Plain Lean functions with the answers of Go functions, and proofs that the Go code comes to them. Written by a program of this session's that runs the kit's print.py with contracts proved by hand handed to it; not trusted: Lean checks it. No condition. -/
import Derived.Test.YtphdlidaigalkaaProg
import Derived.Below
import Derived.Deep.Draws
import Derived.Deep.AppendLies
import Derived.Maps.AppendAt
import Derived.OwnWalk
import Derived.Laws.BytesArg
import Derived.Laws.MakeOwn
import Derived.Laws.OwnMore
import Derived.Deep.OwnRows
import Derived.Tactics
import Derived.Lib.ConvBytes
import Derived.Laws.Slices
import Derived.WalkKit
import Derived.KernelRfl
import Derived.RowKit3
import Derived.Deep.LoopGhost
import Derived.Deep.QuietTactic
import Derived.BigQuiet
import Derived.WideLaws
import Derived.Deep.DeepCutAuto
import Derived.Deep.CutBlock
import Derived.Deep.RegionHeld3
import Derived.Laws.Rows
import Derived.Lib.AppendStr
import Derived.ArgAppend
import Derived.Laws.IdiomCopy
import Derived.OrdersHeld
import Derived.Laws.BitsLemmas
import Derived.RowKit
import Derived.Test.YtphdlidaigalkaaNibSq
import Derived.Test.YtphdlidaigalkaaWWords
import Derived.Test.YtphdlidaigalkaaWLast
import Derived.Test.YtphdlidaigalkaaWTab
import Derived.Test.YtphdlidaigalkaaWFour
import Derived.Test.YtphdlidaigalkaaWQPut
import Derived.Test.YtphdlidaigalkaaWApart
import Derived.Test.YtphdlidaigalkaaWArr
import Derived.Test.YtphdlidaigalkaaWZeros
import Derived.Test.YtphdlidaigalkaaWFoot
import Derived.Test.YtphdlidaigalkaaWKept
import Derived.Test.YtphdlidaigalkaaWShare
import Derived.Test.YtphdlidaigalkaaWN
import Derived.Test.YtphdlidaigalkaaWFootNe
import Derived.Test.YtphdlidaigalkaaWAt
import Derived.Test.YtphdlidaigalkaaWEqStruct
import Derived.Test.YtphdlidaigalkaaWRepsOne
import Derived.Test.YtphdlidaigalkaaWInv
import Derived.Test.YtphdlidaigalkaaWInvWords
import Derived.Test.YtphdlidaigalkaaWGuard
import Derived.Test.YtphdlidaigalkaaWNEv
import Derived.Test.YtphdlidaigalkaaWMore
namespace Go.Proofs.Ytphdlidaigalkaa.PNib
open Go.RowKit Go.Proofs.Ytphdlidaigalkaa.NibSq Go.Proofs.YtphdlidaigalkaaW.PrintWords Go.Proofs.YtphdlidaigalkaaW.PrintLast Go.Proofs.YtphdlidaigalkaaW.PrintMore
attribute [local go_sem] max2_int min2_int max_two min_two max_three min_three max_four min_four   -- for this text's walks alone
set_option linter.unusedVariables false
set_option linter.unusedSimpArgs false



def errW : Option Int → Value
  | none => .nilIface
  | some c => .iface 0 (.int .i64 c)
theorem errW_none : errW none = .nilIface := rfl
theorem errW_some (c : Int) : errW (some c) = .iface 0 (.int .i64 c) := rfl

-- the values' own types

end Go.Proofs.Ytphdlidaigalkaa.PNib
