/- Plain Lean functions with the answers of Go functions, and proofs that the Go code comes to them. Written by a program of this session's that runs the kit's print.py with contracts proved by hand handed to it; not trusted: Lean checks it. No condition. -/
import Derived.Test.YtdbcgjclnfhdfaaProg
import Derived.Below
import Derived.Deep.Draws
import Derived.Deep.AppendLies
import Derived.Maps.AppendAt
import Derived.OwnWalk
import Derived.Laws.BytesArg
import Derived.Laws.MakeOwn
import Derived.Laws.OwnMore
import Derived.Deep.OwnRows
import Derived.Tactics
import Derived.Lib.ConvBytes
import Derived.Laws.Slices
import Derived.WalkKit
import Derived.KernelRfl
import Derived.RowKit3
import Derived.Deep.LoopGhost
import Derived.Deep.QuietTactic
import Derived.BigQuiet
import Derived.WideLaws
import Derived.Deep.DeepCutAuto
import Derived.Deep.CutBlock
import Derived.Deep.RegionHeld3
import Derived.Laws.Rows
import Derived.Lib.AppendStr
import Derived.ArgAppend
import Derived.Laws.IdiomCopy
import Derived.OrdersHeld
import Derived.Laws.BitsLemmas
import Derived.RowKit
import Derived.Test.YtdbcgjclnfhdfaaWWords
import Derived.Test.YtdbcgjclnfhdfaaWLast
import Derived.Test.YtdbcgjclnfhdfaaWTab
import Derived.Test.YtdbcgjclnfhdfaaWFour
import Derived.Test.YtdbcgjclnfhdfaaWQPut
import Derived.Test.YtdbcgjclnfhdfaaWApart
import Derived.Test.YtdbcgjclnfhdfaaWArr
import Derived.Test.YtdbcgjclnfhdfaaWZeros
import Derived.Test.YtdbcgjclnfhdfaaWFoot
import Derived.Test.YtdbcgjclnfhdfaaWKept
import Derived.Test.YtdbcgjclnfhdfaaWShare
import Derived.Test.YtdbcgjclnfhdfaaWN
import Derived.Test.YtdbcgjclnfhdfaaWFootNe
import Derived.Test.YtdbcgjclnfhdfaaWAt
import Derived.Test.YtdbcgjclnfhdfaaWEqStruct
import Derived.Test.YtdbcgjclnfhdfaaWRepsOne
import Derived.Test.YtdbcgjclnfhdfaaWInv
import Derived.Test.YtdbcgjclnfhdfaaWInvWords
import Derived.Test.YtdbcgjclnfhdfaaWGuard
import Derived.Test.YtdbcgjclnfhdfaaWNEv
import Derived.Test.YtdbcgjclnfhdfaaWMore
namespace Go.Proofs.Ytdbcgjclnfhdfaa.PKec
open Go.RowKit  Go.Proofs.YtdbcgjclnfhdfaaW.PrintWords Go.Proofs.YtdbcgjclnfhdfaaW.PrintLast Go.Proofs.YtdbcgjclnfhdfaaW.PrintMore
attribute [local go_sem] max2_int min2_int max_two min_two max_three min_three max_four min_four   -- for this text's walks alone
set_option linter.unusedVariables false
set_option linter.unusedSimpArgs false



def errW : Option Int → Value
  | none => .nilIface
  | some c => .iface 0 (.int .i64 c)
theorem errW_none : errW none = .nilIface := rfl
theorem errW_some (c : Int) : errW (some c) = .iface 0 (.int .i64 c) := rfl

theorem info4 : (Try.prog.info? 4).map (fun i => (i.zero, i.size, i.bytes)) = some (some (.bool false), 1, 1) := by kernel_rfl
-- the values' own types

end Go.Proofs.Ytdbcgjclnfhdfaa.PKec
