/- Plain Lean functions with the answers of Go functions, and proofs that the Go code comes to them. Written by a program of this session's that runs the kit's print.py with contracts proved by hand handed to it; not trusted: Lean checks it. No condition. -/
import Derived.Test.YtpdikfmdnlhllaaProg
import Derived.Below
import Derived.Deep.Draws
import Derived.Deep.AppendLies
import Derived.Maps.AppendAt
import Derived.OwnWalk
import Derived.Laws.BytesArg
import Derived.Laws.MakeOwn
import Derived.Laws.OwnMore
import Derived.Deep.OwnRows
import Derived.Tactics
import Derived.Lib.ConvBytes
import Derived.Laws.Slices
import Derived.WalkKit
import Derived.KernelRfl
import Derived.RowKit3
import Derived.Deep.LoopGhost
import Derived.Deep.QuietTactic
import Derived.BigQuiet
import Derived.WideLaws
import Derived.Deep.DeepCutAuto
import Derived.Deep.CutBlock
import Derived.Deep.RegionHeld3
import Derived.Laws.Rows
import Derived.Lib.AppendStr
import Derived.ArgAppend
import Derived.Laws.IdiomCopy
import Derived.OrdersHeld
import Derived.Laws.BitsLemmas
import Derived.RowKit
import Derived.Test.YtpdikfmdnlhllaaWWords
import Derived.Test.YtpdikfmdnlhllaaWLast
import Derived.Test.YtpdikfmdnlhllaaWTab
import Derived.Test.YtpdikfmdnlhllaaWQPut
import Derived.Test.YtpdikfmdnlhllaaXWApart
import Derived.Test.YtpdikfmdnlhllaaWArr
import Derived.Test.YtpdikfmdnlhllaaXWZeros
import Derived.Test.YtpdikfmdnlhllaaXWFoot
import Derived.Test.YtpdikfmdnlhllaaXWKept
import Derived.Test.YtpdikfmdnlhllaaXWShare
import Derived.Test.YtpdikfmdnlhllaaXWN
import Derived.Test.YtpdikfmdnlhllaaWGuard
import Derived.Test.YtpdikfmdnlhllaaXWNEv
import Derived.Test.YtpdikfmdnlhllaaXWMore
namespace Go.Proofs.Ytpdikfmdnlhllaa.PNib
open Go.RowKit  Go.Proofs.YtpdikfmdnlhllaaW.PrintWords Go.Proofs.YtpdikfmdnlhllaaW.PrintLast Go.Proofs.YtpdikfmdnlhllaaW.PrintMore
attribute [local go_sem] max2_int min2_int max_two min_two max_three min_three max_four min_four   -- for this text's walks alone
set_option linter.unusedVariables false
set_option linter.unusedSimpArgs false



theorem info5 : (Try.prog.info? 5).map (fun i => (i.zero, i.size, i.bytes)) = some (some (.int .u8 0), 1, 1) := by kernel_rfl
-- the values' own types
end Go.Proofs.Ytpdikfmdnlhllaa.PNib
