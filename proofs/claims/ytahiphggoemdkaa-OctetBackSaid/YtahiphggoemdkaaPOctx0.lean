/- Plain Lean functions with the answers of Go functions, and proofs that the Go code comes to them. Written by a program of this session's that runs the kit's print.py with contracts proved by hand handed to it; not trusted: Lean checks it. No condition. -/
import Derived.Test.YtahiphggoemdkaaProg
import Derived.Below
import Derived.Deep.Draws
import Derived.Deep.AppendLies
import Derived.Maps.AppendAt
import Derived.OwnWalk
import Derived.Laws.BytesArg
import Derived.Laws.MakeOwn
import Derived.Laws.OwnMore
import Derived.Deep.OwnRows
import Derived.Tactics
import Derived.Lib.ConvBytes
import Derived.Laws.Slices
import Derived.WalkKit
import Derived.KernelRfl
import Derived.RowKit3
import Derived.Deep.LoopGhost
import Derived.Deep.QuietTactic
import Derived.BigQuiet
import Derived.WideLaws
import Derived.Deep.DeepCutAuto
import Derived.Deep.CutBlock
import Derived.Deep.RegionHeld3
import Derived.Laws.Rows
import Derived.Lib.AppendStr
import Derived.ArgAppend
import Derived.Laws.IdiomCopy
import Derived.OrdersHeld
import Derived.Laws.BitsLemmas
import Derived.RowKit
import Derived.Test.YtahiphggoemdkaaOctet
import Derived.Test.YtahiphggoemdkaaStore
import Derived.Test.YtahiphggoemdkaaWWords
import Derived.Test.YtahiphggoemdkaaWLast
import Derived.Test.YtahiphggoemdkaaWTab
import Derived.Test.YtahiphggoemdkaaWFour
import Derived.Test.YtahiphggoemdkaaWQPut
import Derived.Test.YtahiphggoemdkaaWApart
import Derived.Test.YtahiphggoemdkaaWArr
import Derived.Test.YtahiphggoemdkaaWZeros
import Derived.Test.YtahiphggoemdkaaWFoot
import Derived.Test.YtahiphggoemdkaaWKept
import Derived.Test.YtahiphggoemdkaaWShare
import Derived.Test.YtahiphggoemdkaaWN
import Derived.Test.YtahiphggoemdkaaWFootNe
import Derived.Test.YtahiphggoemdkaaWAt
import Derived.Test.YtahiphggoemdkaaWEqStruct
import Derived.Test.YtahiphggoemdkaaWRepsOne
import Derived.Test.YtahiphggoemdkaaWInv
import Derived.Test.YtahiphggoemdkaaWInvWords
import Derived.Test.YtahiphggoemdkaaWGuard
import Derived.Test.YtahiphggoemdkaaWNEv
import Derived.Test.YtahiphggoemdkaaWMore
namespace Go.Proofs.Ytahiphggoemdkaa.POct
open Go.RowKit Go.Proofs.Ytahiphggoemdkaa.Octet Go.Proofs.Ytahiphggoemdkaa.Store Go.Proofs.YtahiphggoemdkaaW.PrintWords Go.Proofs.YtahiphggoemdkaaW.PrintLast Go.Proofs.YtahiphggoemdkaaW.PrintMore
attribute [local go_sem] max2_int min2_int max_two min_two max_three min_three max_four min_four   -- for this text's walks alone
set_option linter.unusedVariables false
set_option linter.unusedSimpArgs false



def errW : Option Int → Value
  | none => .nilIface
  | some c => .iface 0 (.int .i64 c)
theorem errW_none : errW none = .nilIface := rfl
theorem errW_some (c : Int) : errW (some c) = .iface 0 (.int .i64 c) := rfl

theorem info5 : (Try.prog.info? 5).map (fun i => (i.zero, i.size, i.bytes)) = some (some (.int .u8 0), 1, 1) := by kernel_rfl
-- the values' own types

end Go.Proofs.Ytahiphggoemdkaa.POct
