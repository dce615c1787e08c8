/- Plain Lean functions with the answers of Go functions, and proofs that the Go code comes to them. Written by a program of this session's that runs the kit's print.py with contracts proved by hand handed to it; not trusted: Lean checks it. No condition. -/
import Derived.Test.YtphdlidaigalkaaPTtx0
import Derived.Test.YtphdlidaigalkaaPTtx1
import Derived.Test.YtphdlidaigalkaaPTtx2
import Derived.Test.YtphdlidaigalkaaPTtx3
import Derived.Test.YtphdlidaigalkaaPTtx4
import Derived.Test.YtphdlidaigalkaaPTtx5
namespace Go.Proofs.Ytphdlidaigalkaa.PTt
open Go.RowKit Go.Proofs.Ytphdlidaigalkaa.RightT Go.Proofs.YtphdlidaigalkaaW.PrintWords Go.Proofs.YtphdlidaigalkaaW.PrintLast Go.Proofs.YtphdlidaigalkaaW.PrintMore
attribute [local go_sem] max2_int min2_int max_two min_two max_three min_three max_four min_four   -- for this text's walks alone
set_option linter.unusedVariables false
set_option linter.unusedSimpArgs false

end Go.Proofs.Ytphdlidaigalkaa.PTt
