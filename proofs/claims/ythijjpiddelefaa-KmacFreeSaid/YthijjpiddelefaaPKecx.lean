/- Plain Lean functions with the answers of Go functions, and proofs that the Go code comes to them. Written by a program of this session's that runs the kit's print.py with contracts proved by hand handed to it; not trusted: Lean checks it. No condition. -/
import Derived.Test.YthijjpiddelefaaPKecx0
import Derived.Test.YthijjpiddelefaaPKecx1
import Derived.Test.YthijjpiddelefaaPKecx2
import Derived.Test.YthijjpiddelefaaPKecx3
namespace Go.Proofs.Ythijjpiddelefaa.PKec
open Go.RowKit  Go.Proofs.YthijjpiddelefaaW.PrintWords Go.Proofs.YthijjpiddelefaaW.PrintLast Go.Proofs.YthijjpiddelefaaW.PrintMore
attribute [local go_sem] max2_int min2_int max_two min_two max_three min_three max_four min_four   -- for this text's walks alone
set_option linter.unusedVariables false
set_option linter.unusedSimpArgs false

end Go.Proofs.Ythijjpiddelefaa.PKec
