/-
  Rows of a block, moved: the program's and the document's, walked. No condition.
-/
import Derived.Test.YtpdikfmdnlhllaaXMem
import Derived.LoopN
namespace Go.Proofs.Ytpdikfmdnlhllaa.AesMovB
open Go.RowKit Go.Proofs.YtpdikfmdnlhllaaW.PrintWords Go.Proofs.YtpdikfmdnlhllaaW.PrintLast Go.Proofs.YtpdikfmdnlhllaaW.PrintMore Byte Sl Arr Mem Gives
set_option linter.unusedVariables false
set_option linter.unusedSimpArgs false
set_option maxHeartbeats 40000000 in
set_option maxRecDepth 100000 in
theorem moved3 (a0 a1 a2 a3 a4 a5 a6 a7 a8 a9 a10 a11 a12 a13 a14 a15 : Int) (w : World) : Calls Try.prog 70 #[.agg #[.int .u8 a0, .int .u8 a1, .int .u8 a2, .int .u8 a3, .int .u8 a4, .int .u8 a5, .int .u8 a6, .int .u8 a7, .int .u8 a8, .int .u8 a9, .int .u8 a10, .int .u8 a11, .int .u8 a12, .int .u8 a13, .int .u8 a14, .int .u8 a15], .int .i64 3] w fun e w' => e = .returned (.agg #[.int .u8 a0, .int .u8 a13, .int .u8 a10, .int .u8 a7, .int .u8 a4, .int .u8 a1, .int .u8 a14, .int .u8 a11, .int .u8 a8, .int .u8 a5, .int .u8 a2, .int .u8 a15, .int .u8 a12, .int .u8 a9, .int .u8 a6, .int .u8 a3]) ∧ Below w.heap.size w w' := by
  go_enter Try.func70, Try.ntmps70
  go_wp2
  repeat (first | (rw [rounds_succ]; go_wp2) | (refine wp_loop_rounds 17 ?_; rw [rounds_succ]; go_wp2))
  exact bodyPost_ret (v := .agg #[.int .u8 a0, .int .u8 a13, .int .u8 a10, .int .u8 a7, .int .u8 a4, .int .u8 a1, .int .u8 a14, .int .u8 a11, .int .u8 a8, .int .u8 a5, .int .u8 a2, .int .u8 a15, .int .u8 a12, .int .u8 a9, .int .u8 a6, .int .u8 a3]) (by simp [results, Try.results70, go_sem]) rfl ⟨rfl, below_alloc (below_alloc (below_alloc (Below.refl w.heap.size w) _) _) _⟩
end Go.Proofs.Ytpdikfmdnlhllaa.AesMovB
