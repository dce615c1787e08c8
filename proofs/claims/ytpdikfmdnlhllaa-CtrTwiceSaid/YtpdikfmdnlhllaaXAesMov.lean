/-
  Rows of a block, moved: the program's and the document's, walked. No condition.
-/
import Derived.Test.YtpdikfmdnlhllaaXMem
import Derived.Test.YtpdikfmdnlhllaaXAesMovA
import Derived.Test.YtpdikfmdnlhllaaXAesMovB
import Derived.Test.YtpdikfmdnlhllaaXAesMovC
namespace Go.Proofs.Ytpdikfmdnlhllaa.AesMov
open Go.RowKit Go.Proofs.YtpdikfmdnlhllaaW.PrintWords Go.Proofs.YtpdikfmdnlhllaaW.PrintLast Go.Proofs.YtpdikfmdnlhllaaW.PrintMore Byte Sl Arr Mem Gives AesMovA AesMovB AesMovC
set_option linter.unusedVariables false
set_option linter.unusedSimpArgs false
theorem info16 : (Try.prog.info? 31).map (·.size) = some 16 := by kernel_rfl
/-! ### by lists -/
def rowsL (l : List Int) : List Int := (List.range 16).map fun i => l.getD ((i + 4 * (i % 4)) % 16) 0
def backL (l : List Int) : List Int := (List.range 16).map fun i => l.getD ((i + 12 * (i % 4)) % 16) 0
theorem rowsL_length (l : List Int) : (rowsL l).length = 16 := by simp [rowsL]
theorem backL_length (l : List Int) : (backL l).length = 16 := by simp [backL]
theorem cells16 (l : List Int) (hl : l.length = 16) : ∃ a0 a1 a2 a3 a4 a5 a6 a7 a8 a9 a10 a11 a12 a13 a14 a15 : Int, l = [a0, a1, a2, a3, a4, a5, a6, a7, a8, a9, a10, a11, a12, a13, a14, a15] := by
  match l, hl with
  | [a0, a1, a2, a3, a4, a5, a6, a7, a8, a9, a10, a11, a12, a13, a14, a15], _ => exact ⟨a0, a1, a2, a3, a4, a5, a6, a7, a8, a9, a10, a11, a12, a13, a14, a15, rfl⟩
theorem moved1_l (l : List Int) (hl : l.length = 16) (w : World) : Calls Try.prog 70 #[.agg (cellsOf .u8 l), .int .i64 1] w fun e w' => e = .returned (.agg (cellsOf .u8 (rowsL l))) ∧ Below w.heap.size w w' := by
  obtain ⟨a0, a1, a2, a3, a4, a5, a6, a7, a8, a9, a10, a11, a12, a13, a14, a15, rfl⟩ := cells16 l hl
  exact moved1 a0 a1 a2 a3 a4 a5 a6 a7 a8 a9 a10 a11 a12 a13 a14 a15 w
theorem moved3_l (l : List Int) (hl : l.length = 16) (w : World) : Calls Try.prog 70 #[.agg (cellsOf .u8 l), .int .i64 3] w fun e w' => e = .returned (.agg (cellsOf .u8 (backL l))) ∧ Below w.heap.size w w' := by
  obtain ⟨a0, a1, a2, a3, a4, a5, a6, a7, a8, a9, a10, a11, a12, a13, a14, a15, rfl⟩ := cells16 l hl
  exact moved3 a0 a1 a2 a3 a4 a5 a6 a7 a8 a9 a10 a11 a12 a13 a14 a15 w
theorem rrows_l (l : List Int) (hl : l.length = 16) (w : World) : Calls Try.prog 23 #[.agg (cellsOf .u8 l)] w fun e w' => e = .returned (.agg (cellsOf .u8 (rowsL l))) ∧ Below w.heap.size w w' := by
  obtain ⟨a0, a1, a2, a3, a4, a5, a6, a7, a8, a9, a10, a11, a12, a13, a14, a15, rfl⟩ := cells16 l hl
  exact rrows a0 a1 a2 a3 a4 a5 a6 a7 a8 a9 a10 a11 a12 a13 a14 a15 w
end Go.Proofs.Ytpdikfmdnlhllaa.AesMov
