/-
  OctetTells' pure statement: words of bytes, bytes of words, and words that are rotated, are the reference's: for any bytes, places, words and numbers.
-/
import Derived.Test.YtahiphggoemdkaaOctEval2
namespace Go.Proofs.Ytahiphggoemdkaa.Pure
open Go.RowKit Go.Proofs.Ytahiphggoemdkaa.POct Go.Proofs.YtahiphggoemdkaaW.PrintWords Go.Proofs.YtahiphggoemdkaaW.PrintLast Byte OctMath OctEval Octet

theorem OctetTells : visorlaw01_OctetTells.Pure := by
  intro l0 a1 n _ h0 b0 w1 w2
  have hb := bytes_of b0
  rw [Nat.mul_one] at h0
  obtain ⟨x, rfl⟩ := word_of w1
  refine ⟨100, ?_⟩
  unfold visorlaw01_OctetTells.f
  rw [Load_eq hb h0 n 100 (by decide), RLoad_eq hb h0 n 100 (by decide), Store_eq x n, RStore_eq x n 100 (by decide), Rot_eq x n, RRot_eq x n 100 (by decide), Low_eq n, RLow_eq n 100 (by decide), awake_eq 100 (by decide)]
  simp only [Option.bind_some, Same_refl, if_true]
end Go.Proofs.Ytahiphggoemdkaa.Pure
