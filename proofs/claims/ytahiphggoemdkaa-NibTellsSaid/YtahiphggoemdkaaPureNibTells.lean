/-
  NibTells' pure statement: products, squares, powers, inverses and marks of nib are those of visorref04: for all bytes, and any int.
-/
import Derived.Test.YtahiphggoemdkaaNibEval
namespace Go.Proofs.Ytahiphggoemdkaa.Pure
open Go.RowKit Go.Proofs.Ytahiphggoemdkaa.PNib Go.Proofs.YtahiphggoemdkaaW.PrintWords Go.Proofs.YtahiphggoemdkaaW.PrintLast Byte NibMath NibEval NibSq

theorem NibTells : visorlaw04_NibTells.Pure := by
  intro a0 a1 n h0 h1 h2
  obtain ⟨a, rfl⟩ := byte_of h0
  obtain ⟨b, rfl⟩ := byte_of h1
  have hn := wf_i64 h2
  refine ⟨1000, ?_⟩
  unfold visorlaw04_NibTells.f
  have hp : ∃ v, nib_Pow.f 1000 (I8 a) n = some v ∧ visorref04_Pow.f 1000 (I8 a) n = some v := by
    by_cases h : n < 0
    · exact ⟨_, Pow_neg _ n h _, RPow_neg _ n h _⟩
    · obtain ⟨m, rfl⟩ := Int.eq_ofNat_of_zero_le (show 0 ≤ n by omega)
      exact ⟨_, Pow_eq a m (by omega) 1000 (by decide), RPow_eq a m (by omega) 1000 (by decide)⟩
  obtain ⟨v, hv1, hv2⟩ := hp
  rw [Mul_eq a b 1000 (by decide), RMul_eq a b 1000 (by decide), RMul_eq a a 1000 (by decide), sq_eq, sq_mul, Inv_eq a 1000 (by decide), RInv_eq a 1000 (by decide), awake_eq 1000 (by decide), Mark_eq a 1000 (by decide), RMark_eq a 1000 (by decide), Apart_eq a 1000 (by decide), RApart_eq a 1000 (by decide), hv1, hv2]
  simp only [Option.bind_some, if_true, beq_self_eq_true]
end Go.Proofs.Ytahiphggoemdkaa.Pure
