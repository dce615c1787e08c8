/-
  GfTells' pure statement: twice an element, products, powers, inverses and orders of gf are those of visorref03: for all bytes, and any int.
-/
import Derived.Test.YtahiphggoemdkaaGfEval
namespace Go.Proofs.Ytahiphggoemdkaa.Pure
open Go.RowKit Go.Proofs.Ytahiphggoemdkaa.PGfTells Go.Proofs.YtahiphggoemdkaaW.PrintWords Go.Proofs.YtahiphggoemdkaaW.PrintLast Byte GfMath GfEval

theorem GfTells : visorlaw03_GfTells.Pure := by
  intro a0 a1 n h0 h1 h2
  obtain ⟨a, rfl⟩ := byte_of h0
  obtain ⟨b, rfl⟩ := byte_of h1
  have hn := wf_i64 h2
  refine ⟨1000, ?_⟩
  unfold visorlaw03_GfTells.f
  rw [Twice_eq, show (2 : Int) = I8 2#8 from rfl, RMul_eq a 2#8 1000 (by decide), mul_two, RMul_eq a b 1000 (by decide), Mul_eq a b 1000 (by decide), Inv_eq a 1000 (by decide), RInv_eq a 1000 (by decide), awake_eq 1000 (by decide)]
  have hp : ∃ v, gf_Pow.f 1000 (I8 a) n = some v ∧ visorref03_Pow.f 1000 (I8 a) n = some v := by
    by_cases h : n < 0
    · exact ⟨_, Pow_neg _ n h _, RPow_neg _ n h _⟩
    · obtain ⟨m, rfl⟩ := Int.eq_ofNat_of_zero_le (show 0 ≤ n by omega)
      exact ⟨_, Pow_eq a m (by omega) 1000 (by decide), RPow_eq a m (by omega) 1000 (by decide)⟩
  obtain ⟨v, hv1, hv2⟩ := hp
  have ho : ∃ v, gf_Order.f 1000 (I8 a) = some v ∧ visorref03_Order.f 1000 (I8 a) = some v := by
    by_cases h : a = 0#8
    · subst h; exact ⟨_, Order_zero _, ROrder_zero _ (by decide)⟩
    · obtain ⟨e, he, rfl⟩ := is_pow a h
      exact ⟨_, Order_eq e 1000 (by decide), ROrder_eq e he 1000 (by decide)⟩
  obtain ⟨u, hu1, hu2⟩ := ho
  rw [hv1, hv2, hu1, hu2]
  simp only [Option.bind_some, if_true]
end Go.Proofs.Ytahiphggoemdkaa.Pure
