/-
  OctetBytes' pure statement: bytes that are put together, counted on, doubled, and held against others, are the reference's: for any bytes.
-/
import Derived.Test.YtahiphggoemdkaaOctEval2
namespace Go.Proofs.Ytahiphggoemdkaa.Pure
open Go.RowKit Go.Proofs.Ytahiphggoemdkaa.POct Go.Proofs.YtahiphggoemdkaaW.PrintWords Go.Proofs.YtahiphggoemdkaaW.PrintLast Byte OctMath OctEval Octet

theorem OctetBytes : visorlaw01_OctetBytes.Pure := by
  intro l0 l1 _ h0 b0 _ h1 b1
  have hb := bytes_of b0
  rw [Nat.mul_one] at h0 h1
  refine ⟨l0.length + 100, ?_⟩
  unfold visorlaw01_OctetBytes.f
  simp only [Option.bind_some, List.nil_append, List.length_nil]
  rw [if_pos (by omega), Xor_eq l0 l1 h0, Inc_eq l0 h0, Double_eq l0 hb _ (by omega), RXor_eq l0 l1 h0 _ (by omega), RInc_eq l0 hb h0 _ (by omega), RDouble_eq l0 hb _ (by omega), awake_eq _ (by omega)]
  simp only [Option.bind_some, Same_refl, if_true]
  have e : octet_Same.f l0 l1 = visorref01_Same.f l0 l1 := rfl
  rw [e]
  have hs : ∃ v, visorref01_Same.f l0 l1 = some v := ⟨_, rfl⟩
  obtain ⟨v, hv⟩ := hs
  rw [hv]
  simp
end Go.Proofs.Ytahiphggoemdkaa.Pure
