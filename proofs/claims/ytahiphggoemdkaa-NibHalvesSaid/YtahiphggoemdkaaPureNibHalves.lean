/-
  NibHalves' pure statement: an element that is not apart is the sum of a square and its root, of just two of these, which differ by 1, of which the lesser is told: for any byte.
-/
import Derived.Test.YtahiphggoemdkaaNibEval
namespace Go.Proofs.Ytahiphggoemdkaa.Pure
open Go.RowKit Go.Proofs.Ytahiphggoemdkaa.PNib Go.Proofs.YtahiphggoemdkaaW.PrintWords Go.Proofs.YtahiphggoemdkaaW.PrintLast Byte NibMath NibEval NibSq

/-- How many numbers from i on, of d, are such halves; none, if one is not as it should be. -/
def cnt (a z : BitVec 8) (ok : Bool) : Nat → Nat → Nat → Option Nat
  | 0, _, n => some n
  | d + 1, i, n => if mul (BitVec.ofNat 8 i) (BitVec.ofNat 8 i) ^^^ BitVec.ofNat 8 i = a &&& 15#8 then
      (if ok = true then (if i < z.toNat then none else if i = z.toNat then cnt a z ok d (i + 1) (n + 1) else if i = (z ^^^ 1#8).toNat then cnt a z ok d (i + 1) (n + 1) else none) else none)
      else cnt a z ok d (i + 1) n
theorem cnt_all : ∀ a : BitVec 8, (half a 16 0).2 = !(NibMath.mark 4 a 0#8 == 1#8) ∧ cnt a (half a 16 0).1 (half a 16 0).2 16 0 0 = some (if (half a 16 0).2 then 2 else 0) ∧ ((half a 16 0).2 = false → (half a 16 0).1 = 0#8) := by decide +kernel
theorem Halves_l0 (a z : BitVec 8) (ok : Bool) (hz : ok = false → z = 0#8) : ∀ d k i n, i + d = 16 → n ≤ i → d + 20 ≤ k → cnt a z ok d i n = some (if ok then 2 else 0) →
    visorlaw04_NibHalves.l0 k (I8 a) (I8 z) ok ((n : Nat) : Int) ((i : Nat) : Int) = some true := by
  intro d
  induction d with
  | zero =>
    intro k i n hi hn hk hc
    obtain ⟨k, rfl⟩ : ∃ m, k = m + 1 := ⟨k - 1, by omega⟩
    simp only [cnt, Option.some.injEq] at hc
    simp only [visorlaw04_NibHalves.l0]
    rw [if_neg (by omega)]
    cases ok
    · subst hc
      rw [hz rfl]
      simp [awake_eq k (by omega), I8]
    · subst hc
      simp [awake_eq k (by omega)]
  | succ d ih =>
    intro k i n hi hn hk hc
    obtain ⟨k, rfl⟩ : ∃ m, k = m + 1 := ⟨k - 1, by omega⟩
    simp only [cnt] at hc
    simp only [visorlaw04_NibHalves.l0]
    have e1 : ((i : Int)) % 256 = I8 (BitVec.ofNat 8 i) := by rw [← ofNat8 i (by omega)]; omega
    have e2 : wrap64 ((i : Int) + 1) = ((i + 1 : Nat) : Int) := by unfold wrap64; omega
    have e3 : wrap64 ((n : Int) + 1) = ((n + 1 : Nat) : Int) := by unfold wrap64; omega
    have e4 : wrap64 (I8 z) = (z.toNat : Int) := by have := z.isLt; unfold wrap64 I8; omega
    have e5 : wrap64 (Go.bits .xor .u8 (I8 z) 1) = ((z ^^^ 1#8).toNat : Int) := by
      rw [show Go.bits .xor .u8 (I8 z) 1 = I8 (z ^^^ 1#8) from xor8 z 1#8]
      have := (z ^^^ 1#8).isLt; unfold wrap64 I8; omega
    rw [if_pos (by omega), e1, RMul_eq _ _ k (by omega)]
    simp only [Option.bind_some]
    rw [e2, e3, e4, e5, tmod16, xor8]
    by_cases h : mul (BitVec.ofNat 8 i) (BitVec.ofNat 8 i) ^^^ BitVec.ofNat 8 i = a &&& 15#8
    · rw [if_pos h] at hc
      rw [if_pos (I8_eq_iff.2 h)]
      cases ok with
      | false => simp at hc
      | true =>
        rw [if_pos rfl] at hc ⊢
        by_cases h1 : i < z.toNat
        · rw [if_pos h1] at hc; cases hc
        · rw [if_neg h1] at hc
          rw [if_neg (by rw [← ofNat8 i (by omega)]; unfold I8; omega)]
          by_cases h2 : i = z.toNat
          · rw [if_pos h2] at hc
            rw [if_pos (by omega)]
            exact ih k (i + 1) (n + 1) (by omega) (by omega) (by omega) hc
          · rw [if_neg h2] at hc
            rw [if_neg (by omega)]
            by_cases h3 : i = (z ^^^ 1#8).toNat
            · rw [if_pos h3] at hc
              rw [if_pos (by omega)]
              exact ih k (i + 1) (n + 1) (by omega) (by omega) (by omega) hc
            · rw [if_neg h3] at hc; cases hc
    · rw [if_neg h] at hc
      rw [if_neg (mt I8_eq_iff.1 h)]
      exact ih k (i + 1) n (by omega) (by omega) (by omega) hc
theorem NibHalves : visorlaw04_NibHalves.Pure := by
  intro a0 h0
  obtain ⟨a, rfl⟩ := byte_of h0
  refine ⟨1000, ?_⟩
  have hc := cnt_all a
  unfold visorlaw04_NibHalves.f
  rw [Half_eq a 1000 (by decide), Apart_eq a 1000 (by decide)]
  simp only [Option.bind_some]
  rw [if_neg (by rw [hc.1]; cases (NibMath.mark 4 a 0#8 == 1#8) <;> simp)]
  exact Halves_l0 a _ _ hc.2.2 16 1000 0 0 rfl (by decide) (by decide) hc.2.1
end Go.Proofs.Ytahiphggoemdkaa.Pure
