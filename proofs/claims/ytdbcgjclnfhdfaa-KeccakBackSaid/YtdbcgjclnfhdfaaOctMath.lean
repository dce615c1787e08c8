/-
  Bytes and words in plain Lean: rotations, lowest bits, bytes of words, and doubling. No Go, no condition.
-/
import Derived.Test.YtdbcgjclnfhdfaaByte
namespace Go.Proofs.Ytdbcgjclnfhdfaa.OctMath
open Byte
/-- A word, rotated to the left by m bits, below 64. -/
def rot (x : BitVec 64) (m : Nat) : BitVec 64 := x <<< m ||| x >>> (64 - m)
theorem rot_bit (x : BitVec 64) (m i : Nat) (hm : m < 64) (hi : i < 64) : (rot x m).getLsbD i = x.getLsbD ((i + (64 - m)) % 64) := by
  unfold rot
  rw [BitVec.getLsbD_or, BitVec.getLsbD_shiftLeft, BitVec.getLsbD_ushiftRight]
  by_cases h : i < m
  · rw [show (i + (64 - m)) % 64 = 64 - m + i by omega]
    simp [h]
  · have e : (i + (64 - m)) % 64 = i - m := by omega
    rw [e, BitVec.getLsbD_of_ge x (64 - m + i) (by omega)]
    simp [h, hi]
theorem rot_zero (x : BitVec 64) : rot x 0 = x := by
  apply BitVec.eq_of_getLsbD_eq
  intro i hi
  rw [rot_bit x 0 i (by decide) hi]
  congr 1; omega
theorem rot_rot (x : BitVec 64) (m n : Nat) (hm : m < 64) (hn : n < 64) : rot (rot x m) n = rot x ((m + n) % 64) := by
  apply BitVec.eq_of_getLsbD_eq
  intro i hi
  rw [rot_bit _ n i hn hi, rot_bit x m _ hm (by omega), rot_bit x _ i (by omega) hi]
  congr 1; omega
theorem rot_xor (x y : BitVec 64) (m : Nat) : rot (x ^^^ y) m = rot x m ^^^ rot y m := by
  unfold rot
  apply BitVec.eq_of_getLsbD_eq
  intro i hi
  simp only [BitVec.getLsbD_or, BitVec.getLsbD_xor, BitVec.getLsbD_shiftLeft, BitVec.getLsbD_ushiftRight]
  by_cases h : i < m
  · simp [h]
  · by_cases h0 : m = 0
    · subst h0; simp [hi]
    · rw [BitVec.getLsbD_of_ge x (64 - m + i) (by omega), BitVec.getLsbD_of_ge y (64 - m + i) (by omega)]
      simp [h, hi]
/-- One step to the left, as numbers. -/
theorem rot_one (x : BitVec 64) : (rot x 1).toNat = (x.toNat * 2) % 18446744073709551616 + x.toNat / 9223372036854775808 := by
  unfold rot
  have hx := x.isLt
  have h1 : (x <<< 1 ||| x >>> (64 - 1)).toNat = (x <<< 1).toNat ||| (x >>> 63).toNat := BitVec.toNat_or ..
  rw [h1, BitVec.toNat_shiftLeft, BitVec.toNat_ushiftRight, Nat.shiftLeft_eq, Nat.shiftRight_eq_div_pow]
  have h2 : x.toNat * 2 ^ 1 % 2 ^ 64 = 2 ^ 1 * (x.toNat % 2 ^ 63) := by omega
  have h3 : x.toNat / 2 ^ 63 < 2 ^ 1 := by omega
  rw [h2, ← Nat.two_pow_add_eq_or_of_lt h3]
/-- The lowest n bits. -/
def low (n : Nat) : Nat := 2 ^ n - 1
theorem low_succ (n : Nat) : low (n + 1) = low n * 2 + 1 := by
  unfold low; have := Nat.two_pow_pos n; rw [Nat.pow_succ]; omega
theorem low_lt (n : Nat) (h : n ≤ 64) : low n < 18446744073709551616 := by
  unfold low; have : 2 ^ n ≤ 2 ^ 64 := Nat.pow_le_pow_right (by decide) h; have := Nat.two_pow_pos n; omega
/-- A number's lowest bytes. -/
def dg : Nat → Nat → List Nat
  | 0, _ => []
  | n + 1, x => x % 256 :: dg n (x / 256)
theorem dg_length : ∀ n x, (dg n x).length = n
  | 0, _ => rfl
  | n + 1, x => by simp [dg, dg_length n]
theorem dg_get : ∀ n x i, i < n → (dg n x)[i]? = some ((x / 256 ^ i) % 256)
  | 0, _, _, h => by omega
  | n + 1, x, 0, _ => by simp [dg]
  | n + 1, x, i + 1, h => by
    simp only [dg, List.getElem?_cons_succ]
    rw [dg_get n _ i (by omega), Nat.div_div_eq_div_mul, Nat.pow_succ, Nat.mul_comm 256]
/-- The number that bytes make, the lowest first. -/
def num : List Nat → Nat
  | [] => 0
  | x :: l => x + 256 * num l
theorem num_lt : ∀ l : List Nat, (∀ x ∈ l, x < 256) → num l < 256 ^ l.length
  | [], _ => by simp [num]
  | x :: l, h => by
    have h1 := num_lt l (fun y hy => h y (List.mem_cons_of_mem _ hy))
    have h2 := h x (List.mem_cons_self ..)
    simp only [num, List.length_cons, Nat.pow_succ]
    omega
theorem num_dg : ∀ n x, x < 256 ^ n → num (dg n x) = x
  | 0, x, h => by simp at h; simp [dg, num, h]
  | n + 1, x, h => by
    have : x / 256 < 256 ^ n := by rw [Nat.pow_succ] at h; omega
    simp only [dg, num, num_dg n _ this]
    omega
end Go.Proofs.Ytdbcgjclnfhdfaa.OctMath
