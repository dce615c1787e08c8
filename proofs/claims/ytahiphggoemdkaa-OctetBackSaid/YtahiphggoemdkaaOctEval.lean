/-
  What the printed functions of octet and of its reference come to, in terms of OctMath: for all bytes, words and ints.
-/
import Derived.Test.YtahiphggoemdkaaOctMath
import Derived.Test.YtahiphggoemdkaaPOctx3
namespace Go.Proofs.Ytahiphggoemdkaa.OctEval
open Go.RowKit Go.Proofs.Ytahiphggoemdkaa.POct Go.Proofs.YtahiphggoemdkaaW.PrintWords Go.Proofs.YtahiphggoemdkaaW.PrintLast Go.Proofs.YtahiphggoemdkaaW.PrintMore Byte OctMath Octet Store

/-! ### Rot, Low -/
theorem shl_u64 (x : BitVec 64) (m : Nat) (hm : m ≤ 64) : shl .u64 (I64 x) (m : Int) = I64 (x <<< m) := by
  unfold shl I64
  have : min ((m : Int).toNat) IntKind.u64.bits = m := by
    show min ((m : Int).toNat) 64 = m
    omega
  rw [this, wrap_u64, BitVec.toNat_shiftLeft, Nat.shiftLeft_eq, show ((x.toNat : Int) * 2 ^ m) = ((x.toNat * 2 ^ m : Nat) : Int) by simp]
  omega
theorem shr_u64 (x : BitVec 64) (m : Nat) (hm : m ≤ 64) : shr .u64 (I64 x) (m : Int) = I64 (x >>> m) := by
  unfold shr I64
  have : min ((m : Int).toNat) IntKind.u64.bits = m := by
    show min ((m : Int).toNat) 64 = m
    omega
  rw [this, BitVec.toNat_ushiftRight, Nat.shiftRight_eq_div_pow, Int.natCast_ediv]
  simp
/-- A number modulo 64, from 0 on. -/
def m64 (k : Int) : Nat := (k % 64).toNat
theorem m64_lt (k : Int) : m64 k < 64 := by unfold m64; omega
theorem Rot_eq (x : BitVec 64) (k : Int) : octet_Rot.f (I64 x) k = some (I64 (rot x (m64 k))) := by
  unfold octet_Rot.f
  have hm := m64_lt k
  have e : k % 64 = ((m64 k : Nat) : Int) := by unfold m64; omega
  have e2 : wrap64 (64 - ((m64 k : Nat) : Int)) = ((64 - m64 k : Nat) : Int) := by unfold wrap64; omega
  rw [and_i64_mask, e, e2, if_pos (by omega), if_pos (by omega), shl_u64 _ _ (by omega), shr_u64 _ _ (by omega), or64]; rfl
theorem RMod_eq (k : Int) : visorref01_Mod.f k 64 = some ((m64 k : Nat) : Int) := by
  unfold visorref01_Mod.f
  have tm := tmod_nat k 64
  have tm' : (0 ≤ k → Int.tmod k 64 = k % 64) ∧ (k < 0 → k % 64 = 0 → Int.tmod k 64 = 0) ∧ (k < 0 → k % 64 ≠ 0 → Int.tmod k 64 = k % 64 - 64) := tm
  clear tm
  rw [if_neg (by decide)]
  generalize Int.tmod k 64 = t at *
  unfold m64
  by_cases h : t < 0
  · rw [if_pos h]
    have : wrap64 (t + 64) = t + 64 := by unfold wrap64; omega
    rw [this]
    congr 1; omega
  · rw [if_neg h]; congr 1; omega
theorem RRot_l0 (k : Int) : ∀ d n (x : BitVec 64) (i : Nat), i + d = m64 k → d < n → visorref01_Rot.l0 n (I64 x) k (i : Int) = some (I64 (rot x d)) := by
  intro d
  induction d with
  | zero =>
    intro n x i hi hn
    obtain ⟨n, rfl⟩ : ∃ m, n = m + 1 := ⟨n - 1, by omega⟩
    simp only [visorref01_Rot.l0, RMod_eq, Option.bind_some]
    rw [if_neg (by omega), rot_zero]
  | succ d ih =>
    intro n x i hi hn
    obtain ⟨n, rfl⟩ : ∃ m, n = m + 1 := ⟨n - 1, by omega⟩
    simp only [visorref01_Rot.l0, RMod_eq, Option.bind_some]
    have hm := m64_lt k
    have e1 : IntKind.u64.wrap (IntKind.u64.wrap (I64 x * 2) + IntKind.u64.wrap (Int.tdiv (I64 x) 9223372036854775808)) = I64 (rot x 1) := by
      have hx := x.isLt
      rw [wrap_u64, wrap_u64, wrap_u64, Int.tdiv_eq_ediv_of_nonneg (I64_lo x)]
      unfold I64
      rw [rot_one]
      omega
    rw [if_pos (by omega), e1, show wrap64 ((i : Int) + 1) = ((i + 1 : Nat) : Int) by unfold wrap64; omega, ih n (rot x 1) (i + 1) (by omega) (by omega), rot_rot x 1 d (by decide) (by omega)]
    congr 3; omega
theorem RRot_eq (x : BitVec 64) (k : Int) (n : Nat) (hn : 64 ≤ n) : visorref01_Rot.f n (I64 x) k = some (I64 (rot x (m64 k))) := by
  unfold visorref01_Rot.f
  have hm := m64_lt k
  exact RRot_l0 k (m64 k) n x 0 (by omega) (by omega)
theorem Low_eq (n : Int) : octet_Low.f n = some ((low (min n.toNat 64) : Nat) : Int) := by
  unfold octet_Low.f
  by_cases h : n ≤ 0
  · rw [if_pos h, show n.toNat = 0 by omega]; rfl
  · rw [if_neg h]
    have e : wrap64 (64 - mn n 64) = ((64 - min n.toNat 64 : Nat) : Int) := by unfold mn wrap64; split <;> omega
    rw [e, if_pos (by omega), show (18446744073709551615 : Int) = I64 (BitVec.ofNat 64 18446744073709551615) from rfl, shr_u64 _ _ (by omega)]
    unfold I64
    rw [BitVec.toNat_ushiftRight, Nat.shiftRight_eq_div_pow, BitVec.toNat_ofNat]
    congr 2
    generalize hm : min n.toNat 64 = m
    have hm64 : m ≤ 64 := by omega
    have hp := Nat.two_pow_pos (64 - m)
    have hq := Nat.two_pow_pos m
    have hpq : 2 ^ (64 - m) * 2 ^ m = 2 ^ 64 := by rw [← Nat.pow_add]; congr 1; omega
    rw [Nat.mod_eq_of_lt (by decide)]
    unfold low
    have h1 : 18446744073709551615 = 2 ^ (64 - m) * (2 ^ m - 1) + (2 ^ (64 - m) - 1) := by
      have hle : 2 ^ (64 - m) ≤ 2 ^ 64 := Nat.pow_le_pow_right (by decide) (by omega)
      rw [Nat.mul_sub, hpq]; omega
    conv => lhs; rw [h1]
    rw [Nat.mul_add_div hp, Nat.div_eq_of_lt (by omega), Nat.add_zero]
theorem RLow_l0 (n : Int) : ∀ d k i, i + d = min n.toNat 64 → d < k → visorref01_Low.l0 k n ((low i : Nat) : Int) (i : Int) = some ((low (min n.toNat 64) : Nat) : Int) := by
  intro d
  induction d with
  | zero =>
    intro k i hi hk
    obtain ⟨k, rfl⟩ : ∃ m, k = m + 1 := ⟨k - 1, by omega⟩
    simp only [visorref01_Low.l0]
    rw [show min n.toNat 64 = i by omega]
    by_cases h : (i : Int) < n
    · rw [if_pos h, if_neg (by omega)]
    · rw [if_neg h]
  | succ d ih =>
    intro k i hi hk
    obtain ⟨k, rfl⟩ : ∃ m, k = m + 1 := ⟨k - 1, by omega⟩
    simp only [visorref01_Low.l0]
    have h1 := low_lt (i + 1) (by omega)
    have h2 := low_succ i
    rw [if_pos (by omega), if_pos (by omega), show wrap64 ((i : Int) + 1) = ((i + 1 : Nat) : Int) by unfold wrap64; omega]
    have e : IntKind.u64.wrap (IntKind.u64.wrap (((low i : Nat) : Int) * 2) + 1) = ((low (i + 1) : Nat) : Int) := by rw [wrap_u64, wrap_u64]; omega
    rw [e]
    exact ih k (i + 1) (by omega) (by omega)
theorem RLow_eq (n : Int) (k : Nat) (hk : 65 ≤ k) : visorref01_Low.f k n = some ((low (min n.toNat 64) : Nat) : Int) := by
  unfold visorref01_Low.f
  exact RLow_l0 n (min n.toNat 64) k 0 (by omega) (by omega)

/-! ### Store -/
def ints (l : List Nat) : List Int := l.map fun x : Nat => (x : Int)
theorem ints_length (l : List Nat) : (ints l).length = l.length := by simp [ints]
theorem stL_dg (x : BitVec 64) (m : Nat) (hm : m ≤ 8) : stL (I64 x) m = ints (dg m x.toNat) := by
  refine List.ext_getElem? fun i => ?_
  rcases Nat.lt_or_ge i m with hi | hi
  · rw [stL_get _ _ _ hi]
    unfold ints
    rw [List.getElem?_map, dg_get m _ i hi, shr_u64 x _ (by omega)]
    unfold I64
    rw [BitVec.toNat_ushiftRight, Nat.shiftRight_eq_div_pow, Nat.pow_mul]
    simp
  · rw [List.getElem?_eq_none (by rw [stL_length]; exact hi), List.getElem?_eq_none (by rw [ints_length, dg_length]; exact hi)]
theorem Store_eq (x : BitVec 64) (n : Int) : octet_Store.f (I64 x) n = some (ints (dg (min n.toNat 8) x.toNat)) := by
  unfold octet_Store.f
  rw [stL_dg x _ (by unfold cut8; omega)]; rfl
theorem RStore_l0 (n : Int) : ∀ d k i (y : Nat) (l : List Int), i + d = min n.toNat 8 → l.length = i → y < 18446744073709551616 → d < k → visorref01_Store.l0 k (y : Int) n l (i : Int) = some (l ++ ints (dg d y)) := by
  intro d
  induction d with
  | zero =>
    intro k i y l hi hl hy hk
    obtain ⟨k, rfl⟩ : ∃ m, k = m + 1 := ⟨k - 1, by omega⟩
    simp only [visorref01_Store.l0]
    by_cases h : (i : Int) < n
    · rw [if_pos h, if_neg (by omega)]; simp [dg, ints]
    · rw [if_neg h]; simp [dg, ints]
  | succ d ih =>
    intro k i y l hi hl hy hk
    obtain ⟨k, rfl⟩ : ∃ m, k = m + 1 := ⟨k - 1, by omega⟩
    simp only [visorref01_Store.l0]
    rw [if_pos (by omega), if_pos (by omega), if_pos (by omega)]
    have e1 : IntKind.u64.wrap (Int.tdiv (y : Int) 256) = ((y / 256 : Nat) : Int) := by
      rw [Int.tdiv_eq_ediv_of_nonneg (by omega), wrap_u64]; omega
    have e2 : (Int.tmod (y : Int) 256) % 256 = ((y % 256 : Nat) : Int) := by
      rw [Int.tmod_eq_emod_of_nonneg (by omega)]; omega
    rw [e1, e2, show wrap64 ((i : Int) + 1) = ((i + 1 : Nat) : Int) by unfold wrap64; omega, ih k (i + 1) _ _ (by omega) (by simp; omega) (by omega) (by omega)]
    simp [dg, ints]
theorem RStore_eq (x : BitVec 64) (n : Int) (k : Nat) (hk : 9 ≤ k) : visorref01_Store.f k (I64 x) n = some (ints (dg (min n.toNat 8) x.toNat)) := by
  unfold visorref01_Store.f
  have := RStore_l0 n (min n.toNat 8) k 0 x.toNat [] (by omega) rfl x.isLt (by omega)
  rw [List.nil_append] at this
  exact this
end Go.Proofs.Ytahiphggoemdkaa.OctEval
