/-
  What the printed functions of nib, gf and tower, and of their references, come to: for all bytes.
-/
import Derived.Test.YtphdlidaigalkaaNibMath
import Derived.Test.YtphdlidaigalkaaGfMath
import Derived.Test.YtphdlidaigalkaaTowMath
import Derived.Test.YtphdlidaigalkaaPNibx2
namespace Go.Proofs.Ytphdlidaigalkaa.NibE
open Go.RowKit Go.Proofs.Ytphdlidaigalkaa.PNib Go.Proofs.YtphdlidaigalkaaW.PrintWords Go.Proofs.YtphdlidaigalkaaW.PrintLast Go.Proofs.YtphdlidaigalkaaW.PrintMore Byte NibMath NibSq
theorem twice_eq (a : BitVec 8) : nib_twice.f (I8 a) = some (I8 (Tn a)) := by
  unfold nib_twice.f Tn
  rw [show Go.bits .and .u8 (I8 a) 8 = I8 (a &&& 8#8) from and8 a 8#8, twice8]
  by_cases h : a &&& 8#8 = 0#8
  · rw [if_pos (I8_zero.2 h), if_pos h]
  · rw [if_neg (mt I8_zero.1 h), if_neg h, show Go.bits .xor .u8 (I8 (a <<< 1)) 3 = I8 ((a <<< 1) ^^^ 3#8) from xor8 _ 3#8, show Go.bits .and .u8 (I8 ((a <<< 1) ^^^ 3#8)) 15 = I8 (((a <<< 1) ^^^ 3#8) &&& 15#8) from and8 _ 15#8]
theorem Mul_l0 : ∀ n k (a b o : BitVec 8), n < k → b.toNat < 2 ^ n → nib_Mul.l0 k (I8 a) (I8 b) (I8 o) = some (I8 (o ^^^ Pn n a b)) := by
  intro n
  induction n with
  | zero =>
    intro k a b o hk hb
    obtain ⟨k, rfl⟩ : ∃ m, k = m + 1 := ⟨k - 1, by omega⟩
    obtain rfl : b = 0#8 := BitVec.eq_of_toNat_eq (by simp at hb ⊢; omega)
    simp only [nib_Mul.l0]
    rw [if_pos (by rfl)]
    simp [Pn]
  | succ n ih =>
    intro k a b o hk hb
    obtain ⟨k, rfl⟩ : ∃ m, k = m + 1 := ⟨k - 1, by omega⟩
    simp only [nib_Mul.l0]
    by_cases h0 : b = 0#8
    · subst h0
      rw [if_pos (by rfl), Pn_zero, BitVec.xor_zero]
    · rw [if_neg (mt I8_zero.1 h0)]
      have hb' : (b >>> 1).toNat < 2 ^ n := by rw [BitVec.toNat_ushiftRight, Nat.shiftRight_eq_div_pow]; rw [Nat.pow_succ] at hb; omega
      simp only [twice_eq, Option.bind_some, half8, xor8, Pn]
      by_cases h1 : b.getLsbD 0 = true
      · rw [if_pos ((odd8 b).2 h1), ih k _ _ _ (by omega) hb', if_pos h1, BitVec.xor_assoc]
      · rw [if_neg (mt (odd8 b).1 h1), ih k _ _ _ (by omega) hb', if_neg h1, BitVec.zero_xor]
theorem and15 (a : BitVec 8) : Go.bits .and .u8 (I8 a) 15 = I8 (a &&& 15#8) := and8 a 15#8
theorem nib_lt : ∀ a : BitVec 8, (a &&& 15#8).toNat < 2 ^ 4 := by decide +kernel
theorem Mul_eq (a b : BitVec 8) (k : Nat) (hk : 5 ≤ k) : nib_Mul.f k (I8 a) (I8 b) = some (I8 (mul a b)) := by
  unfold nib_Mul.f
  rw [zero8, and15, and15, Mul_l0 4 k _ _ 0#8 (by omega) (nib_lt b), BitVec.zero_xor]; rfl
theorem Inv_eq (a : BitVec 8) (k : Nat) (hk : 5 ≤ k) : nib_Inv.f k (I8 a) = some (I8 (inv a)) := by
  unfold nib_Inv.f inv
  simp only [sq_eq, Option.bind_some, Mul_eq _ _ k hk]
theorem tmod2 (n : Nat) : Int.tmod (n : Int) 2 = ((n % 2 : Nat) : Int) := by
  rw [Int.tmod_eq_emod_of_nonneg (by omega)]; omega
theorem shr_nat (n i : Nat) (hi : i ≤ 64) : shr .i64 (n : Int) (i : Int) = ((n >>> i : Nat) : Int) := by
  unfold shr
  have : min ((i : Int).toNat) IntKind.i64.bits = i := by
    show min ((i : Int).toNat) 64 = i
    omega
  rw [this, Nat.shiftRight_eq_div_pow]
  rw [Int.natCast_ediv]
  simp
theorem bit_of (n i : Nat) (hi : i ≤ 64) : (Int.tmod (shr .i64 (n : Int) (i : Int)) 2 = 1) ↔ n.testBit i = true := by
  rw [shr_nat n i hi, tmod2, Nat.testBit_eq_decide_div_mod_eq, Nat.shiftRight_eq_div_pow, decide_eq_true_iff]
  generalize n / 2 ^ i = q
  omega
theorem wu (i : Nat) (hi : i < 18446744073709551616) : IntKind.u64.wrap (i : Int) = (i : Int) := wrap_u64_nat i hi
theorem RMul_l0 (b : BitVec 8) : ∀ m k i n x, i + m = 4 → n < 2 ^ 20 → x < 2 ^ (8 + i) →
    visorref04_Mul.l0 (m + 1 + k) (I8 b) ((n : Nat) : Int) ((x : Nat) : Int) ((i : Nat) : Int) = visorref04_Mul.l1 k ((n ^^^ S4 m b i x : Nat) : Int) 6 := by
  intro m
  induction m with
  | zero =>
    intro k i n x hi hn hx
    rw [show 0 + 1 + k = k + 1 by omega]
    simp only [visorref04_Mul.l0, S4, Nat.xor_zero]
    rw [if_neg (by omega)]
  | succ m ih =>
    intro k i n x hi hn hx
    rw [show m + 1 + 1 + k = (m + 1 + k) + 1 by omega]
    simp only [visorref04_Mul.l0, S4]
    have hp : (2 : Nat) ^ (8 + i) ≤ 2 ^ 15 := Nat.pow_le_pow_right (by decide) (by omega)
    rw [if_pos (by omega), wu i (by omega), if_pos (by omega)]
    have hb := b.isLt
    have e1 : wrap64 (I8 b) = ((b.toNat : Nat) : Int) := by unfold I8 wrap64; omega
    have e2 : wrap64 ((x : Int) * 2) = ((x * 2 : Nat) : Int) := by unfold wrap64; omega
    have e3 : wrap64 ((i : Int) + 1) = ((i + 1 : Nat) : Int) := by unfold wrap64; omega
    rw [e1, e2, e3, xor_i64 n x (by omega) (by omega)]
    have hi := bit_of b.toNat i (by omega)
    have hx2 : x * 2 < 2 ^ (8 + (i + 1)) := by rw [← Nat.add_assoc, Nat.pow_succ]; omega
    have hn2 : n ^^^ x < 2 ^ 20 := Nat.xor_lt_two_pow hn (by omega)
    by_cases h : b.getLsbD i = true
    · rw [if_pos (hi.2 h), if_pos h, ih k (i + 1) (n ^^^ x) (x * 2) (by omega) hn2 hx2, Nat.xor_assoc]
    · rw [if_neg (mt hi.1 h), if_neg h, ih k (i + 1) n (x * 2) (by omega) hn hx2, Nat.zero_xor]
theorem RMul_l1 : ∀ m k n, m ≤ 3 → n < 2 ^ 20 → visorref04_Mul.l1 (m + 1 + k) ((n : Nat) : Int) ((m + 3 : Nat) : Int) = some ((R4 m n % 256 : Nat) : Int) := by
  intro m
  induction m with
  | zero =>
    intro k n hm hn
    rw [show 0 + 1 + k = k + 1 by omega]
    simp only [visorref04_Mul.l1, R4]
    rw [if_neg (by omega)]
    congr 1
  | succ m ih =>
    intro k n hm hn
    rw [show m + 1 + 1 + k = (m + 1 + k) + 1 by omega]
    simp only [visorref04_Mul.l1, R4]
    have hp : (2 : Nat) ^ m ≤ 2 ^ 6 := Nat.pow_le_pow_right (by decide) (by omega)
    have e1 : wrap64 (((m + 1 + 3 : Nat) : Int) - 4) = ((m : Nat) : Int) := by unfold wrap64; omega
    have e2 : wrap64 (((m + 1 + 3 : Nat) : Int) - 1) = ((m + 3 : Nat) : Int) := by unfold wrap64; omega
    have e3 : shl .i64 19 ((m : Nat) : Int) = ((19 * 2 ^ m : Nat) : Int) := by
      unfold shl
      have : min ((m : Int).toNat) IntKind.i64.bits = m := by
        show min ((m : Int).toNat) 64 = m
        omega
      rw [this, show (19 : Int) * 2 ^ m = ((19 * 2 ^ m : Nat) : Int) by simp]
      exact wrap_i64_nat _ (by omega)
    rw [if_pos (by omega), e1, e2, wu (m + 1 + 3) (by omega), wu m (by omega), if_pos (by omega), if_pos (show (0 : Int) ≤ ((m : Nat) : Int) by omega), e3, xor_i64 n _ (by omega) (by omega)]
    have hi := bit_of n (m + 1 + 3) (by omega)
    by_cases h : n.testBit (m + 4) = true
    · rw [if_pos (hi.2 h), if_pos h, ih k _ (by omega) (Nat.xor_lt_two_pow hn (by omega))]
    · rw [if_neg (mt hi.1 h), if_neg h, ih k _ (by omega) hn]
theorem tmod16 (a : BitVec 8) : Int.tmod (I8 a) 16 = I8 (a &&& 15#8) := by
  rw [Int.tmod_eq_emod_of_nonneg (I8_lo a)]
  unfold I8
  rw [← up_lo, ← low_nat]
  omega
theorem RMul_eq (a b : BitVec 8) (k : Nat) (hk : 9 ≤ k) : visorref04_Mul.f k (I8 a) (I8 b) = some (I8 (mul a b)) := by
  obtain ⟨k, rfl⟩ : ∃ m, k = 4 + 1 + (3 + 1 + m) := ⟨k - 9, by omega⟩
  unfold visorref04_Mul.f
  have ha := a.isLt
  have e1 : wrap64 (Int.tmod (I8 a) 16) = ((a.toNat % 16 : Nat) : Int) := by
    rw [Int.tmod_eq_emod_of_nonneg (I8_lo a)]; unfold I8 wrap64; omega
  have := RMul_l0 b 4 (3 + 1 + k) 0 0 (a.toNat % 16) rfl (by decide) (by omega)
  rw [e1]
  refine this.trans ?_
  rw [Nat.zero_xor]
  have h2 := RMul_l1 3 k (S4 4 b 0 (a.toNat % 16)) (by decide) (Nat.lt_of_lt_of_le (S4_lt 4 b 0 (a.toNat % 16) 8 (by omega)) (by decide))
  refine h2.trans ?_
  rw [ref_eq]; rfl
end Go.Proofs.Ytphdlidaigalkaa.NibE
namespace Go.Proofs.Ytphdlidaigalkaa.GfE
open Go.RowKit Go.Proofs.Ytphdlidaigalkaa.PNib Go.Proofs.YtphdlidaigalkaaW.PrintWords Go.Proofs.YtphdlidaigalkaaW.PrintLast Go.Proofs.YtphdlidaigalkaaW.PrintMore Byte GfMath
theorem Twice_eq (a : BitVec 8) : gf_Twice.f (I8 a) = some (I8 (T a)) := by
  unfold gf_Twice.f T
  rw [show Go.bits .and .u8 (I8 a) 128 = I8 (a &&& 128#8) from and8 a 128#8, twice8]
  by_cases h : a &&& 128#8 = 0#8
  · rw [if_pos (I8_zero.2 h), if_pos h]
  · rw [if_neg (mt I8_zero.1 h), if_neg h, show Go.bits .xor .u8 (I8 (a <<< 1)) 27 = I8 ((a <<< 1) ^^^ 27#8) from xor8 _ 27#8]
theorem Mul_l0 : ∀ n k (a b o : BitVec 8), n < k → b.toNat < 2 ^ n → gf_Mul.l0 k (I8 a) (I8 b) (I8 o) = some (I8 (o ^^^ P n a b)) := by
  intro n
  induction n with
  | zero =>
    intro k a b o hk hb
    obtain ⟨k, rfl⟩ : ∃ m, k = m + 1 := ⟨k - 1, by omega⟩
    obtain rfl : b = 0#8 := BitVec.eq_of_toNat_eq (by simp at hb ⊢; omega)
    simp only [gf_Mul.l0]
    rw [if_pos (by rfl)]
    simp [P]
  | succ n ih =>
    intro k a b o hk hb
    obtain ⟨k, rfl⟩ : ∃ m, k = m + 1 := ⟨k - 1, by omega⟩
    simp only [gf_Mul.l0]
    by_cases h0 : b = 0#8
    · subst h0
      rw [if_pos (by rfl), P_zero, BitVec.xor_zero]
    · rw [if_neg (mt I8_zero.1 h0)]
      have hb' : (b >>> 1).toNat < 2 ^ n := by rw [BitVec.toNat_ushiftRight, Nat.shiftRight_eq_div_pow]; rw [Nat.pow_succ] at hb; omega
      simp only [Twice_eq, Option.bind_some, half8, xor8, P]
      by_cases h1 : b.getLsbD 0 = true
      · rw [if_pos ((odd8 b).2 h1), ih k _ _ _ (by omega) hb', if_pos h1, BitVec.xor_assoc]
      · rw [if_neg (mt (odd8 b).1 h1), ih k _ _ _ (by omega) hb', if_neg h1, BitVec.zero_xor]
theorem Mul_eq (a b : BitVec 8) (k : Nat) (hk : 9 ≤ k) : gf_Mul.f k (I8 a) (I8 b) = some (I8 (mul a b)) := by
  unfold gf_Mul.f
  rw [zero8, Mul_l0 8 k a b 0#8 (by omega) b.isLt, BitVec.zero_xor]; rfl
theorem Pow_l0 : ∀ m k (a o : BitVec 8) (n : Nat), m + 10 ≤ k → n < 2 ^ m → n < 9223372036854775808 → gf_Pow.l0 k (I8 a) (n : Int) (I8 o) = some (I8 (mul o (pow a n))) := by
  intro m
  induction m with
  | zero =>
    intro k a o n hk hn _
    obtain ⟨k, rfl⟩ : ∃ m, k = m + 1 := ⟨k - 1, by omega⟩
    obtain rfl : n = 0 := by simp at hn; omega
    simp only [gf_Pow.l0]
    rw [if_neg (by omega)]
    simp [pow, mul_one]
  | succ m ih =>
    intro k a o n hk hn hn'
    obtain ⟨k, rfl⟩ : ∃ m, k = m + 1 := ⟨k - 1, by omega⟩
    simp only [gf_Pow.l0]
    by_cases h0 : n = 0
    · subst h0
      rw [if_neg (by omega)]; simp [pow, mul_one]
    · rw [if_pos (by omega), and_i64_one n hn']
      have h2 : ((n : Int) / 2) = ((n / 2 : Nat) : Int) := by omega
      have hlt : n / 2 < 2 ^ m := by rw [Nat.pow_succ] at hn; omega
      rw [Mul_eq a a k (by omega), Mul_eq o a k (by omega)]
      simp only [Option.bind_some, h2]
      by_cases h1 : n % 2 = 1
      · rw [if_pos (by omega), ih k _ _ _ (by omega) hlt (by omega), pow_sq, ← mul_assoc]
        congr 3
        conv => rhs; rw [show n = 1 + 2 * (n / 2) by omega, pow_add]
        simp [pow, one_mul]
      · rw [if_neg (by omega), ih k _ _ _ (by omega) hlt (by omega), pow_sq]
        congr 4
        omega
theorem Pow_eq (a : BitVec 8) (n : Nat) (hn : n < 9223372036854775808) (k : Nat) (hk : 80 ≤ k) : gf_Pow.f k (I8 a) (n : Int) = some (I8 (pow a n)) := by
  unfold gf_Pow.f
  rw [if_neg (by omega), one8, Pow_l0 63 k a 1#8 n (by omega) hn hn, one_mul]
theorem Inv_eq (a : BitVec 8) (k : Nat) (hk : 80 ≤ k) : gf_Inv.f k (I8 a) = some (I8 (pow a 254)) := by
  unfold gf_Inv.f
  rw [show (254 : Int) = ((254 : Nat) : Int) from rfl, Pow_eq a 254 (by decide) k hk]; rfl
theorem tmod2 (n : Nat) : Int.tmod (n : Int) 2 = ((n % 2 : Nat) : Int) := by
  rw [Int.tmod_eq_emod_of_nonneg (by omega)]; omega
theorem shr_nat (n i : Nat) (hi : i ≤ 64) : shr .i64 (n : Int) (i : Int) = ((n >>> i : Nat) : Int) := by
  unfold shr
  have : min ((i : Int).toNat) IntKind.i64.bits = i := by
    show min ((i : Int).toNat) 64 = i
    omega
  rw [this, Nat.shiftRight_eq_div_pow]
  rw [Int.natCast_ediv]
  simp
theorem bit_of (n i : Nat) (hi : i ≤ 64) : (Int.tmod (shr .i64 (n : Int) (i : Int)) 2 = 1) ↔ n.testBit i = true := by
  rw [shr_nat n i hi, tmod2, Nat.testBit_eq_decide_div_mod_eq, Nat.shiftRight_eq_div_pow, decide_eq_true_iff]
  generalize n / 2 ^ i = q
  omega
theorem wu (i : Nat) (hi : i < 18446744073709551616) : IntKind.u64.wrap (i : Int) = (i : Int) := wrap_u64_nat i hi
theorem RMul_l0 (b : BitVec 8) : ∀ m k i n x, i + m = 8 → n < 2 ^ 20 → x < 2 ^ (8 + i) →
    visorref03_Mul.l0 (m + 1 + k) (I8 b) ((n : Nat) : Int) ((x : Nat) : Int) ((i : Nat) : Int) = visorref03_Mul.l1 k ((n ^^^ S m b i x : Nat) : Int) 14 := by
  intro m
  induction m with
  | zero =>
    intro k i n x hi hn hx
    rw [show 0 + 1 + k = k + 1 by omega]
    simp only [visorref03_Mul.l0, S, Nat.xor_zero]
    rw [if_neg (by omega)]
  | succ m ih =>
    intro k i n x hi hn hx
    rw [show m + 1 + 1 + k = (m + 1 + k) + 1 by omega]
    simp only [visorref03_Mul.l0, S]
    have hp : (2 : Nat) ^ (8 + i) ≤ 2 ^ 15 := Nat.pow_le_pow_right (by decide) (by omega)
    rw [if_pos (by omega), wu i (by omega), if_pos (by omega)]
    have hb := b.isLt
    have e1 : wrap64 (I8 b) = ((b.toNat : Nat) : Int) := by unfold I8 wrap64; omega
    have e2 : wrap64 ((x : Int) * 2) = ((x * 2 : Nat) : Int) := by unfold wrap64; omega
    have e3 : wrap64 ((i : Int) + 1) = ((i + 1 : Nat) : Int) := by unfold wrap64; omega
    rw [e1, e2, e3, xor_i64 n x (by omega) (by omega)]
    have hi := bit_of b.toNat i (by omega)
    have hx2 : x * 2 < 2 ^ (8 + (i + 1)) := by rw [← Nat.add_assoc, Nat.pow_succ]; omega
    have hn2 : n ^^^ x < 2 ^ 20 := Nat.xor_lt_two_pow hn (by omega)
    by_cases h : b.getLsbD i = true
    · rw [if_pos (hi.2 h), if_pos h, ih k (i + 1) (n ^^^ x) (x * 2) (by omega) hn2 hx2, Nat.xor_assoc]
    · rw [if_neg (mt hi.1 h), if_neg h, ih k (i + 1) n (x * 2) (by omega) hn hx2, Nat.zero_xor]
theorem RMul_l1 : ∀ m k n, m ≤ 7 → n < 2 ^ 20 → visorref03_Mul.l1 (m + 1 + k) ((n : Nat) : Int) ((m + 7 : Nat) : Int) = some ((R2 m n % 256 : Nat) : Int) := by
  intro m
  induction m with
  | zero =>
    intro k n hm hn
    rw [show 0 + 1 + k = k + 1 by omega]
    simp only [visorref03_Mul.l1, R2]
    rw [if_neg (by omega)]
    congr 1
  | succ m ih =>
    intro k n hm hn
    rw [show m + 1 + 1 + k = (m + 1 + k) + 1 by omega]
    simp only [visorref03_Mul.l1, R2]
    have hp : (2 : Nat) ^ m ≤ 2 ^ 6 := Nat.pow_le_pow_right (by decide) (by omega)
    have e1 : wrap64 (((m + 1 + 7 : Nat) : Int) - 8) = ((m : Nat) : Int) := by unfold wrap64; omega
    have e2 : wrap64 (((m + 1 + 7 : Nat) : Int) - 1) = ((m + 7 : Nat) : Int) := by unfold wrap64; omega
    have e3 : shl .i64 283 ((m : Nat) : Int) = ((283 * 2 ^ m : Nat) : Int) := by
      unfold shl
      have : min ((m : Int).toNat) IntKind.i64.bits = m := by
        show min ((m : Int).toNat) 64 = m
        omega
      rw [this, show (283 : Int) * 2 ^ m = ((283 * 2 ^ m : Nat) : Int) by simp]
      exact wrap_i64_nat _ (by omega)
    rw [if_pos (by omega), e1, e2, wu (m + 1 + 7) (by omega), wu m (by omega), if_pos (by omega), if_pos (show (0 : Int) ≤ ((m : Nat) : Int) by omega), e3, xor_i64 n _ (by omega) (by omega)]
    have hi := bit_of n (m + 1 + 7) (by omega)
    by_cases h : n.testBit (m + 8) = true
    · rw [if_pos (hi.2 h), if_pos h, ih k _ (by omega) (Nat.xor_lt_two_pow hn (by omega))]
    · rw [if_neg (mt hi.1 h), if_neg h, ih k _ (by omega) hn]
theorem RMul_eq (a b : BitVec 8) (k : Nat) (hk : 17 ≤ k) : visorref03_Mul.f k (I8 a) (I8 b) = some (I8 (mul a b)) := by
  obtain ⟨k, rfl⟩ : ∃ m, k = 8 + 1 + (7 + 1 + m) := ⟨k - 17, by omega⟩
  unfold visorref03_Mul.f
  have ha := a.isLt
  have e1 : wrap64 (I8 a) = ((a.toNat : Nat) : Int) := by unfold I8 wrap64; omega
  have := RMul_l0 b 8 (7 + 1 + k) 0 0 a.toNat rfl (by decide) (by omega)
  rw [e1]
  refine this.trans ?_
  rw [Nat.zero_xor]
  have h2 := RMul_l1 7 k (S 8 b 0 a.toNat) (by decide) (Nat.lt_of_lt_of_le (S_lt 8 b 0 a.toNat 8 ha) (by decide))
  refine h2.trans ?_
  rw [show R2 7 (S 8 b 0 a.toNat) % 256 = rmul a b from rfl, rmul_eq]; rfl
end Go.Proofs.Ytphdlidaigalkaa.GfE
namespace Go.Proofs.Ytphdlidaigalkaa.TowE
open Go.RowKit Go.Proofs.Ytphdlidaigalkaa.PNib Go.Proofs.YtphdlidaigalkaaW.PrintWords Go.Proofs.YtphdlidaigalkaaW.PrintLast Go.Proofs.YtphdlidaigalkaaW.PrintMore Byte NibMath NibSq TowMath
theorem parts_all : ∀ a : BitVec 8, I8 a / 16 = I8 (hi a) ∧ Go.bits .and .u8 (I8 a) 15 = I8 (lw a) := by decide +kernel
theorem parts_eq (a : BitVec 8) : tower_parts.f (I8 a) = some (I8 (hi a), I8 (lw a)) := by
  unfold tower_parts.f
  rw [(parts_all a).1, (parts_all a).2]
theorem shl16 : ∀ a : BitVec 8, (I8 a * (16 : Int)) % (256 : Int) = I8 (a <<< 4) := by decide +kernel
theorem eight : (8 : Int) = I8 8#8 := rfl
theorem Mul_eq (a b : BitVec 8) (k : Nat) (hk : 5 ≤ k) : tower_Mul.f k (I8 a) (I8 b) = some (I8 (tmul a b)) := by
  unfold tower_Mul.f tmul
  simp only [parts_eq, Option.bind_some, xor8, NibE.Mul_eq _ _ k hk, eight, shl16, or8]
theorem Norm_eq (a : BitVec 8) (k : Nat) (hk : 5 ≤ k) : tower_Norm.f k (I8 a) = some (I8 (nor a)) := by
  unfold tower_Norm.f nor
  simp only [parts_eq, Option.bind_some, xor8, NibE.Mul_eq _ _ k hk, eight, sq_eq, sq_mul]
theorem ninv_eq (a : BitVec 8) : inv a = ninv a := by
  unfold inv ninv
  simp only [sq_mul]
theorem Inv_eq (a : BitVec 8) (k : Nat) (hk : 5 ≤ k) : tower_Inv.f k (I8 a) = some (I8 (tinv a)) := by
  unfold tower_Inv.f tinv
  simp only [parts_eq, Option.bind_some, xor8, NibE.Mul_eq _ _ k hk, Norm_eq _ k hk, NibE.Inv_eq _ k hk, ninv_eq, shl16, or8]
theorem Root_eq : tower_Root.f 400 = some 32 := by decide +kernel
theorem RRoot_eq : visorref06_Root.f 400 = some 32 := by decide +kernel
theorem rparts_all : ∀ a : BitVec 8, Int.tdiv (I8 a) 16 % 256 = I8 (hi a) ∧ Int.tmod (I8 a) 16 = I8 (lw a) := by decide +kernel
theorem add8 (a b : BitVec 8) : (I8 a + I8 b) % 256 = I8 (a + b) := by
  unfold I8
  rw [BitVec.toNat_add]
  omega
theorem RMul_eq (a b : BitVec 8) (k : Nat) (hk : 9 ≤ k) : visorref06_Mul.f k (I8 a) (I8 b) = some (I8 (tmul a b)) := by
  rw [← rmul_eq]
  unfold visorref06_Mul.f rmul
  simp only [(rparts_all a).1, (rparts_all a).2, (rparts_all b).1, (rparts_all b).2, NibE.RMul_eq _ _ k hk, Option.bind_some, xor8, eight, shl16, add8]
theorem ofNat8 (z : Nat) (h : z < 256) : ((z : Nat) : Int) = I8 (BitVec.ofNat 8 z) := by unfold I8; rw [BitVec.toNat_ofNat]; omega
theorem RInv_l0 (a : BitVec 8) : ∀ d k i, i + d = 256 → 1 ≤ i → (∀ j : BitVec 8, 1 ≤ j.toNat → j.toNat < i → tmul a j ≠ 1#8) → d + 10 ≤ k → visorref06_Inv.l0 k (I8 a) ((i : Nat) : Int) = some (I8 (tinv a)) := by
  intro d
  induction d with
  | zero =>
    intro k i hi h1 hn hk
    obtain ⟨k, rfl⟩ : ∃ m, k = m + 1 := ⟨k - 1, by omega⟩
    obtain rfl : i = 256 := by omega
    simp only [visorref06_Inv.l0]
    rw [if_neg (by omega)]
    rcases tinv_mul a with rfl | h
    · rw [tinv_zero]; rfl
    · refine absurd h (hn (tinv a) ?_ (tinv a).isLt)
      rcases Nat.eq_zero_or_pos (tinv a).toNat with h0 | h0
      · have : tinv a = 0#8 := BitVec.eq_of_toNat_eq (by simpa using h0)
        rw [this, tmul_zero] at h
        exact absurd h (by decide)
      · exact h0
  | succ d ih =>
    intro k i hi h1 hn hk
    obtain ⟨k, rfl⟩ : ∃ m, k = m + 1 := ⟨k - 1, by omega⟩
    simp only [visorref06_Inv.l0]
    rw [if_pos (by omega), show ((i : Nat) : Int) % 256 = I8 (BitVec.ofNat 8 i) from by rw [← ofNat8 i (by omega)]; omega, RMul_eq _ _ k (by omega), Option.bind_some, show wrap64 ((i : Nat) + 1) = ((i + 1 : Nat) : Int) from by rw [w64 (by omega) (by omega)]; omega]
    by_cases h : tmul a (BitVec.ofNat 8 i) = 1#8
    · rw [if_pos (I8_one.2 h), tinv_uniq a _ h]
    · rw [if_neg (mt I8_one.1 h)]
      refine ih k (i + 1) (by omega) (by omega) (fun j hj1 hj2 => ?_) (by omega)
      rcases Nat.lt_or_ge j.toNat i with h2 | h2
      · exact hn j hj1 h2
      · have : j = BitVec.ofNat 8 i := BitVec.eq_of_toNat_eq (by rw [BitVec.toNat_ofNat]; omega)
        rw [this]; exact h
theorem RInv_eq (a : BitVec 8) (k : Nat) (hk : 300 ≤ k) : visorref06_Inv.f k (I8 a) = some (I8 (tinv a)) :=
  RInv_l0 a 255 k 1 rfl (Nat.le_refl _) (fun j h1 h2 => by omega) (by omega)
/-- The powers of the root. -/
def cols : Nat → BitVec 8
  | 0 => 1#8 | 1 => 32#8 | 2 => 70#8 | 3 => 76#8 | 4 => 60#8 | 5 => 213#8 | 6 => 52#8 | 7 => 229#8 | _ => 0#8
theorem cols_next : ∀ i : Fin 7, tmul (cols i.val) 32#8 = cols (i.val + 1) := by decide +kernel
theorem In_units : ∀ i : Fin 8, visorref06_In.f 400 (I8 (1#8 <<< i.val)) = some (I8 (cols i.val)) := by decide +kernel
theorem awake_eq : visorlaw06_awake.f 100 = some true := by decide +kernel
end Go.Proofs.Ytphdlidaigalkaa.TowE
