/-
  What the printed functions of nib and of its reference come to, in terms of NibMath: for all bytes, and any number that is an int.
-/
import Derived.Test.YtahiphggoemdkaaNibMath
import Derived.Test.YtahiphggoemdkaaPNibx2
namespace Go.Proofs.Ytahiphggoemdkaa.NibEval
open Go.RowKit Go.Proofs.Ytahiphggoemdkaa.PNib Go.Proofs.YtahiphggoemdkaaW.PrintWords Go.Proofs.YtahiphggoemdkaaW.PrintLast Go.Proofs.YtahiphggoemdkaaW.PrintMore Byte NibMath NibSq

theorem twice_eq (a : BitVec 8) : nib_twice.f (I8 a) = some (I8 (Tn a)) := by
  unfold nib_twice.f Tn
  rw [show Go.bits .and .u8 (I8 a) 8 = I8 (a &&& 8#8) from and8 a 8#8, twice8]
  by_cases h : a &&& 8#8 = 0#8
  · rw [if_pos (I8_zero.2 h), if_pos h]
  · rw [if_neg (mt I8_zero.1 h), if_neg h, show Go.bits .xor .u8 (I8 (a <<< 1)) 3 = I8 ((a <<< 1) ^^^ 3#8) from xor8 _ 3#8, show Go.bits .and .u8 (I8 ((a <<< 1) ^^^ 3#8)) 15 = I8 (((a <<< 1) ^^^ 3#8) &&& 15#8) from and8 _ 15#8]
theorem Mul_l0 : ∀ n k (a b o : BitVec 8), n < k → b.toNat < 2 ^ n → nib_Mul.l0 k (I8 a) (I8 b) (I8 o) = some (I8 (o ^^^ Pn n a b)) := by
  intro n
  induction n with
  | zero =>
    intro k a b o hk hb
    obtain ⟨k, rfl⟩ : ∃ m, k = m + 1 := ⟨k - 1, by omega⟩
    obtain rfl : b = 0#8 := BitVec.eq_of_toNat_eq (by simp at hb ⊢; omega)
    simp only [nib_Mul.l0]
    rw [if_pos (by rfl)]
    simp [Pn]
  | succ n ih =>
    intro k a b o hk hb
    obtain ⟨k, rfl⟩ : ∃ m, k = m + 1 := ⟨k - 1, by omega⟩
    simp only [nib_Mul.l0]
    by_cases h0 : b = 0#8
    · subst h0
      rw [if_pos (by rfl), Pn_zero, BitVec.xor_zero]
    · rw [if_neg (mt I8_zero.1 h0)]
      have hb' : (b >>> 1).toNat < 2 ^ n := by rw [BitVec.toNat_ushiftRight, Nat.shiftRight_eq_div_pow]; rw [Nat.pow_succ] at hb; omega
      simp only [twice_eq, Option.bind_some, half8, xor8, Pn]
      by_cases h1 : b.getLsbD 0 = true
      · rw [if_pos ((odd8 b).2 h1), ih k _ _ _ (by omega) hb', if_pos h1, BitVec.xor_assoc]
      · rw [if_neg (mt (odd8 b).1 h1), ih k _ _ _ (by omega) hb', if_neg h1, BitVec.zero_xor]
theorem and15 (a : BitVec 8) : Go.bits .and .u8 (I8 a) 15 = I8 (a &&& 15#8) := and8 a 15#8
theorem nib_lt : ∀ a : BitVec 8, (a &&& 15#8).toNat < 2 ^ 4 := by decide +kernel
theorem Mul_eq (a b : BitVec 8) (k : Nat) (hk : 5 ≤ k) : nib_Mul.f k (I8 a) (I8 b) = some (I8 (mul a b)) := by
  unfold nib_Mul.f
  rw [zero8, and15, and15, Mul_l0 4 k _ _ 0#8 (by omega) (nib_lt b), BitVec.zero_xor]; rfl
theorem Pow_l0 : ∀ m k (a o : BitVec 8) (n : Nat), m + 6 ≤ k → n < 2 ^ m → n < 9223372036854775808 → nib_Pow.l0 k (I8 a) (n : Int) (I8 o) = some (I8 (if n = 0 then o else mul o (pow a n))) := by
  intro m
  induction m with
  | zero =>
    intro k a o n hk hn _
    obtain ⟨k, rfl⟩ : ∃ m, k = m + 1 := ⟨k - 1, by omega⟩
    obtain rfl : n = 0 := by simp at hn; omega
    simp only [nib_Pow.l0]
    rw [if_neg (by omega)]
    simp
  | succ m ih =>
    intro k a o n hk hn hn'
    obtain ⟨k, rfl⟩ : ∃ m, k = m + 1 := ⟨k - 1, by omega⟩
    simp only [nib_Pow.l0]
    by_cases h0 : n = 0
    · subst h0
      rw [if_neg (by omega)]; simp
    · rw [if_pos (by omega), and_i64_one n hn', if_neg h0]
      have h2 : ((n : Int) / 2) = ((n / 2 : Nat) : Int) := by omega
      have hlt : n / 2 < 2 ^ m := by rw [Nat.pow_succ] at hn; omega
      rw [sq_eq, Mul_eq o a k (by omega)]
      simp only [Option.bind_some, h2]
      have one : pow a 1 = mul 1#8 a := rfl
      by_cases h1 : n % 2 = 1
      · rw [if_pos (by omega), ih k _ _ _ (by omega) hlt (by omega), pow_sq]
        congr 2
        by_cases h3 : n / 2 = 0
        · rw [if_pos h3]
          obtain rfl : n = 1 := by omega
          rw [one, mul_assoc, mul_one, mul_low]
        · rw [if_neg h3, show pow a n = mul (pow a 1) (pow a (2 * (n / 2))) by rw [← pow_add]; congr 1; omega, one, mul_assoc, mul_assoc o, mul_one]
          rw [mul_low]
      · rw [if_neg (by omega), ih k _ _ _ (by omega) hlt (by omega), pow_sq, if_neg (by omega)]
        congr 4 <;> omega
theorem Pow_eq (a : BitVec 8) (n : Nat) (hn : n < 9223372036854775808) (k : Nat) (hk : 80 ≤ k) : nib_Pow.f k (I8 a) (n : Int) = some (I8 (pow a n)) := by
  unfold nib_Pow.f
  rw [if_neg (by omega), one8, Pow_l0 63 k a 1#8 n (by omega) hn hn]
  by_cases h : n = 0
  · subst h; rfl
  · rw [if_neg h, one_mul, pow_nib]
theorem Inv_eq (a : BitVec 8) (k : Nat) (hk : 5 ≤ k) : nib_Inv.f k (I8 a) = some (I8 (inv a)) := by
  unfold nib_Inv.f inv
  simp only [sq_eq, Option.bind_some, Mul_eq _ _ k hk]
theorem Mark_l0 : ∀ d k i (a o : BitVec 8), i + d = 4 → d < k → nib_Mark.l0 k (I8 a) (I8 o) ((i : Nat) : Int) = some (I8 (NibMath.mark d a o)) := by
  intro d
  induction d with
  | zero =>
    intro k i a o hi hk
    obtain ⟨k, rfl⟩ : ∃ m, k = m + 1 := ⟨k - 1, by omega⟩
    simp only [nib_Mark.l0]
    rw [if_neg (by omega)]; rfl
  | succ d ih =>
    intro k i a o hi hk
    obtain ⟨k, rfl⟩ : ∃ m, k = m + 1 := ⟨k - 1, by omega⟩
    simp only [nib_Mark.l0]
    rw [if_pos (by omega), sq_eq]
    simp only [Option.bind_some]
    rw [and15, xor8, show wrap64 ((i : Int) + 1) = ((i + 1 : Nat) : Int) by unfold wrap64; omega, ih k (i + 1) _ _ (by omega) (by omega)]; rfl
theorem Mark_eq (a : BitVec 8) (k : Nat) (hk : 5 ≤ k) : nib_Mark.f k (I8 a) = some (I8 (NibMath.mark 4 a 0#8)) := by
  unfold nib_Mark.f
  exact Mark_l0 4 k 0 a 0#8 rfl (by omega)
theorem Apart_eq (a : BitVec 8) (k : Nat) (hk : 5 ≤ k) : nib_Apart.f k (I8 a) = some (NibMath.mark 4 a 0#8 == 1#8) := by
  unfold nib_Apart.f
  rw [Mark_eq a k hk]
  simp only [Option.bind_some]
  congr 1
  rw [Bool.eq_iff_iff, beq_iff_eq, beq_iff_eq, I8_one]
/-- The lesser half. -/
def half (a : BitVec 8) : Nat → Nat → BitVec 8 × Bool
  | 0, _ => (0#8, false)
  | d + 1, z => if sq (BitVec.ofNat 8 z) ^^^ BitVec.ofNat 8 z = a &&& 15#8 then (BitVec.ofNat 8 z, true) else half a d (z + 1)
theorem ofNat8 (z : Nat) (h : z < 256) : ((z : Nat) : Int) = I8 (BitVec.ofNat 8 z) := by unfold I8; rw [BitVec.toNat_ofNat]; omega
theorem Half_l0 (a : BitVec 8) : ∀ d k z, z + d = 16 → d < k → nib_Half.l0 k (I8 a) ((z : Nat) : Int) = some (I8 (half a d z).1, (half a d z).2) := by
  intro d
  induction d with
  | zero =>
    intro k z hz hk
    obtain ⟨k, rfl⟩ : ∃ m, k = m + 1 := ⟨k - 1, by omega⟩
    simp only [nib_Half.l0]
    rw [if_neg (by omega)]; rfl
  | succ d ih =>
    intro k z hz hk
    obtain ⟨k, rfl⟩ : ∃ m, k = m + 1 := ⟨k - 1, by omega⟩
    simp only [nib_Half.l0]
    rw [if_pos (by omega), show ((z : Int) + 1) % 256 = ((z + 1 : Nat) : Int) by omega, ih k (z + 1) (by omega) (by omega), ofNat8 z (by omega), sq_eq]
    simp only [Option.bind_some, half]
    rw [and15, xor8]
    by_cases h : sq (BitVec.ofNat 8 z) ^^^ BitVec.ofNat 8 z = a &&& 15#8
    · rw [if_pos (I8_eq_iff.2 h), if_pos h]
    · rw [if_neg (mt I8_eq_iff.1 h), if_neg h]
theorem Half_eq (a : BitVec 8) (k : Nat) (hk : 17 ≤ k) : nib_Half.f k (I8 a) = some (I8 (half a 16 0).1, (half a 16 0).2) := by
  unfold nib_Half.f
  exact Half_l0 a 16 k 0 rfl (by omega)

theorem tmod2 (n : Nat) : Int.tmod (n : Int) 2 = ((n % 2 : Nat) : Int) := by
  rw [Int.tmod_eq_emod_of_nonneg (by omega)]; omega
theorem shr_nat (n i : Nat) (hi : i ≤ 64) : shr .i64 (n : Int) (i : Int) = ((n >>> i : Nat) : Int) := by
  unfold shr
  have : min ((i : Int).toNat) IntKind.i64.bits = i := by
    show min ((i : Int).toNat) 64 = i
    omega
  rw [this, Nat.shiftRight_eq_div_pow]
  rw [Int.natCast_ediv]
  simp
theorem bit_of (n i : Nat) (hi : i ≤ 64) : (Int.tmod (shr .i64 (n : Int) (i : Int)) 2 = 1) ↔ n.testBit i = true := by
  rw [shr_nat n i hi, tmod2, Nat.testBit_eq_decide_div_mod_eq, Nat.shiftRight_eq_div_pow, decide_eq_true_iff]
  generalize n / 2 ^ i = q
  omega
theorem wu (i : Nat) (hi : i < 18446744073709551616) : IntKind.u64.wrap (i : Int) = (i : Int) := wrap_u64_nat i hi
theorem RMul_l0 (b : BitVec 8) : ∀ m k i n x, i + m = 4 → n < 2 ^ 20 → x < 2 ^ (8 + i) →
    visorref04_Mul.l0 (m + 1 + k) (I8 b) ((n : Nat) : Int) ((x : Nat) : Int) ((i : Nat) : Int) = visorref04_Mul.l1 k ((n ^^^ S4 m b i x : Nat) : Int) 6 := by
  intro m
  induction m with
  | zero =>
    intro k i n x hi hn hx
    rw [show 0 + 1 + k = k + 1 by omega]
    simp only [visorref04_Mul.l0, S4, Nat.xor_zero]
    rw [if_neg (by omega)]
  | succ m ih =>
    intro k i n x hi hn hx
    rw [show m + 1 + 1 + k = (m + 1 + k) + 1 by omega]
    simp only [visorref04_Mul.l0, S4]
    have hp : (2 : Nat) ^ (8 + i) ≤ 2 ^ 15 := Nat.pow_le_pow_right (by decide) (by omega)
    rw [if_pos (by omega), wu i (by omega), if_pos (by omega)]
    have hb := b.isLt
    have e1 : wrap64 (I8 b) = ((b.toNat : Nat) : Int) := by unfold I8 wrap64; omega
    have e2 : wrap64 ((x : Int) * 2) = ((x * 2 : Nat) : Int) := by unfold wrap64; omega
    have e3 : wrap64 ((i : Int) + 1) = ((i + 1 : Nat) : Int) := by unfold wrap64; omega
    rw [e1, e2, e3, xor_i64 n x (by omega) (by omega)]
    have hi := bit_of b.toNat i (by omega)
    have hx2 : x * 2 < 2 ^ (8 + (i + 1)) := by rw [← Nat.add_assoc, Nat.pow_succ]; omega
    have hn2 : n ^^^ x < 2 ^ 20 := Nat.xor_lt_two_pow hn (by omega)
    by_cases h : b.getLsbD i = true
    · rw [if_pos (hi.2 h), if_pos h, ih k (i + 1) (n ^^^ x) (x * 2) (by omega) hn2 hx2, Nat.xor_assoc]
    · rw [if_neg (mt hi.1 h), if_neg h, ih k (i + 1) n (x * 2) (by omega) hn hx2, Nat.zero_xor]
theorem RMul_l1 : ∀ m k n, m ≤ 3 → n < 2 ^ 20 → visorref04_Mul.l1 (m + 1 + k) ((n : Nat) : Int) ((m + 3 : Nat) : Int) = some ((R4 m n % 256 : Nat) : Int) := by
  intro m
  induction m with
  | zero =>
    intro k n hm hn
    rw [show 0 + 1 + k = k + 1 by omega]
    simp only [visorref04_Mul.l1, R4]
    rw [if_neg (by omega)]
    congr 1
  | succ m ih =>
    intro k n hm hn
    rw [show m + 1 + 1 + k = (m + 1 + k) + 1 by omega]
    simp only [visorref04_Mul.l1, R4]
    have hp : (2 : Nat) ^ m ≤ 2 ^ 6 := Nat.pow_le_pow_right (by decide) (by omega)
    have e1 : wrap64 (((m + 1 + 3 : Nat) : Int) - 4) = ((m : Nat) : Int) := by unfold wrap64; omega
    have e2 : wrap64 (((m + 1 + 3 : Nat) : Int) - 1) = ((m + 3 : Nat) : Int) := by unfold wrap64; omega
    have e3 : shl .i64 19 ((m : Nat) : Int) = ((19 * 2 ^ m : Nat) : Int) := by
      unfold shl
      have : min ((m : Int).toNat) IntKind.i64.bits = m := by
        show min ((m : Int).toNat) 64 = m
        omega
      rw [this, show (19 : Int) * 2 ^ m = ((19 * 2 ^ m : Nat) : Int) by simp]
      exact wrap_i64_nat _ (by omega)
    rw [if_pos (by omega), e1, e2, wu (m + 1 + 3) (by omega), wu m (by omega), if_pos (by omega), if_pos (show (0 : Int) ≤ ((m : Nat) : Int) by omega), e3, xor_i64 n _ (by omega) (by omega)]
    have hi := bit_of n (m + 1 + 3) (by omega)
    by_cases h : n.testBit (m + 4) = true
    · rw [if_pos (hi.2 h), if_pos h, ih k _ (by omega) (Nat.xor_lt_two_pow hn (by omega))]
    · rw [if_neg (mt hi.1 h), if_neg h, ih k _ (by omega) hn]
theorem tmod16 (a : BitVec 8) : Int.tmod (I8 a) 16 = I8 (a &&& 15#8) := by
  rw [Int.tmod_eq_emod_of_nonneg (I8_lo a)]
  unfold I8
  rw [← up_lo, ← low_nat]
  omega
theorem RMul_eq (a b : BitVec 8) (k : Nat) (hk : 9 ≤ k) : visorref04_Mul.f k (I8 a) (I8 b) = some (I8 (mul a b)) := by
  obtain ⟨k, rfl⟩ : ∃ m, k = 4 + 1 + (3 + 1 + m) := ⟨k - 9, by omega⟩
  unfold visorref04_Mul.f
  have ha := a.isLt
  have e1 : wrap64 (Int.tmod (I8 a) 16) = ((a.toNat % 16 : Nat) : Int) := by
    rw [Int.tmod_eq_emod_of_nonneg (I8_lo a)]; unfold I8 wrap64; omega
  have := RMul_l0 b 4 (3 + 1 + k) 0 0 (a.toNat % 16) rfl (by decide) (by omega)
  rw [e1]
  refine this.trans ?_
  rw [Nat.zero_xor]
  have h2 := RMul_l1 3 k (S4 4 b 0 (a.toNat % 16)) (by decide) (Nat.lt_of_lt_of_le (S4_lt 4 b 0 (a.toNat % 16) 8 (by omega)) (by decide))
  refine h2.trans ?_
  rw [ref_eq]; rfl
theorem RPow_l0 (a : BitVec 8) (n : Int) (t : Nat) (h1 : 1 ≤ n) (h2 : n < 9223372036854775808) (ht : t = ((n.toNat - 1) % 15 + 1)) :
    ∀ d k i (o : BitVec 8), i + d = t → d + 10 ≤ k → visorref04_Pow.l0 k (I8 a) n (I8 o) ((i : Nat) : Int) = some (I8 (if d = 0 then o else mul o (pow a d))) := by
  have e0 : wrap64 (Int.tmod (wrap64 (n - 1)) 15 + 1) = ((t : Nat) : Int) := by
    rw [w64 (x := n - 1) (by omega) (by omega), Int.tmod_eq_emod_of_nonneg (by omega), w64 (by omega) (by omega)]
    omega
  intro d
  induction d with
  | zero =>
    intro k i o hi hk
    obtain ⟨k, rfl⟩ : ∃ m, k = m + 1 := ⟨k - 1, by omega⟩
    simp only [visorref04_Pow.l0]
    rw [e0, if_neg (by omega)]
    simp
  | succ d ih =>
    intro k i o hi hk
    obtain ⟨k, rfl⟩ : ∃ m, k = m + 1 := ⟨k - 1, by omega⟩
    simp only [visorref04_Pow.l0]
    rw [e0, if_pos (by omega), RMul_eq o a k (by omega)]
    simp only [Option.bind_some]
    rw [show wrap64 ((i : Int) + 1) = ((i + 1 : Nat) : Int) by unfold wrap64; omega, ih k (i + 1) _ (by omega) (by omega)]
    congr 2
    have one : pow a 1 = mul 1#8 a := rfl
    by_cases h3 : d = 0
    · subst h3
      rw [if_pos rfl, if_neg (by omega), show pow a (0 + 1) = mul 1#8 a from rfl, mul_assoc o 1#8, mul_one, mul_low]
    · rw [if_neg h3, if_neg (by omega), show pow a (d + 1) = mul (pow a 1) (pow a d) by rw [← pow_add]; congr 1; omega, one, mul_assoc, mul_assoc o, mul_one]
      rw [mul_low]
theorem RPow_eq (a : BitVec 8) (n : Nat) (hn : n < 9223372036854775808) (k : Nat) (hk : 40 ≤ k) : visorref04_Pow.f k (I8 a) (n : Int) = some (I8 (pow a n)) := by
  unfold visorref04_Pow.f
  rw [if_neg (by omega)]
  by_cases h0 : n = 0
  · subst h0; rw [if_pos (by rfl)]; rfl
  · rw [if_neg (by omega), one8]
    have := RPow_l0 a n ((n - 1) % 15 + 1) (by omega) (by omega) (by omega) ((n - 1) % 15 + 1) k 0 1#8 (by omega) (by omega)
    refine this.trans ?_
    rw [if_neg (by omega), one_mul, pow_nib, ← pow_red a n (by omega)]
theorem Pow_neg (a n : Int) (h : n < 0) (k : Nat) : nib_Pow.f k a n = some 0 := by unfold nib_Pow.f; rw [if_pos h]
theorem RPow_neg (a n : Int) (h : n < 0) (k : Nat) : visorref04_Pow.f k a n = some 0 := by unfold visorref04_Pow.f; rw [if_pos h]
theorem RInv_l0 (a : BitVec 8) : ∀ d k i, i + d = 16 → d + 10 ≤ k → visorref04_Inv.l0 k (I8 a) ((i : Nat) : Int) = some (((first (fun i => mul a (BitVec.ofNat 8 i) == 1#8) d i).getD 0 : Nat) : Int) := by
  intro d
  induction d with
  | zero =>
    intro k i hi hk
    obtain ⟨k, rfl⟩ : ∃ m, k = m + 1 := ⟨k - 1, by omega⟩
    simp only [visorref04_Inv.l0]
    rw [if_neg (by omega)]; rfl
  | succ d ih =>
    intro k i hi hk
    obtain ⟨k, rfl⟩ : ∃ m, k = m + 1 := ⟨k - 1, by omega⟩
    simp only [visorref04_Inv.l0, first]
    rw [if_pos (by omega), show ((i : Int)) % 256 = I8 (BitVec.ofNat 8 i) by rw [← ofNat8 i (by omega)]; omega, RMul_eq a _ k (by omega)]
    simp only [Option.bind_some]
    by_cases h : mul a (BitVec.ofNat 8 i) = 1#8
    · rw [if_pos (I8_one.2 h), if_pos (beq_iff_eq.2 h), ← ofNat8 i (by omega)]; rfl
    · rw [if_neg (mt I8_one.1 h), if_neg (by rw [beq_iff_eq]; exact h), show wrap64 ((i : Int) + 1) = ((i + 1 : Nat) : Int) by unfold wrap64; omega, ih k (i + 1) (by omega) (by omega)]
theorem RInv_eq (a : BitVec 8) (k : Nat) (hk : 30 ≤ k) : visorref04_Inv.f k (I8 a) = some (I8 (inv a)) := by
  unfold visorref04_Inv.f
  have := RInv_l0 a 15 k 1 rfl (by omega)
  rw [inv_first] at this
  exact this
theorem RMark_eq (a : BitVec 8) (k : Nat) (hk : 40 ≤ k) : visorref04_Mark.f k (I8 a) = some (I8 (NibMath.mark 4 a 0#8)) := by
  unfold visorref04_Mark.f
  rw [show (2 : Int) = ((2 : Nat) : Int) from rfl, show (4 : Int) = ((4 : Nat) : Int) from rfl, show (8 : Int) = ((8 : Nat) : Int) from rfl, RPow_eq a 2 (by decide) k hk, RPow_eq a 4 (by decide) k hk, RPow_eq a 8 (by decide) k hk]
  simp only [Option.bind_some]
  rw [tmod16, xor8, xor8, xor8, mark_ref]
theorem RApart_l0 (a : BitVec 8) : ∀ d k z, z + d = 16 → d + 10 ≤ k → visorref04_Apart.l0 k (I8 a) ((z : Nat) : Int) = some (first (fun z => mul (BitVec.ofNat 8 z) (BitVec.ofNat 8 z) ^^^ BitVec.ofNat 8 z == a &&& 15#8) d z).isNone := by
  intro d
  induction d with
  | zero =>
    intro k z hz hk
    obtain ⟨k, rfl⟩ : ∃ m, k = m + 1 := ⟨k - 1, by omega⟩
    simp only [visorref04_Apart.l0]
    rw [if_neg (by omega)]; rfl
  | succ d ih =>
    intro k z hz hk
    obtain ⟨k, rfl⟩ : ∃ m, k = m + 1 := ⟨k - 1, by omega⟩
    simp only [visorref04_Apart.l0, first]
    rw [if_pos (by omega), show ((z : Int)) % 256 = I8 (BitVec.ofNat 8 z) by rw [← ofNat8 z (by omega)]; omega, RMul_eq _ _ k (by omega)]
    simp only [Option.bind_some]
    rw [tmod16, xor8]
    by_cases h : mul (BitVec.ofNat 8 z) (BitVec.ofNat 8 z) ^^^ BitVec.ofNat 8 z = a &&& 15#8
    · rw [if_pos (I8_eq_iff.2 h), if_pos (beq_iff_eq.2 h)]; rfl
    · rw [if_neg (mt I8_eq_iff.1 h), if_neg (by rw [beq_iff_eq]; exact h), show wrap64 ((z : Int) + 1) = ((z + 1 : Nat) : Int) by unfold wrap64; omega, ih k (z + 1) (by omega) (by omega)]
theorem RApart_eq (a : BitVec 8) (k : Nat) (hk : 30 ≤ k) : visorref04_Apart.f k (I8 a) = some (NibMath.mark 4 a 0#8 == 1#8) := by
  unfold visorref04_Apart.f
  have := RApart_l0 a 16 k 0 rfl (by omega)
  rw [apart_ref] at this
  exact this
theorem awake_eq (k : Nat) (hk : 10 ≤ k) : visorlaw04_awake.f k = some true := by
  unfold visorlaw04_awake.f
  rw [show (8 : Int) = I8 8#8 from rfl, show (2 : Int) = I8 2#8 from rfl, Mul_eq _ _ k (by omega), Mark_eq _ k (by omega)]
  simp only [Option.bind_some]
  rw [show mul 8#8 2#8 = 3#8 by decide +kernel, show NibMath.mark 4 8#8 0#8 = 1#8 by decide +kernel]
  rfl
end Go.Proofs.Ytahiphggoemdkaa.NibEval
