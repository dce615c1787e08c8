/-
  What the printed functions of gf and of its reference come to, in terms of GfMath: for all bytes, and any number that is an int.
-/
import Derived.Test.YtahiphggoemdkaaByte
import Derived.Test.YtahiphggoemdkaaGfMath
import Derived.Test.YtahiphggoemdkaaPGfTellsx2
namespace Go.Proofs.Ytahiphggoemdkaa.GfEval
open Go.RowKit Go.Proofs.Ytahiphggoemdkaa.PGfTells Go.Proofs.YtahiphggoemdkaaW.PrintWords Go.Proofs.YtahiphggoemdkaaW.PrintLast Go.Proofs.YtahiphggoemdkaaW.PrintMore Byte GfMath

theorem Twice_eq (a : BitVec 8) : gf_Twice.f (I8 a) = some (I8 (T a)) := by
  unfold gf_Twice.f T
  rw [show Go.bits .and .u8 (I8 a) 128 = I8 (a &&& 128#8) from and8 a 128#8, twice8]
  by_cases h : a &&& 128#8 = 0#8
  · rw [if_pos (I8_zero.2 h), if_pos h]
  · rw [if_neg (mt I8_zero.1 h), if_neg h, show Go.bits .xor .u8 (I8 (a <<< 1)) 27 = I8 ((a <<< 1) ^^^ 27#8) from xor8 _ 27#8]

theorem Mul_l0 : ∀ n k (a b o : BitVec 8), n < k → b.toNat < 2 ^ n → gf_Mul.l0 k (I8 a) (I8 b) (I8 o) = some (I8 (o ^^^ P n a b)) := by
  intro n
  induction n with
  | zero =>
    intro k a b o hk hb
    obtain ⟨k, rfl⟩ : ∃ m, k = m + 1 := ⟨k - 1, by omega⟩
    obtain rfl : b = 0#8 := BitVec.eq_of_toNat_eq (by simp at hb ⊢; omega)
    simp only [gf_Mul.l0]
    rw [if_pos (by rfl)]
    simp [P]
  | succ n ih =>
    intro k a b o hk hb
    obtain ⟨k, rfl⟩ : ∃ m, k = m + 1 := ⟨k - 1, by omega⟩
    simp only [gf_Mul.l0]
    by_cases h0 : b = 0#8
    · subst h0
      rw [if_pos (by rfl), P_zero, BitVec.xor_zero]
    · rw [if_neg (mt I8_zero.1 h0)]
      have hb' : (b >>> 1).toNat < 2 ^ n := by rw [BitVec.toNat_ushiftRight, Nat.shiftRight_eq_div_pow]; rw [Nat.pow_succ] at hb; omega
      simp only [Twice_eq, Option.bind_some, half8, xor8, P]
      by_cases h1 : b.getLsbD 0 = true
      · rw [if_pos ((odd8 b).2 h1), ih k _ _ _ (by omega) hb', if_pos h1, BitVec.xor_assoc]
      · rw [if_neg (mt (odd8 b).1 h1), ih k _ _ _ (by omega) hb', if_neg h1, BitVec.zero_xor]
theorem Mul_eq (a b : BitVec 8) (k : Nat) (hk : 9 ≤ k) : gf_Mul.f k (I8 a) (I8 b) = some (I8 (mul a b)) := by
  unfold gf_Mul.f
  rw [zero8, Mul_l0 8 k a b 0#8 (by omega) b.isLt, BitVec.zero_xor]; rfl

theorem Pow_l0 : ∀ m k (a o : BitVec 8) (n : Nat), m + 10 ≤ k → n < 2 ^ m → n < 9223372036854775808 → gf_Pow.l0 k (I8 a) (n : Int) (I8 o) = some (I8 (mul o (pow a n))) := by
  intro m
  induction m with
  | zero =>
    intro k a o n hk hn _
    obtain ⟨k, rfl⟩ : ∃ m, k = m + 1 := ⟨k - 1, by omega⟩
    obtain rfl : n = 0 := by simp at hn; omega
    simp only [gf_Pow.l0]
    rw [if_neg (by omega)]
    simp [pow, mul_one]
  | succ m ih =>
    intro k a o n hk hn hn'
    obtain ⟨k, rfl⟩ : ∃ m, k = m + 1 := ⟨k - 1, by omega⟩
    simp only [gf_Pow.l0]
    by_cases h0 : n = 0
    · subst h0
      rw [if_neg (by omega)]; simp [pow, mul_one]
    · rw [if_pos (by omega), and_i64_one n hn']
      have h2 : ((n : Int) / 2) = ((n / 2 : Nat) : Int) := by omega
      have hlt : n / 2 < 2 ^ m := by rw [Nat.pow_succ] at hn; omega
      rw [Mul_eq a a k (by omega), Mul_eq o a k (by omega)]
      simp only [Option.bind_some, h2]
      by_cases h1 : n % 2 = 1
      · rw [if_pos (by omega), ih k _ _ _ (by omega) hlt (by omega), pow_sq, ← mul_assoc]
        congr 3
        conv => rhs; rw [show n = 1 + 2 * (n / 2) by omega, pow_add]
        simp [pow, one_mul]
      · rw [if_neg (by omega), ih k _ _ _ (by omega) hlt (by omega), pow_sq]
        congr 4
        omega
theorem Pow_eq (a : BitVec 8) (n : Nat) (hn : n < 9223372036854775808) (k : Nat) (hk : 80 ≤ k) : gf_Pow.f k (I8 a) (n : Int) = some (I8 (pow a n)) := by
  unfold gf_Pow.f
  rw [if_neg (by omega), one8, Pow_l0 63 k a 1#8 n (by omega) hn hn, one_mul]
theorem Inv_eq (a : BitVec 8) (k : Nat) (hk : 80 ≤ k) : gf_Inv.f k (I8 a) = some (I8 (pow a 254)) := by
  unfold gf_Inv.f
  rw [show (254 : Int) = ((254 : Nat) : Int) from rfl, Pow_eq a 254 (by decide) k hk]; rfl

theorem tmod2 (n : Nat) : Int.tmod (n : Int) 2 = ((n % 2 : Nat) : Int) := by
  rw [Int.tmod_eq_emod_of_nonneg (by omega)]; omega
theorem shr_nat (n i : Nat) (hi : i ≤ 64) : shr .i64 (n : Int) (i : Int) = ((n >>> i : Nat) : Int) := by
  unfold shr
  have : min ((i : Int).toNat) IntKind.i64.bits = i := by
    show min ((i : Int).toNat) 64 = i
    omega
  rw [this, Nat.shiftRight_eq_div_pow]
  rw [Int.natCast_ediv]
  simp
theorem bit_of (n i : Nat) (hi : i ≤ 64) : (Int.tmod (shr .i64 (n : Int) (i : Int)) 2 = 1) ↔ n.testBit i = true := by
  rw [shr_nat n i hi, tmod2, Nat.testBit_eq_decide_div_mod_eq, Nat.shiftRight_eq_div_pow, decide_eq_true_iff]
  generalize n / 2 ^ i = q
  omega
theorem wu (i : Nat) (hi : i < 18446744073709551616) : IntKind.u64.wrap (i : Int) = (i : Int) := wrap_u64_nat i hi

theorem RMul_l0 (b : BitVec 8) : ∀ m k i n x, i + m = 8 → n < 2 ^ 20 → x < 2 ^ (8 + i) →
    visorref03_Mul.l0 (m + 1 + k) (I8 b) ((n : Nat) : Int) ((x : Nat) : Int) ((i : Nat) : Int) = visorref03_Mul.l1 k ((n ^^^ S m b i x : Nat) : Int) 14 := by
  intro m
  induction m with
  | zero =>
    intro k i n x hi hn hx
    rw [show 0 + 1 + k = k + 1 by omega]
    simp only [visorref03_Mul.l0, S, Nat.xor_zero]
    rw [if_neg (by omega)]
  | succ m ih =>
    intro k i n x hi hn hx
    rw [show m + 1 + 1 + k = (m + 1 + k) + 1 by omega]
    simp only [visorref03_Mul.l0, S]
    have hp : (2 : Nat) ^ (8 + i) ≤ 2 ^ 15 := Nat.pow_le_pow_right (by decide) (by omega)
    rw [if_pos (by omega), wu i (by omega), if_pos (by omega)]
    have hb := b.isLt
    have e1 : wrap64 (I8 b) = ((b.toNat : Nat) : Int) := by unfold I8 wrap64; omega
    have e2 : wrap64 ((x : Int) * 2) = ((x * 2 : Nat) : Int) := by unfold wrap64; omega
    have e3 : wrap64 ((i : Int) + 1) = ((i + 1 : Nat) : Int) := by unfold wrap64; omega
    rw [e1, e2, e3, xor_i64 n x (by omega) (by omega)]
    have hi := bit_of b.toNat i (by omega)
    have hx2 : x * 2 < 2 ^ (8 + (i + 1)) := by rw [← Nat.add_assoc, Nat.pow_succ]; omega
    have hn2 : n ^^^ x < 2 ^ 20 := Nat.xor_lt_two_pow hn (by omega)
    by_cases h : b.getLsbD i = true
    · rw [if_pos (hi.2 h), if_pos h, ih k (i + 1) (n ^^^ x) (x * 2) (by omega) hn2 hx2, Nat.xor_assoc]
    · rw [if_neg (mt hi.1 h), if_neg h, ih k (i + 1) n (x * 2) (by omega) hn hx2, Nat.zero_xor]
theorem RMul_l1 : ∀ m k n, m ≤ 7 → n < 2 ^ 20 → visorref03_Mul.l1 (m + 1 + k) ((n : Nat) : Int) ((m + 7 : Nat) : Int) = some ((R2 m n % 256 : Nat) : Int) := by
  intro m
  induction m with
  | zero =>
    intro k n hm hn
    rw [show 0 + 1 + k = k + 1 by omega]
    simp only [visorref03_Mul.l1, R2]
    rw [if_neg (by omega)]
    congr 1
  | succ m ih =>
    intro k n hm hn
    rw [show m + 1 + 1 + k = (m + 1 + k) + 1 by omega]
    simp only [visorref03_Mul.l1, R2]
    have hp : (2 : Nat) ^ m ≤ 2 ^ 6 := Nat.pow_le_pow_right (by decide) (by omega)
    have e1 : wrap64 (((m + 1 + 7 : Nat) : Int) - 8) = ((m : Nat) : Int) := by unfold wrap64; omega
    have e2 : wrap64 (((m + 1 + 7 : Nat) : Int) - 1) = ((m + 7 : Nat) : Int) := by unfold wrap64; omega
    have e3 : shl .i64 283 ((m : Nat) : Int) = ((283 * 2 ^ m : Nat) : Int) := by
      unfold shl
      have : min ((m : Int).toNat) IntKind.i64.bits = m := by
        show min ((m : Int).toNat) 64 = m
        omega
      rw [this, show (283 : Int) * 2 ^ m = ((283 * 2 ^ m : Nat) : Int) by simp]
      exact wrap_i64_nat _ (by omega)
    rw [if_pos (by omega), e1, e2, wu (m + 1 + 7) (by omega), wu m (by omega), if_pos (by omega), if_pos (show (0 : Int) ≤ ((m : Nat) : Int) by omega), e3, xor_i64 n _ (by omega) (by omega)]
    have hi := bit_of n (m + 1 + 7) (by omega)
    by_cases h : n.testBit (m + 8) = true
    · rw [if_pos (hi.2 h), if_pos h, ih k _ (by omega) (Nat.xor_lt_two_pow hn (by omega))]
    · rw [if_neg (mt hi.1 h), if_neg h, ih k _ (by omega) hn]
theorem RMul_eq (a b : BitVec 8) (k : Nat) (hk : 17 ≤ k) : visorref03_Mul.f k (I8 a) (I8 b) = some (I8 (mul a b)) := by
  obtain ⟨k, rfl⟩ : ∃ m, k = 8 + 1 + (7 + 1 + m) := ⟨k - 17, by omega⟩
  unfold visorref03_Mul.f
  have ha := a.isLt
  have e1 : wrap64 (I8 a) = ((a.toNat : Nat) : Int) := by unfold I8 wrap64; omega
  have := RMul_l0 b 8 (7 + 1 + k) 0 0 a.toNat rfl (by decide) (by omega)
  rw [e1]
  refine this.trans ?_
  rw [Nat.zero_xor]
  have h2 := RMul_l1 7 k (S 8 b 0 a.toNat) (by decide) (Nat.lt_of_lt_of_le (S_lt 8 b 0 a.toNat 8 ha) (by decide))
  refine h2.trans ?_
  rw [show R2 7 (S 8 b 0 a.toNat) % 256 = rmul a b from rfl, rmul_eq]; rfl

theorem RPow_l0 (a : BitVec 8) (n : Int) (t : Nat) (h1 : 1 ≤ n) (h2 : n < 9223372036854775808) (ht : t = ((n.toNat - 1) % 255 + 1)) :
    ∀ d k i (o : BitVec 8), i + d = t → d + 18 ≤ k → visorref03_Pow.l0 k (I8 a) n (I8 o) ((i : Nat) : Int) = some (I8 (mul o (pow a d))) := by
  have e0 : wrap64 (Int.tmod (wrap64 (n - 1)) 255 + 1) = ((t : Nat) : Int) := by
    rw [w64 (x := n - 1) (by omega) (by omega), Int.tmod_eq_emod_of_nonneg (by omega), w64 (by omega) (by omega)]
    omega
  intro d
  induction d with
  | zero =>
    intro k i o hi hk
    obtain ⟨k, rfl⟩ : ∃ m, k = m + 1 := ⟨k - 1, by omega⟩
    simp only [visorref03_Pow.l0]
    rw [e0, if_neg (by omega)]
    simp [pow, mul_one]
  | succ d ih =>
    intro k i o hi hk
    obtain ⟨k, rfl⟩ : ∃ m, k = m + 1 := ⟨k - 1, by omega⟩
    simp only [visorref03_Pow.l0]
    rw [e0, if_pos (by omega), RMul_eq o a k (by omega)]
    simp only [Option.bind_some]
    rw [show wrap64 ((i : Int) + 1) = ((i + 1 : Nat) : Int) by unfold wrap64; omega, ih k (i + 1) _ (by omega) (by omega), ← mul_assoc]
    congr 3
    rw [show d + 1 = 1 + d by omega, pow_add]
    simp [pow, one_mul]
theorem RPow_eq (a : BitVec 8) (n : Nat) (hn : n < 9223372036854775808) (k : Nat) (hk : 300 ≤ k) : visorref03_Pow.f k (I8 a) (n : Int) = some (I8 (pow a n)) := by
  unfold visorref03_Pow.f
  rw [if_neg (by omega)]
  by_cases h0 : n = 0
  · subst h0; rw [if_pos (by rfl)]; rfl
  · rw [if_neg (by omega), one8]
    have := RPow_l0 a n ((n - 1) % 255 + 1) (by omega) (by omega) (by omega) ((n - 1) % 255 + 1) k 0 1#8 (by omega) (by omega)
    refine this.trans ?_
    rw [one_mul, ← pow_red a n (by omega)]
theorem Pow_neg (a n : Int) (h : n < 0) (k : Nat) : gf_Pow.f k a n = some 0 := by unfold gf_Pow.f; rw [if_pos h]
theorem RPow_neg (a n : Int) (h : n < 0) (k : Nat) : visorref03_Pow.f k a n = some 0 := by unfold visorref03_Pow.f; rw [if_pos h]

theorem RInv_l0 (a : BitVec 8) : ∀ d k i, i + d = 256 → 1 ≤ i → (∀ j : BitVec 8, 1 ≤ j.toNat → j.toNat < i → mul a j ≠ 1#8) → d + 18 ≤ k → visorref03_Inv.l0 k (I8 a) ((i : Nat) : Int) = some (I8 (pow a 254)) := by
  intro d
  induction d with
  | zero =>
    intro k i hi h1 hno hk
    obtain ⟨k, rfl⟩ : ∃ m, k = m + 1 := ⟨k - 1, by omega⟩
    simp only [visorref03_Inv.l0]
    rw [if_neg (by omega)]
    by_cases h0 : a = 0#8
    · subst h0; rfl
    · refine absurd (mul_inv a h0) (hno (pow a 254) ?_ (by have := (pow a 254).isLt; omega))
      have : pow a 254 ≠ 0#8 := by
        intro h
        have := mul_inv a h0
        rw [h, mul_zero] at this
        exact absurd this (by decide)
      have : (pow a 254).toNat ≠ 0 := fun h => this (BitVec.eq_of_toNat_eq h)
      omega
  | succ d ih =>
    intro k i hi h1 hno hk
    obtain ⟨k, rfl⟩ : ∃ m, k = m + 1 := ⟨k - 1, by omega⟩
    simp only [visorref03_Inv.l0]
    have e : ((i : Int)) % 256 = I8 (BitVec.ofNat 8 i) := by unfold I8; rw [BitVec.toNat_ofNat]; omega
    rw [if_pos (by omega), e, RMul_eq a _ k (by omega)]
    simp only [Option.bind_some]
    by_cases h : mul a (BitVec.ofNat 8 i) = 1#8
    · rw [if_pos (I8_one.2 h), inv_uniq a _ h]
    · rw [if_neg (mt I8_one.1 h), show wrap64 ((i : Int) + 1) = ((i + 1 : Nat) : Int) by unfold wrap64; omega]
      refine ih k (i + 1) (by omega) (by omega) (fun j hj hj2 => ?_) (by omega)
      by_cases hji : j.toNat = i
      · have : j = BitVec.ofNat 8 i := BitVec.eq_of_toNat_eq (by rw [BitVec.toNat_ofNat]; omega)
        rw [this]; exact h
      · exact hno j hj (by omega)
theorem RInv_eq (a : BitVec 8) (k : Nat) (hk : 300 ≤ k) : visorref03_Inv.f k (I8 a) = some (I8 (pow a 254)) := by
  unfold visorref03_Inv.f
  exact RInv_l0 a 255 k 1 rfl (by decide) (fun j h1 h2 => by omega) (by omega)

/-- An element's order, told by the number of its power of 3. -/
def ord (e : Nat) : Nat := (firstOf e [1, 3, 5, 15, 17, 51, 85]).getD 255
theorem Order_l0 (e : Nat) : ∀ (l p : List Nat) (k : Nat), l.length + 90 ≤ k → (∀ x ∈ p ++ l, x < 1000) → (p ++ l).length < 1000 →
    gf_Order.l0 k (I8 (pow 3#8 e)) ((p ++ l).map (fun x : Nat => (x : Int))) ((p ++ l).length : Int) (p.length : Int) = some (((firstOf e l).getD 255 : Nat) : Int) := by
  intro l
  induction l with
  | nil =>
    intro p k hk _ _
    obtain ⟨k, rfl⟩ : ∃ m, k = m + 1 := ⟨k - 1, by omega⟩
    simp only [gf_Order.l0]
    rw [if_neg (by simp)]
    rfl
  | cons x l ih =>
    intro p k hk hall hlen
    have hlen' : p.length < 1000 := by simp at hlen; omega
    obtain ⟨k, rfl⟩ : ∃ m, k = m + 1 := ⟨k - 1, by omega⟩
    simp only [gf_Order.l0]
    simp only [List.length_cons] at hk
    have er : rd ((p ++ x :: l).map (fun x : Nat => (x : Int))) (p.length : Int) = (x : Int) := by
      unfold rd
      simp [List.getD_eq_getElem?_getD]
    have hx : x < 1000 := hall x (by simp)
    rw [if_pos (by simp; omega), if_pos (by omega), if_pos (by simp; omega), er, Pow_eq _ x (by omega) k (by omega)]
    simp only [Option.bind_some, firstOf]
    have hi : I8 (pow (pow 3#8 e) x) = 1 ↔ e * x % 255 = 0 := by rw [I8_one, ← pow_mul, pow_one_iff]
    by_cases h : e * x % 255 = 0
    · rw [if_pos (hi.2 h), if_pos h]; rfl
    · rw [if_neg (mt hi.1 h), if_neg h]
      have := ih (p ++ [x]) k (by omega) (by simpa using hall) (by simpa using hlen)
      rw [List.append_assoc] at this
      rw [show wrap64 ((p.length : Int) + 1) = ((p ++ [x]).length : Int) by simp; unfold wrap64; omega]
      exact this
theorem Order_eq (e : Nat) (k : Nat) (hk : 100 ≤ k) : gf_Order.f k (I8 (pow 3#8 e)) = some ((ord e : Nat) : Int) := by
  unfold gf_Order.f
  rw [if_neg (mt I8_zero.1 (pow_ne_zero e))]
  simp only [Option.bind_some]
  exact Order_l0 e [1, 3, 5, 15, 17, 51, 85] [] k (by simp; omega) (by decide) (by decide)
theorem Order_zero (k : Nat) : gf_Order.f k (I8 0#8) = some 0 := by
  unfold gf_Order.f; rw [if_pos (by rfl)]
theorem ROrder_l0 (e : Nat) : ∀ d n k, n + d = 256 → 1 ≤ n → d + 18 ≤ k → visorref03_Order.l0 k (I8 (pow 3#8 e)) (I8 (pow (pow 3#8 e) n)) (n : Int) = some (((firstOf e (List.range' n d)).getD 0 : Nat) : Int) := by
  intro d
  induction d with
  | zero =>
    intro n k hn _ hk
    obtain ⟨k, rfl⟩ : ∃ m, k = m + 1 := ⟨k - 1, by omega⟩
    simp only [visorref03_Order.l0]
    rw [if_neg (by omega)]; rfl
  | succ d ih =>
    intro n k hn h1 hk
    obtain ⟨k, rfl⟩ : ∃ m, k = m + 1 := ⟨k - 1, by omega⟩
    simp only [visorref03_Order.l0, List.range'_succ, firstOf]
    rw [if_pos (by omega), RMul_eq _ _ k (by omega)]
    simp only [Option.bind_some]
    have hi : I8 (pow (pow 3#8 e) n) = 1 ↔ e * n % 255 = 0 := by rw [I8_one, ← pow_mul, pow_one_iff]
    by_cases h : e * n % 255 = 0
    · rw [if_pos (hi.2 h), if_pos h]; rfl
    · rw [if_neg (mt hi.1 h), if_neg h, show wrap64 ((n : Int) + 1) = ((n + 1 : Nat) : Int) by unfold wrap64; omega, ← ih (n + 1) k (by omega) (by omega) (by omega)]
      rfl
theorem ROrder_eq (e : Nat) (he : e < 255) (k : Nat) (hk : 300 ≤ k) : visorref03_Order.f k (I8 (pow 3#8 e)) = some ((ord e : Nat) : Int) := by
  unfold visorref03_Order.f
  have := ROrder_l0 e 255 1 k rfl (by decide) (by omega)
  rw [orders e he] at this
  rw [show pow (pow 3#8 e) 1 = pow 3#8 e by simp [pow, one_mul]] at this
  exact this
theorem ROrder0_l0 : ∀ d n k, n + d = 256 → d + 18 ≤ k → visorref03_Order.l0 k (I8 0#8) (I8 0#8) ((n : Nat) : Int) = some 0 := by
  intro d
  induction d with
  | zero =>
    intro n k hn hk
    obtain ⟨k, rfl⟩ : ∃ m, k = m + 1 := ⟨k - 1, by omega⟩
    simp only [visorref03_Order.l0]
    rw [if_neg (by omega)]
  | succ d ih =>
    intro n k hn hk
    obtain ⟨k, rfl⟩ : ∃ m, k = m + 1 := ⟨k - 1, by omega⟩
    simp only [visorref03_Order.l0]
    rw [if_pos (by omega), if_neg (by decide), RMul_eq 0#8 0#8 k (by omega)]
    simp only [Option.bind_some]
    rw [mul_zero, show wrap64 ((n : Int) + 1) = ((n + 1 : Nat) : Int) by unfold wrap64; omega]
    exact ih (n + 1) k (by omega) (by omega)
theorem ROrder_zero (k : Nat) (hk : 300 ≤ k) : visorref03_Order.f k (I8 0#8) = some 0 := ROrder0_l0 255 1 k rfl (by omega)

theorem awake_eq (k : Nat) (hk : 80 ≤ k) : visorlaw03_awake.f k = some true := by
  unfold visorlaw03_awake.f
  rw [show (87 : Int) = I8 87#8 from rfl, show (131 : Int) = I8 131#8 from rfl, Mul_eq _ _ k (by omega), show (2 : Int) = I8 2#8 from rfl, Inv_eq _ k (by omega)]
  simp only [Option.bind_some]
  rw [show mul 87#8 131#8 = 193#8 by decide +kernel, show pow 2#8 254 = 141#8 by decide +kernel]
  rfl
end Go.Proofs.Ytahiphggoemdkaa.GfEval
