/-
  Merged texts, what is reached of them: AesEval: walks and plain lemmas; no condition.
-/
import Derived.Test.YtpdikfmdnlhllaaXAesKit
namespace Go.Proofs.Ytpdikfmdnlhllaa.GfEval
open Go.RowKit Go.Proofs.Ytpdikfmdnlhllaa.PNib Go.Proofs.YtpdikfmdnlhllaaW.PrintWords Go.Proofs.YtpdikfmdnlhllaaW.PrintLast Go.Proofs.YtpdikfmdnlhllaaW.PrintMore Byte GfMath
theorem tmod2 (n : Nat) : Int.tmod (n : Int) 2 = ((n % 2 : Nat) : Int) := by
  rw [Int.tmod_eq_emod_of_nonneg (by omega)]; omega
theorem shr_nat (n i : Nat) (hi : i ≤ 64) : shr .i64 (n : Int) (i : Int) = ((n >>> i : Nat) : Int) := by
  unfold shr
  have : min ((i : Int).toNat) IntKind.i64.bits = i := by
    show min ((i : Int).toNat) 64 = i
    omega
  rw [this, Nat.shiftRight_eq_div_pow]
  rw [Int.natCast_ediv]
  simp
theorem bit_of (n i : Nat) (hi : i ≤ 64) : (Int.tmod (shr .i64 (n : Int) (i : Int)) 2 = 1) ↔ n.testBit i = true := by
  rw [shr_nat n i hi, tmod2, Nat.testBit_eq_decide_div_mod_eq, Nat.shiftRight_eq_div_pow, decide_eq_true_iff]
  generalize n / 2 ^ i = q
  omega
theorem wu (i : Nat) (hi : i < 18446744073709551616) : IntKind.u64.wrap (i : Int) = (i : Int) := wrap_u64_nat i hi
theorem RMul_l0 (b : BitVec 8) : ∀ m k i n x, i + m = 8 → n < 2 ^ 20 → x < 2 ^ (8 + i) →
    visorref03_Mul.l0 (m + 1 + k) (I8 b) ((n : Nat) : Int) ((x : Nat) : Int) ((i : Nat) : Int) = visorref03_Mul.l1 k ((n ^^^ S m b i x : Nat) : Int) 14 := by
  intro m
  induction m with
  | zero =>
    intro k i n x hi hn hx
    rw [show 0 + 1 + k = k + 1 by omega]
    simp only [visorref03_Mul.l0, S, Nat.xor_zero]
    rw [if_neg (by omega)]
  | succ m ih =>
    intro k i n x hi hn hx
    rw [show m + 1 + 1 + k = (m + 1 + k) + 1 by omega]
    simp only [visorref03_Mul.l0, S]
    have hp : (2 : Nat) ^ (8 + i) ≤ 2 ^ 15 := Nat.pow_le_pow_right (by decide) (by omega)
    rw [if_pos (by omega), wu i (by omega), if_pos (by omega)]
    have hb := b.isLt
    have e1 : wrap64 (I8 b) = ((b.toNat : Nat) : Int) := by unfold I8 wrap64; omega
    have e2 : wrap64 ((x : Int) * 2) = ((x * 2 : Nat) : Int) := by unfold wrap64; omega
    have e3 : wrap64 ((i : Int) + 1) = ((i + 1 : Nat) : Int) := by unfold wrap64; omega
    rw [e1, e2, e3, xor_i64 n x (by omega) (by omega)]
    have hi := bit_of b.toNat i (by omega)
    have hx2 : x * 2 < 2 ^ (8 + (i + 1)) := by rw [← Nat.add_assoc, Nat.pow_succ]; omega
    have hn2 : n ^^^ x < 2 ^ 20 := Nat.xor_lt_two_pow hn (by omega)
    by_cases h : b.getLsbD i = true
    · rw [if_pos (hi.2 h), if_pos h, ih k (i + 1) (n ^^^ x) (x * 2) (by omega) hn2 hx2, Nat.xor_assoc]
    · rw [if_neg (mt hi.1 h), if_neg h, ih k (i + 1) n (x * 2) (by omega) hn hx2, Nat.zero_xor]
theorem RMul_l1 : ∀ m k n, m ≤ 7 → n < 2 ^ 20 → visorref03_Mul.l1 (m + 1 + k) ((n : Nat) : Int) ((m + 7 : Nat) : Int) = some ((R2 m n % 256 : Nat) : Int) := by
  intro m
  induction m with
  | zero =>
    intro k n hm hn
    rw [show 0 + 1 + k = k + 1 by omega]
    simp only [visorref03_Mul.l1, R2]
    rw [if_neg (by omega)]
    congr 1
  | succ m ih =>
    intro k n hm hn
    rw [show m + 1 + 1 + k = (m + 1 + k) + 1 by omega]
    simp only [visorref03_Mul.l1, R2]
    have hp : (2 : Nat) ^ m ≤ 2 ^ 6 := Nat.pow_le_pow_right (by decide) (by omega)
    have e1 : wrap64 (((m + 1 + 7 : Nat) : Int) - 8) = ((m : Nat) : Int) := by unfold wrap64; omega
    have e2 : wrap64 (((m + 1 + 7 : Nat) : Int) - 1) = ((m + 7 : Nat) : Int) := by unfold wrap64; omega
    have e3 : shl .i64 283 ((m : Nat) : Int) = ((283 * 2 ^ m : Nat) : Int) := by
      unfold shl
      have : min ((m : Int).toNat) IntKind.i64.bits = m := by
        show min ((m : Int).toNat) 64 = m
        omega
      rw [this, show (283 : Int) * 2 ^ m = ((283 * 2 ^ m : Nat) : Int) by simp]
      exact wrap_i64_nat _ (by omega)
    rw [if_pos (by omega), e1, e2, wu (m + 1 + 7) (by omega), wu m (by omega), if_pos (by omega), if_pos (show (0 : Int) ≤ ((m : Nat) : Int) by omega), e3, xor_i64 n _ (by omega) (by omega)]
    have hi := bit_of n (m + 1 + 7) (by omega)
    by_cases h : n.testBit (m + 8) = true
    · rw [if_pos (hi.2 h), if_pos h, ih k _ (by omega) (Nat.xor_lt_two_pow hn (by omega))]
    · rw [if_neg (mt hi.1 h), if_neg h, ih k _ (by omega) hn]
theorem RMul_eq (a b : BitVec 8) (k : Nat) (hk : 17 ≤ k) : visorref03_Mul.f k (I8 a) (I8 b) = some (I8 (mul a b)) := by
  obtain ⟨k, rfl⟩ : ∃ m, k = 8 + 1 + (7 + 1 + m) := ⟨k - 17, by omega⟩
  unfold visorref03_Mul.f
  have ha := a.isLt
  have e1 : wrap64 (I8 a) = ((a.toNat : Nat) : Int) := by unfold I8 wrap64; omega
  have := RMul_l0 b 8 (7 + 1 + k) 0 0 a.toNat rfl (by decide) (by omega)
  rw [e1]
  refine this.trans ?_
  rw [Nat.zero_xor]
  have h2 := RMul_l1 7 k (S 8 b 0 a.toNat) (by decide) (Nat.lt_of_lt_of_le (S_lt 8 b 0 a.toNat 8 ha) (by decide))
  refine h2.trans ?_
  rw [show R2 7 (S 8 b 0 a.toNat) % 256 = rmul a b from rfl, rmul_eq]; rfl
theorem RPow_l0 (a : BitVec 8) (n : Int) (t : Nat) (h1 : 1 ≤ n) (h2 : n < 9223372036854775808) (ht : t = ((n.toNat - 1) % 255 + 1)) :
    ∀ d k i (o : BitVec 8), i + d = t → d + 18 ≤ k → visorref03_Pow.l0 k (I8 a) n (I8 o) ((i : Nat) : Int) = some (I8 (mul o (pow a d))) := by
  have e0 : wrap64 (Int.tmod (wrap64 (n - 1)) 255 + 1) = ((t : Nat) : Int) := by
    rw [w64 (x := n - 1) (by omega) (by omega), Int.tmod_eq_emod_of_nonneg (by omega), w64 (by omega) (by omega)]
    omega
  intro d
  induction d with
  | zero =>
    intro k i o hi hk
    obtain ⟨k, rfl⟩ : ∃ m, k = m + 1 := ⟨k - 1, by omega⟩
    simp only [visorref03_Pow.l0]
    rw [e0, if_neg (by omega)]
    simp [pow, mul_one]
  | succ d ih =>
    intro k i o hi hk
    obtain ⟨k, rfl⟩ : ∃ m, k = m + 1 := ⟨k - 1, by omega⟩
    simp only [visorref03_Pow.l0]
    rw [e0, if_pos (by omega), RMul_eq o a k (by omega)]
    simp only [Option.bind_some]
    rw [show wrap64 ((i : Int) + 1) = ((i + 1 : Nat) : Int) by unfold wrap64; omega, ih k (i + 1) _ (by omega) (by omega), ← mul_assoc]
    congr 3
    rw [show d + 1 = 1 + d by omega, pow_add]
    simp [pow, one_mul]
theorem RPow_eq (a : BitVec 8) (n : Nat) (hn : n < 9223372036854775808) (k : Nat) (hk : 300 ≤ k) : visorref03_Pow.f k (I8 a) (n : Int) = some (I8 (pow a n)) := by
  unfold visorref03_Pow.f
  rw [if_neg (by omega)]
  by_cases h0 : n = 0
  · subst h0; rw [if_pos (by rfl)]; rfl
  · rw [if_neg (by omega), one8]
    have := RPow_l0 a n ((n - 1) % 255 + 1) (by omega) (by omega) (by omega) ((n - 1) % 255 + 1) k 0 1#8 (by omega) (by omega)
    refine this.trans ?_
    rw [one_mul, ← pow_red a n (by omega)]
theorem RInv_l0 (a : BitVec 8) : ∀ d k i, i + d = 256 → 1 ≤ i → (∀ j : BitVec 8, 1 ≤ j.toNat → j.toNat < i → mul a j ≠ 1#8) → d + 18 ≤ k → visorref03_Inv.l0 k (I8 a) ((i : Nat) : Int) = some (I8 (pow a 254)) := by
  intro d
  induction d with
  | zero =>
    intro k i hi h1 hno hk
    obtain ⟨k, rfl⟩ : ∃ m, k = m + 1 := ⟨k - 1, by omega⟩
    simp only [visorref03_Inv.l0]
    rw [if_neg (by omega)]
    by_cases h0 : a = 0#8
    · subst h0; rfl
    · refine absurd (mul_inv a h0) (hno (pow a 254) ?_ (by have := (pow a 254).isLt; omega))
      have : pow a 254 ≠ 0#8 := by
        intro h
        have := mul_inv a h0
        rw [h, mul_zero] at this
        exact absurd this (by decide)
      have : (pow a 254).toNat ≠ 0 := fun h => this (BitVec.eq_of_toNat_eq h)
      omega
  | succ d ih =>
    intro k i hi h1 hno hk
    obtain ⟨k, rfl⟩ : ∃ m, k = m + 1 := ⟨k - 1, by omega⟩
    simp only [visorref03_Inv.l0]
    have e : ((i : Int)) % 256 = I8 (BitVec.ofNat 8 i) := by unfold I8; rw [BitVec.toNat_ofNat]; omega
    rw [if_pos (by omega), e, RMul_eq a _ k (by omega)]
    simp only [Option.bind_some]
    by_cases h : mul a (BitVec.ofNat 8 i) = 1#8
    · rw [if_pos (I8_one.2 h), inv_uniq a _ h]
    · rw [if_neg (mt I8_one.1 h), show wrap64 ((i : Int) + 1) = ((i + 1 : Nat) : Int) by unfold wrap64; omega]
      refine ih k (i + 1) (by omega) (by omega) (fun j hj hj2 => ?_) (by omega)
      by_cases hji : j.toNat = i
      · have : j = BitVec.ofNat 8 i := BitVec.eq_of_toNat_eq (by rw [BitVec.toNat_ofNat]; omega)
        rw [this]; exact h
      · exact hno j hj (by omega)
theorem RInv_eq (a : BitVec 8) (k : Nat) (hk : 300 ≤ k) : visorref03_Inv.f k (I8 a) = some (I8 (pow a 254)) := by
  unfold visorref03_Inv.f
  exact RInv_l0 a 255 k 1 rfl (by decide) (fun j h1 h2 => by omega) (by omega)
end Go.Proofs.Ytpdikfmdnlhllaa.GfEval
namespace Go.Proofs.Ytpdikfmdnlhllaa.Aes
open Go.RowKit Go.Proofs.Ytpdikfmdnlhllaa.PNib Go.Proofs.YtpdikfmdnlhllaaW.PrintWords Go.Proofs.YtpdikfmdnlhllaaW.PrintLast Go.Proofs.YtpdikfmdnlhllaaW.PrintMore Byte Sl Arr Mem Gives ArrEq Mat AesMath
set_option linter.unusedVariables false
set_option maxRecDepth 100000
theorem rsub_all : ∀ y : B, visorref07_Sub.l0 100 (wrap64 (I8 y)) 0 0 = some (I8 (app bendF y ^^^ 99#8)) := by decide +kernel
theorem rsub_eq (x : B) : visorref07_Sub.f 300 (I8 x) = some (I8 (subB x)) := by
  unfold visorref07_Sub.f
  rw [GfEval.RInv_eq x 300 (by decide), Option.bind_some]
  exact at_rounds (g := fun k => visorref07_Sub.l0 k (wrap64 (I8 (GfMath.pow x 254))) 0 0) (fun k => (visorref07_Sub.mono_l k).1 _ _ _) (show 100 ≤ 300 by decide) (rsub_all _)
def roundsI (n : Int) : Int := if n = 16 then 10 else if n = 24 then 12 else if n = 32 then 14 else 0
theorem roundsI_nat (n : Nat) : roundsI (n : Int) = ((roundsN n : Nat) : Int) := by
  unfold roundsI roundsN
  by_cases h1 : n = 16
  · subst h1; rfl
  · rw [if_neg (by omega), if_neg h1]
    by_cases h2 : n = 24
    · subst h2; rfl
    · rw [if_neg (by omega), if_neg h2]
      by_cases h3 : n = 32
      · subst h3; rfl
      · rw [if_neg (by omega), if_neg h3]; rfl
theorem rounds_i (n : Int) : keys_Rounds.f n = some (roundsI n) := by
  unfold keys_Rounds.f roundsI
  repeat (first | rfl | split)
theorem rrounds_i (n : Int) : visorref08_Rounds.f n = some (roundsI n) := by
  unfold visorref08_Rounds.f roundsI
  split
  · rename_i h; subst h; decide +kernel
  · split
    · rename_i h; subst h; decide +kernel
    · split
      · rename_i h; subst h; decide +kernel
      · rfl
def markI (n : Int) : Int := I8 (AesMath.mark n.toNat)
theorem mark_i (n : Int) (h : n < 9223372036854775808) (h0 : -9223372036854775808 ≤ n) : keys_Mark.f 100 n = some (markI n) := by
  unfold keys_Mark.f markI AesMath.mark
  by_cases h1 : n < 1
  · rw [if_pos h1, if_pos (by omega)]; rfl
  · rw [if_neg h1, if_neg (by omega), w64 (by omega) (by omega), show n - 1 = ((n.toNat - 1 : Nat) : Int) by omega]
    exact (congrArg (Option.bind · _) (GfE.Pow_eq 2#8 (n.toNat - 1) (by omega) 100 (by decide))).trans rfl
theorem rmark_i (n : Int) (h : n < 9223372036854775808) (h0 : -9223372036854775808 ≤ n) : visorref08_Mark.f 300 n = some (markI n) := by
  unfold visorref08_Mark.f markI AesMath.mark
  by_cases h1 : n < 1
  · rw [if_pos h1, if_pos (by omega)]; rfl
  · rw [if_neg h1, if_neg (by omega), w64 (by omega) (by omega), show n - 1 = ((n.toNat - 1 : Nat) : Int) by omega]
    exact (congrArg (Option.bind · _) (GfEval.RPow_eq 2#8 (n.toNat - 1) (by omega) 300 (by decide))).trans rfl
end Go.Proofs.Ytpdikfmdnlhllaa.Aes
