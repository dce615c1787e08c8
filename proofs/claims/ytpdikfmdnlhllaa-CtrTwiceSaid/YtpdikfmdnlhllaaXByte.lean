/-
  Bytes and words as whole numbers: what Go's operators make of them, in terms of bit vectors. Plain lemmas; no condition.
-/
import Derived.Laws.BitsLemmas
import Derived.RowKit
namespace Go.Proofs.Ytpdikfmdnlhllaa.Byte
open Go.RowKit

/-- A byte's number. -/
def I8 (a : BitVec 8) : Int := (a.toNat : Int)
/-- A word's number. -/
def I64 (a : BitVec 64) : Int := (a.toNat : Int)
theorem I8_lo (a : BitVec 8) : 0 ≤ I8 a := by unfold I8; omega
theorem I8_hi (a : BitVec 8) : I8 a < 256 := by unfold I8; have := a.isLt; omega
theorem I64_lo (a : BitVec 64) : 0 ≤ I64 a := by unfold I64; omega
theorem I64_hi (a : BitVec 64) : I64 a < 18446744073709551616 := by unfold I64; have := a.isLt; omega
theorem I8_inj {a b : BitVec 8} (h : I8 a = I8 b) : a = b := BitVec.eq_of_toNat_eq (by unfold I8 at h; omega)
theorem I64_inj {a b : BitVec 64} (h : I64 a = I64 b) : a = b := BitVec.eq_of_toNat_eq (by unfold I64 at h; omega)
theorem I8_eq_iff {a b : BitVec 8} : I8 a = I8 b ↔ a = b := ⟨I8_inj, fun h => by rw [h]⟩
theorem I64_eq_iff {a b : BitVec 64} : I64 a = I64 b ↔ a = b := ⟨I64_inj, fun h => by rw [h]⟩
theorem I8_of (x : Int) (h0 : 0 ≤ x) (h1 : x < 256) : ∃ a, x = I8 a := by
  refine ⟨BitVec.ofNat 8 x.toNat, ?_⟩
  unfold I8
  rw [BitVec.toNat_ofNat]
  omega
theorem I64_of (x : Int) (h0 : 0 ≤ x) (h1 : x < 18446744073709551616) : ∃ a, x = I64 a := by
  refine ⟨BitVec.ofNat 64 x.toNat, ?_⟩
  unfold I64
  rw [BitVec.toNat_ofNat]
  omega
theorem wf_u8 {x : Int} (h : (Lit.int .u8 x).wf = true) : 0 ≤ x ∧ x < 256 := by
  simp only [Lit.wf, IntKind.min, IntKind.max, IntKind.signed, IntKind.bits, Bool.and_eq_true] at h
  have h1 := h.1; have h2 := h.2
  simp at h1 h2
  omega
theorem wf_u64 {x : Int} (h : (Lit.int .u64 x).wf = true) : 0 ≤ x ∧ x < 18446744073709551616 := by
  simp only [Lit.wf, IntKind.min, IntKind.max, IntKind.signed, IntKind.bits, Bool.and_eq_true] at h
  have h1 := h.1; have h2 := h.2
  simp at h1 h2
  omega
theorem wf_i64 {x : Int} (h : (Lit.int .i64 x).wf = true) : -9223372036854775808 ≤ x ∧ x < 9223372036854775808 := by
  simp only [Lit.wf, IntKind.min, IntKind.max, IntKind.signed, IntKind.bits, Bool.and_eq_true, decide_eq_true_eq] at h
  have h1 := h.1; have h2 := h.2
  simp at h1 h2
  omega
theorem byte_of {x : Int} (h : (Lit.int .u8 x).wf = true) : ∃ a, x = I8 a := I8_of x (wf_u8 h).1 (wf_u8 h).2
theorem word_of {x : Int} (h : (Lit.int .u64 x).wf = true) : ∃ a, x = I64 a := I64_of x (wf_u64 h).1 (wf_u64 h).2
theorem I8_wf (a : BitVec 8) : (Lit.int .u8 (I8 a)).wf = true := by
  have := I8_lo a; have := I8_hi a
  simp only [Lit.wf, IntKind.min, IntKind.max, IntKind.signed, IntKind.bits, Bool.and_eq_true]
  simp
  omega
theorem I64_wf (a : BitVec 64) : (Lit.int .u64 (I64 a)).wf = true := by
  have := I64_lo a; have := I64_hi a
  simp only [Lit.wf, IntKind.min, IntKind.max, IntKind.signed, IntKind.bits, Bool.and_eq_true]
  simp
  omega

theorem wrap_u8_nat (n : Nat) (h : n < 256) : IntKind.u8.wrap (n : Int) = n := by rw [IntKind.wrap_u8]; omega
theorem wrap_u64 (n : Int) : IntKind.u64.wrap n = n % 18446744073709551616 := by simp [IntKind.wrap, IntKind.bits, IntKind.signed]
theorem wrap_u64_nat (n : Nat) (h : n < 18446744073709551616) : IntKind.u64.wrap (n : Int) = n := by rw [wrap_u64]; omega

theorem of8 (a : BitVec 8) : BitVec.ofInt 8 (I8 a) = a := by unfold I8; rw [BitVec.ofInt_natCast, BitVec.ofNat_toNat, BitVec.setWidth_eq]
theorem of64 (a : BitVec 64) : BitVec.ofInt 64 (I64 a) = a := by unfold I64; rw [BitVec.ofInt_natCast, BitVec.ofNat_toNat, BitVec.setWidth_eq]

theorem xor8 (a b : BitVec 8) : Go.bits .xor .u8 (I8 a) (I8 b) = I8 (a ^^^ b) := by
  show IntKind.u8.wrap ((BitVec.ofInt 8 (I8 a) ^^^ BitVec.ofInt 8 (I8 b)).toNat : Int) = _
  rw [of8, of8, wrap_u8_nat _ (a ^^^ b).isLt]; rfl
theorem and8 (a b : BitVec 8) : Go.bits .and .u8 (I8 a) (I8 b) = I8 (a &&& b) := by
  show IntKind.u8.wrap ((BitVec.ofInt 8 (I8 a) &&& BitVec.ofInt 8 (I8 b)).toNat : Int) = _
  rw [of8, of8, wrap_u8_nat _ (a &&& b).isLt]; rfl
theorem or8 (a b : BitVec 8) : Go.bits .or .u8 (I8 a) (I8 b) = I8 (a ||| b) := by
  show IntKind.u8.wrap ((BitVec.ofInt 8 (I8 a) ||| BitVec.ofInt 8 (I8 b)).toNat : Int) = _
  rw [of8, of8, wrap_u8_nat _ (a ||| b).isLt]; rfl
theorem xor64 (a b : BitVec 64) : Go.bits .xor .u64 (I64 a) (I64 b) = I64 (a ^^^ b) := by
  show IntKind.u64.wrap ((BitVec.ofInt 64 (I64 a) ^^^ BitVec.ofInt 64 (I64 b)).toNat : Int) = _
  rw [of64, of64, wrap_u64_nat _ (a ^^^ b).isLt]; rfl
theorem and64 (a b : BitVec 64) : Go.bits .and .u64 (I64 a) (I64 b) = I64 (a &&& b) := by
  show IntKind.u64.wrap ((BitVec.ofInt 64 (I64 a) &&& BitVec.ofInt 64 (I64 b)).toNat : Int) = _
  rw [of64, of64, wrap_u64_nat _ (a &&& b).isLt]; rfl
theorem or64 (a b : BitVec 64) : Go.bits .or .u64 (I64 a) (I64 b) = I64 (a ||| b) := by
  show IntKind.u64.wrap ((BitVec.ofInt 64 (I64 a) ||| BitVec.ofInt 64 (I64 b)).toNat : Int) = _
  rw [of64, of64, wrap_u64_nat _ (a ||| b).isLt]; rfl
theorem andNot64 (a b : BitVec 64) : Go.bits .andNot .u64 (I64 a) (I64 b) = I64 (a &&& ~~~b) := by
  show IntKind.u64.wrap ((BitVec.ofInt 64 (I64 a) &&& ~~~BitVec.ofInt 64 (I64 b)).toNat : Int) = _
  rw [of64, of64, wrap_u64_nat _ (a &&& ~~~b).isLt]; rfl
theorem twice8 (a : BitVec 8) : (I8 a * (2 : Int)) % (256 : Int) = I8 (a <<< 1) := by
  unfold I8; rw [BitVec.toNat_shiftLeft, Nat.shiftLeft_eq]; omega
theorem half8 (a : BitVec 8) : I8 a / (2 : Int) = I8 (a >>> 1) := by
  unfold I8; rw [BitVec.toNat_ushiftRight, Nat.shiftRight_eq_div_pow]; omega
theorem one8 : (1 : Int) = I8 1#8 := rfl
theorem zero8 : (0 : Int) = I8 0#8 := rfl
theorem I8_zero {a : BitVec 8} : I8 a = 0 ↔ a = 0#8 := I8_eq_iff (b := 0#8)
theorem I8_one {a : BitVec 8} : I8 a = 1 ↔ a = 1#8 := I8_eq_iff (b := 1#8)
theorem and8_one (a : BitVec 8) : a &&& 1#8 = if a.getLsbD 0 then 1#8 else 0#8 := by revert a; decide +kernel
theorem odd8 (a : BitVec 8) : (Go.bits .and .u8 (I8 a) 1 = 1) ↔ a.getLsbD 0 = true := by
  rw [show Go.bits .and .u8 (I8 a) 1 = I8 (a &&& 1#8) from and8 a 1#8, one8, I8_eq_iff, and8_one]
  cases a.getLsbD 0 <;> simp

/-- The operators of int on numbers that are not below 0. -/
theorem ofI64n (n : Nat) : BitVec.ofInt 64 (n : Int) = BitVec.ofNat 64 n := BitVec.ofInt_natCast ..
theorem wrap_i64_nat (n : Nat) (h : n < 9223372036854775808) : IntKind.i64.wrap (n : Int) = n := by rw [IntKind.wrap_i64]; omega
theorem xor_i64 (a b : Nat) (ha : a < 9223372036854775808) (hb : b < 9223372036854775808) : Go.bits .xor .i64 (a : Int) (b : Int) = ((a ^^^ b : Nat) : Int) := by
  show IntKind.i64.wrap ((BitVec.ofInt 64 (a : Int) ^^^ BitVec.ofInt 64 (b : Int)).toNat : Int) = _
  rw [ofI64n, ofI64n, BitVec.toNat_xor, BitVec.toNat_ofNat, BitVec.toNat_ofNat, Nat.mod_eq_of_lt (by omega), Nat.mod_eq_of_lt (by omega)]
  exact wrap_i64_nat _ (Nat.xor_lt_two_pow (n := 63) ha hb)
theorem and_i64_one (a : Nat) (ha : a < 9223372036854775808) : Go.bits .and .i64 (a : Int) 1 = ((a % 2 : Nat) : Int) := by
  show IntKind.i64.wrap ((BitVec.ofInt 64 (a : Int) &&& BitVec.ofInt 64 ((1 : Nat) : Int)).toNat : Int) = _
  rw [ofI64n, ofI64n, BitVec.toNat_and, BitVec.toNat_ofNat, BitVec.toNat_ofNat, Nat.mod_eq_of_lt (by omega), Nat.mod_eq_of_lt (by decide), Nat.and_one_is_mod]
  exact wrap_i64_nat _ (by omega)
theorem w64 {x : Int} (h0 : -9223372036854775808 ≤ x) (h1 : x < 9223372036854775808) : wrap64 x = x := by unfold wrap64; omega
theorem and_i64_mask (x : Int) : Go.bits .and .i64 x 63 = x % 64 := by
  show IntKind.i64.wrap ((BitVec.ofInt 64 x &&& BitVec.ofInt 64 ((63 : Nat) : Int)).toNat : Int) = _
  have e : (BitVec.ofInt 64 x &&& BitVec.ofInt 64 ((63 : Nat) : Int)).toNat = (x % 64).toNat := by
    rw [BitVec.toNat_and, BitVec.toNat_ofInt, ofI64n, BitVec.toNat_ofNat, Nat.mod_eq_of_lt (show 63 < 2 ^ 64 by decide)]
    have := Nat.and_two_pow_sub_one_eq_mod (x % ((2 ^ 64 : Nat) : Int)).toNat 6
    refine this.trans ?_
    omega
  rw [e, wrap_i64_nat _ (by omega)]
  omega
/-- Go's remainder, in terms of the one from 0 on. -/
theorem tmod_nat (n : Int) (m : Nat) : (0 ≤ n → Int.tmod n m = n % m) ∧ (n < 0 → n % m = 0 → Int.tmod n m = 0) ∧ (n < 0 → n % m ≠ 0 → Int.tmod n m = n % m - m) := by
  have e := Int.tmod_eq_emod (a := n) (b := (m : Int))
  refine ⟨fun h => Int.tmod_eq_emod_of_nonneg h, fun h h0 => ?_, fun h h0 => ?_⟩
  · rw [e, if_pos (Or.inr (Int.dvd_of_emod_eq_zero h0)), h0]; rfl
  · rw [e, if_neg (fun h1 => h1.elim (fun h2 => by omega) (fun h2 => h0 (Int.emod_eq_zero_of_dvd h2)))]
    rfl
end Go.Proofs.Ytpdikfmdnlhllaa.Byte
