/-
  The field of 16 elements in plain Lean: products of bytes' lower halves, their laws, powers, marks. No Go, no condition.
-/
import Derived.Test.YtphdlidaigalkaaByte
import Derived.Test.YtphdlidaigalkaaNibSq
namespace Go.Proofs.Ytphdlidaigalkaa.NibMath
open NibSq (sq)
/-- Times y. -/
def Tn (a : BitVec 8) : BitVec 8 := if a &&& 8#8 = 0#8 then a <<< 1 else ((a <<< 1) ^^^ 3#8) &&& 15#8
/-- The product, of n bits of b. -/
def Pn : Nat → BitVec 8 → BitVec 8 → BitVec 8
  | 0, _, _ => 0#8
  | n + 1, a, b => (if b.getLsbD 0 then a else 0#8) ^^^ Pn n (Tn a) (b >>> 1)
theorem Pn_zero : ∀ n a, Pn n a 0#8 = 0#8
  | 0, _ => rfl
  | n + 1, a => by simp [Pn, Pn_zero n]
def mul (a b : BitVec 8) : BitVec 8 := Pn 4 (a &&& 15#8) (b &&& 15#8)
/-- An element as a byte. -/
def up (x : BitVec 4) : BitVec 8 := x.setWidth 8
def lo (a : BitVec 8) : BitVec 4 := a.setWidth 4
theorem up_lo : ∀ a, up (lo a) = a &&& 15#8 := by decide +kernel
theorem and_idem (a : BitVec 8) : a &&& 15#8 &&& 15#8 = a &&& 15#8 := by rw [BitVec.and_assoc, BitVec.and_self]
theorem mul_lo (a b : BitVec 8) : mul a b = mul (up (lo a)) (up (lo b)) := by simp only [up_lo, mul, and_idem]
theorem nibs (P : BitVec 8 → Prop) (h : ∀ x : BitVec 4, P (up x)) (hl : ∀ a, P (up (lo a)) → P a) (a : BitVec 8) : P a := hl a (h (lo a))
theorem comm4 : ∀ x y : BitVec 4, mul (up x) (up y) = mul (up y) (up x) := by decide +kernel
theorem mul_comm (a b : BitVec 8) : mul a b = mul b a := by rw [mul_lo a b, mul_lo b a, comm4]
theorem mul_nib4 : ∀ x y : BitVec 4, mul (up x) (up y) &&& 15#8 = mul (up x) (up y) := by decide +kernel
theorem mul_nib (a b : BitVec 8) : mul a b &&& 15#8 = mul a b := by rw [mul_lo a b, mul_nib4]
theorem mul_low (a b : BitVec 8) : mul (a &&& 15#8) b = mul a b := by simp only [mul, and_idem]
theorem mul_low' (a b : BitVec 8) : mul a (b &&& 15#8) = mul a b := by simp only [mul, and_idem]
/-- The table of products as elements: quick to look into. -/
def m4 (x y : BitVec 4) : BitVec 4 := lo (mul (up x) (up y))
def basis4 : List (BitVec 4) := [1#4, 2#4, 4#4, 8#4]
theorem xor_lo : ∀ a b : BitVec 8, lo (a ^^^ b) = lo a ^^^ lo b := fun a b => by unfold lo; simp
theorem up_xor (x y : BitVec 4) : up (x ^^^ y) = up x ^^^ up y := by unfold up; simp
theorem dist4 : ∀ x y z : BitVec 4, mul (up x) (up y ^^^ up z) = mul (up x) (up y) ^^^ mul (up x) (up z) := by decide +kernel
theorem mul_xor (a b c : BitVec 8) : mul a (b ^^^ c) = mul a b ^^^ mul a c := by
  rw [mul_lo a (b ^^^ c), mul_lo a b, mul_lo a c, xor_lo, up_xor, dist4]
theorem xor_mul (a b c : BitVec 8) : mul (b ^^^ c) a = mul b a ^^^ mul c a := by rw [mul_comm, mul_xor, mul_comm a b, mul_comm a c]
theorem assoc4 : ∀ x y z : BitVec 4, mul (up x) (mul (up y) (up z)) = mul (mul (up x) (up y)) (up z) := by decide +kernel
theorem mul_assoc (a b c : BitVec 8) : mul a (mul b c) = mul (mul a b) c := by
  rw [mul_lo b c, ← mul_low a, ← up_lo, assoc4, ← mul_low' _ c, ← up_lo, mul_lo a b]
theorem one_mul : ∀ a, mul 1#8 a = a &&& 15#8 := by decide +kernel
theorem mul_one (a : BitVec 8) : mul a 1#8 = a &&& 15#8 := by rw [mul_comm, one_mul]
theorem sq_mul : ∀ a, sq a = mul a a := by decide +kernel
/-- Powers. -/
def pow (a : BitVec 8) : Nat → BitVec 8
  | 0 => 1#8
  | n + 1 => mul (pow a n) a
theorem pow_nib (a : BitVec 8) : ∀ n, pow a n &&& 15#8 = pow a n
  | 0 => show 1#8 &&& 15#8 = 1#8 by decide
  | n + 1 => mul_nib _ _
theorem pow_add (a : BitVec 8) (m : Nat) : ∀ n, pow a (m + n) = mul (pow a m) (pow a n)
  | 0 => by rw [Nat.add_zero, show pow a 0 = 1#8 from rfl, mul_one, pow_nib]
  | n + 1 => by rw [← Nat.add_assoc]; simp only [pow, pow_add a m n, mul_assoc]
theorem pow_sq (a : BitVec 8) : ∀ n, pow (sq a) n = pow a (2 * n)
  | 0 => rfl
  | n + 1 => by
    rw [show 2 * (n + 1) = 2 * n + 1 + 1 by omega]
    show mul (pow (sq a) n) (sq a) = mul (mul (pow a (2 * n)) a) a
    rw [pow_sq a n, sq_mul, mul_assoc]
theorem pow16 : ∀ a, pow a 16 = pow a 1 := by decide +kernel
theorem pow_step (a : BitVec 8) (n : Nat) : pow a (n + 1 + 15) = pow a (n + 1) := by
  rw [show n + 1 + 15 = n + 16 by omega, pow_add, pow16, ← pow_add]
theorem pow_red (a : BitVec 8) (n : Nat) (h : 1 ≤ n) : pow a n = pow a ((n - 1) % 15 + 1) := by
  obtain ⟨m, rfl⟩ : ∃ m, n = m + 1 := ⟨n - 1, by omega⟩
  rw [Nat.add_sub_cancel]
  have key : ∀ q r, pow a (15 * q + r + 1) = pow a (r + 1) := by
    intro q
    induction q with
    | zero => intro r; rw [Nat.mul_zero, Nat.zero_add]
    | succ q ih => intro r; rw [show 15 * (q + 1) + r + 1 = (15 * q + r) + 1 + 15 by omega, pow_step, ih]
  conv => lhs; rw [← Nat.div_add_mod m 15]
  exact key _ _
/-- The reference's product. -/
def S4 : Nat → BitVec 8 → Nat → Nat → Nat
  | 0, _, _, _ => 0
  | m + 1, b, i, x => (if b.getLsbD i then x else 0) ^^^ S4 m b (i + 1) (x * 2)
def R4 : Nat → Nat → Nat
  | 0, n => n
  | m + 1, n => R4 m (if n.testBit (m + 4) then n ^^^ (19 * 2 ^ m) else n)
theorem bits_lo : ∀ a, (up (lo a)).getLsbD 0 = a.getLsbD 0 ∧ (up (lo a)).getLsbD 1 = a.getLsbD 1 ∧ (up (lo a)).getLsbD 2 = a.getLsbD 2 ∧ (up (lo a)).getLsbD 3 = a.getLsbD 3 := by decide +kernel
theorem S4_lo (a : BitVec 8) (x : Nat) : S4 4 a 0 x = S4 4 (up (lo a)) 0 x := by
  have h := bits_lo a
  simp only [S4, Nat.zero_add, Nat.reduceAdd, h.1, h.2.1, h.2.2.1, h.2.2.2]
theorem low_nat (a : BitVec 8) : a.toNat % 16 = (up (lo a)).toNat := by
  simp [up, lo]
  omega
theorem ref4 : ∀ x y : BitVec 4, R4 3 (S4 4 (up y) 0 (up x).toNat) % 256 = (mul (up x) (up y)).toNat := by decide +kernel
theorem ref_eq (a b : BitVec 8) : R4 3 (S4 4 b 0 (a.toNat % 16)) % 256 = (mul a b).toNat := by rw [S4_lo, low_nat, ref4, mul_lo a b]
theorem S4_lt : ∀ m b i x j, x < 2 ^ j → S4 m b i x < 2 ^ (j + m)
  | 0, _, _, _, j, _ => Nat.two_pow_pos _
  | m + 1, b, i, x, j, h => by
    have h1 := S4_lt m b (i + 1) (x * 2) (j + 1) (by rw [Nat.pow_succ]; omega)
    rw [show j + 1 + m = j + (m + 1) by omega] at h1
    refine Nat.xor_lt_two_pow ?_ h1
    split
    · exact Nat.lt_of_lt_of_le h (Nat.pow_le_pow_right (by decide) (by omega))
    · exact Nat.two_pow_pos _
/-- Marks, inverses. -/
def mark : Nat → BitVec 8 → BitVec 8 → BitVec 8
  | 0, _, o => o
  | n + 1, a, o => mark n (sq a) (o ^^^ (a &&& 15#8))
def inv (a : BitVec 8) : BitVec 8 := mul (mul (sq a) (sq (sq a))) (sq (sq (sq a)))
/-- The first number from i on, of d, that f likes. -/
def first (f : Nat → Bool) : Nat → Nat → Option Nat
  | 0, _ => none
  | d + 1, i => if f i then some i else first f d (i + 1)
theorem inv_first : ∀ a : BitVec 8, ((first (fun i => mul a (BitVec.ofNat 8 i) == 1#8) 15 1).getD 0) = (inv a).toNat := by decide +kernel
theorem mark_ref : ∀ a : BitVec 8, mark 4 a 0#8 = (a &&& 15#8) ^^^ pow a 2 ^^^ pow a 4 ^^^ pow a 8 := by decide +kernel
theorem apart_ref : ∀ a : BitVec 8, (first (fun z => mul (BitVec.ofNat 8 z) (BitVec.ofNat 8 z) ^^^ BitVec.ofNat 8 z == a &&& 15#8) 16 0).isNone = (mark 4 a 0#8 == 1#8) := by decide +kernel
end Go.Proofs.Ytphdlidaigalkaa.NibMath
