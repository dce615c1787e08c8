/-
  Merged texts, what is reached of them: NibSq, NibMath, GfMath, TowMath: walks and plain lemmas; no condition.
-/
import Derived.Test.YtpdikfmdnlhllaaXGives
import Derived.Test.YtpdikfmdnlhllaaXByte
import Derived.WalkKit
import Derived.KernelRfl
import Derived.Laws.BitsLemmas
namespace Go.Proofs.Ytpdikfmdnlhllaa.NibSq
open Go.RowKit Go.Proofs.YtpdikfmdnlhllaaW.PrintWords Byte Gives
/-- The square, bit by bit. -/
def sq (a : BitVec 8) : BitVec 8 :=
  (if a.getLsbD 0 != a.getLsbD 2 then 1#8 else 0#8) ||| (if a.getLsbD 2 then 2#8 else 0#8) ||| (if a.getLsbD 1 != a.getLsbD 3 then 4#8 else 0#8) ||| (if a.getLsbD 3 then 8#8 else 0#8)
def nib_Square.f (a0 : Int) : Option Int := if 0 ≤ a0 ∧ a0 < 256 then some (I8 (sq (BitVec.ofInt 8 a0))) else none
end Go.Proofs.Ytpdikfmdnlhllaa.NibSq
namespace Go.Proofs.Ytpdikfmdnlhllaa.NibMath
open NibSq (sq)
/-- Times y. -/
def Tn (a : BitVec 8) : BitVec 8 := if a &&& 8#8 = 0#8 then a <<< 1 else ((a <<< 1) ^^^ 3#8) &&& 15#8
/-- The product, of n bits of b. -/
def Pn : Nat → BitVec 8 → BitVec 8 → BitVec 8
  | 0, _, _ => 0#8
  | n + 1, a, b => (if b.getLsbD 0 then a else 0#8) ^^^ Pn n (Tn a) (b >>> 1)
theorem Pn_zero : ∀ n a, Pn n a 0#8 = 0#8
  | 0, _ => rfl
  | n + 1, a => by simp [Pn, Pn_zero n]
def mul (a b : BitVec 8) : BitVec 8 := Pn 4 (a &&& 15#8) (b &&& 15#8)
/-- An element as a byte. -/
def up (x : BitVec 4) : BitVec 8 := x.setWidth 8
def lo (a : BitVec 8) : BitVec 4 := a.setWidth 4
theorem up_lo : ∀ a, up (lo a) = a &&& 15#8 := by decide +kernel
theorem and_idem (a : BitVec 8) : a &&& 15#8 &&& 15#8 = a &&& 15#8 := by rw [BitVec.and_assoc, BitVec.and_self]
theorem mul_lo (a b : BitVec 8) : mul a b = mul (up (lo a)) (up (lo b)) := by simp only [up_lo, mul, and_idem]
theorem nibs (P : BitVec 8 → Prop) (h : ∀ x : BitVec 4, P (up x)) (hl : ∀ a, P (up (lo a)) → P a) (a : BitVec 8) : P a := hl a (h (lo a))
theorem comm4 : ∀ x y : BitVec 4, mul (up x) (up y) = mul (up y) (up x) := by decide +kernel
theorem mul_comm (a b : BitVec 8) : mul a b = mul b a := by rw [mul_lo a b, mul_lo b a, comm4]
theorem mul_nib4 : ∀ x y : BitVec 4, mul (up x) (up y) &&& 15#8 = mul (up x) (up y) := by decide +kernel
theorem mul_nib (a b : BitVec 8) : mul a b &&& 15#8 = mul a b := by rw [mul_lo a b, mul_nib4]
theorem mul_low (a b : BitVec 8) : mul (a &&& 15#8) b = mul a b := by simp only [mul, and_idem]
theorem mul_low' (a b : BitVec 8) : mul a (b &&& 15#8) = mul a b := by simp only [mul, and_idem]
/-- The table of products as elements: quick to look into. -/
def m4 (x y : BitVec 4) : BitVec 4 := lo (mul (up x) (up y))
def basis4 : List (BitVec 4) := [1#4, 2#4, 4#4, 8#4]
theorem xor_lo : ∀ a b : BitVec 8, lo (a ^^^ b) = lo a ^^^ lo b := fun a b => by unfold lo; simp
theorem up_xor (x y : BitVec 4) : up (x ^^^ y) = up x ^^^ up y := by unfold up; simp
theorem dist4 : ∀ x y z : BitVec 4, mul (up x) (up y ^^^ up z) = mul (up x) (up y) ^^^ mul (up x) (up z) := by decide +kernel
theorem mul_xor (a b c : BitVec 8) : mul a (b ^^^ c) = mul a b ^^^ mul a c := by
  rw [mul_lo a (b ^^^ c), mul_lo a b, mul_lo a c, xor_lo, up_xor, dist4]
theorem xor_mul (a b c : BitVec 8) : mul (b ^^^ c) a = mul b a ^^^ mul c a := by rw [mul_comm, mul_xor, mul_comm a b, mul_comm a c]
theorem assoc4 : ∀ x y z : BitVec 4, mul (up x) (mul (up y) (up z)) = mul (mul (up x) (up y)) (up z) := by decide +kernel
theorem mul_assoc (a b c : BitVec 8) : mul a (mul b c) = mul (mul a b) c := by
  rw [mul_lo b c, ← mul_low a, ← up_lo, assoc4, ← mul_low' _ c, ← up_lo, mul_lo a b]
theorem one_mul : ∀ a, mul 1#8 a = a &&& 15#8 := by decide +kernel
theorem mul_one (a : BitVec 8) : mul a 1#8 = a &&& 15#8 := by rw [mul_comm, one_mul]
theorem sq_mul : ∀ a, sq a = mul a a := by decide +kernel
/-- Powers. -/
def pow (a : BitVec 8) : Nat → BitVec 8
  | 0 => 1#8
  | n + 1 => mul (pow a n) a
theorem pow_nib (a : BitVec 8) : ∀ n, pow a n &&& 15#8 = pow a n
  | 0 => show 1#8 &&& 15#8 = 1#8 by decide
  | n + 1 => mul_nib _ _
theorem pow_add (a : BitVec 8) (m : Nat) : ∀ n, pow a (m + n) = mul (pow a m) (pow a n)
  | 0 => by rw [Nat.add_zero, show pow a 0 = 1#8 from rfl, mul_one, pow_nib]
  | n + 1 => by rw [← Nat.add_assoc]; simp only [pow, pow_add a m n, mul_assoc]
theorem pow_sq (a : BitVec 8) : ∀ n, pow (sq a) n = pow a (2 * n)
  | 0 => rfl
  | n + 1 => by
    rw [show 2 * (n + 1) = 2 * n + 1 + 1 by omega]
    show mul (pow (sq a) n) (sq a) = mul (mul (pow a (2 * n)) a) a
    rw [pow_sq a n, sq_mul, mul_assoc]
theorem pow16 : ∀ a, pow a 16 = pow a 1 := by decide +kernel
theorem pow_step (a : BitVec 8) (n : Nat) : pow a (n + 1 + 15) = pow a (n + 1) := by
  rw [show n + 1 + 15 = n + 16 by omega, pow_add, pow16, ← pow_add]
theorem pow_red (a : BitVec 8) (n : Nat) (h : 1 ≤ n) : pow a n = pow a ((n - 1) % 15 + 1) := by
  obtain ⟨m, rfl⟩ : ∃ m, n = m + 1 := ⟨n - 1, by omega⟩
  rw [Nat.add_sub_cancel]
  have key : ∀ q r, pow a (15 * q + r + 1) = pow a (r + 1) := by
    intro q
    induction q with
    | zero => intro r; rw [Nat.mul_zero, Nat.zero_add]
    | succ q ih => intro r; rw [show 15 * (q + 1) + r + 1 = (15 * q + r) + 1 + 15 by omega, pow_step, ih]
  conv => lhs; rw [← Nat.div_add_mod m 15]
  exact key _ _
/-- The reference's product. -/
def S4 : Nat → BitVec 8 → Nat → Nat → Nat
  | 0, _, _, _ => 0
  | m + 1, b, i, x => (if b.getLsbD i then x else 0) ^^^ S4 m b (i + 1) (x * 2)
def R4 : Nat → Nat → Nat
  | 0, n => n
  | m + 1, n => R4 m (if n.testBit (m + 4) then n ^^^ (19 * 2 ^ m) else n)
theorem bits_lo : ∀ a, (up (lo a)).getLsbD 0 = a.getLsbD 0 ∧ (up (lo a)).getLsbD 1 = a.getLsbD 1 ∧ (up (lo a)).getLsbD 2 = a.getLsbD 2 ∧ (up (lo a)).getLsbD 3 = a.getLsbD 3 := by decide +kernel
theorem S4_lo (a : BitVec 8) (x : Nat) : S4 4 a 0 x = S4 4 (up (lo a)) 0 x := by
  have h := bits_lo a
  simp only [S4, Nat.zero_add, Nat.reduceAdd, h.1, h.2.1, h.2.2.1, h.2.2.2]
theorem low_nat (a : BitVec 8) : a.toNat % 16 = (up (lo a)).toNat := by
  simp [up, lo]
  omega
theorem ref4 : ∀ x y : BitVec 4, R4 3 (S4 4 (up y) 0 (up x).toNat) % 256 = (mul (up x) (up y)).toNat := by decide +kernel
theorem ref_eq (a b : BitVec 8) : R4 3 (S4 4 b 0 (a.toNat % 16)) % 256 = (mul a b).toNat := by rw [S4_lo, low_nat, ref4, mul_lo a b]
theorem S4_lt : ∀ m b i x j, x < 2 ^ j → S4 m b i x < 2 ^ (j + m)
  | 0, _, _, _, j, _ => Nat.two_pow_pos _
  | m + 1, b, i, x, j, h => by
    have h1 := S4_lt m b (i + 1) (x * 2) (j + 1) (by rw [Nat.pow_succ]; omega)
    rw [show j + 1 + m = j + (m + 1) by omega] at h1
    refine Nat.xor_lt_two_pow ?_ h1
    split
    · exact Nat.lt_of_lt_of_le h (Nat.pow_le_pow_right (by decide) (by omega))
    · exact Nat.two_pow_pos _
/-- Marks, inverses. -/
def mark : Nat → BitVec 8 → BitVec 8 → BitVec 8
  | 0, _, o => o
  | n + 1, a, o => mark n (sq a) (o ^^^ (a &&& 15#8))
def inv (a : BitVec 8) : BitVec 8 := mul (mul (sq a) (sq (sq a))) (sq (sq (sq a)))
/-- The first number from i on, of d, that f likes. -/
def first (f : Nat → Bool) : Nat → Nat → Option Nat
  | 0, _ => none
  | d + 1, i => if f i then some i else first f d (i + 1)
theorem inv_first : ∀ a : BitVec 8, ((first (fun i => mul a (BitVec.ofNat 8 i) == 1#8) 15 1).getD 0) = (inv a).toNat := by decide +kernel
theorem mark_ref : ∀ a : BitVec 8, mark 4 a 0#8 = (a &&& 15#8) ^^^ pow a 2 ^^^ pow a 4 ^^^ pow a 8 := by decide +kernel
theorem apart_ref : ∀ a : BitVec 8, (first (fun z => mul (BitVec.ofNat 8 z) (BitVec.ofNat 8 z) ^^^ BitVec.ofNat 8 z == a &&& 15#8) 16 0).isNone = (mark 4 a 0#8 == 1#8) := by decide +kernel
end Go.Proofs.Ytpdikfmdnlhllaa.NibMath
namespace Go.Proofs.Ytpdikfmdnlhllaa.GfMath
/-- Additive maps into bytes told as numbers. -/
def Add (f : BitVec 8 → Nat) : Prop := ∀ x y, f (x ^^^ y) = f x ^^^ f y
theorem spread : ∀ x : BitVec 8, x = (if x.getLsbD 0 then 1#8 else 0#8) ^^^ ((if x.getLsbD 1 then 2#8 else 0#8) ^^^ ((if x.getLsbD 2 then 4#8 else 0#8) ^^^ ((if x.getLsbD 3 then 8#8 else 0#8) ^^^
    ((if x.getLsbD 4 then 16#8 else 0#8) ^^^ ((if x.getLsbD 5 then 32#8 else 0#8) ^^^ ((if x.getLsbD 6 then 64#8 else 0#8) ^^^ (if x.getLsbD 7 then 128#8 else 0#8))))))) := by decide +kernel
theorem Add.zero {f : BitVec 8 → Nat} (h : Add f) : f 0#8 = 0 := by
  have := h 0#8 0#8
  simpa using this
theorem Add.ite {f : BitVec 8 → Nat} (h : Add f) (c : Bool) (v : BitVec 8) : f (if c = true then v else 0#8) = if c = true then f v else 0 := by
  cases c
  · simpa using h.zero
  · simp
theorem Add.ext {f g : BitVec 8 → Nat} (hf : Add f) (hg : Add g) (h1 : f 1#8 = g 1#8) (h2 : f 2#8 = g 2#8) (h4 : f 4#8 = g 4#8) (h8 : f 8#8 = g 8#8) (h16 : f 16#8 = g 16#8) (h32 : f 32#8 = g 32#8) (h64 : f 64#8 = g 64#8) (h128 : f 128#8 = g 128#8) (x : BitVec 8) : f x = g x := by
  rw [spread x]
  simp only [hf _ _, hg _ _, hf.ite, hg.ite, h1, h2, h4, h8, h16, h32, h64, h128]
def basis : List (BitVec 8) := [1#8, 2#8, 4#8, 8#8, 16#8, 32#8, 64#8, 128#8]
theorem Add.ext' {f g : BitVec 8 → Nat} (hf : Add f) (hg : Add g) (h : ∀ e ∈ basis, f e = g e) (x : BitVec 8) : f x = g x :=
  hf.ext hg (h _ (by decide)) (h _ (by decide)) (h _ (by decide)) (h _ (by decide)) (h _ (by decide)) (h _ (by decide)) (h _ (by decide)) (h _ (by decide)) x
/-- Twice. -/
def T (a : BitVec 8) : BitVec 8 := if a &&& 128#8 = 0#8 then a <<< 1 else (a <<< 1) ^^^ 27#8
theorem T_alt : ∀ a, T a = (a <<< 1) ^^^ (if a.getLsbD 7 then 27#8 else 0#8) := by decide +kernel
theorem xor4 (x y z : BitVec 8) : x ^^^ y ^^^ (x ^^^ z) = y ^^^ z := by
  rw [BitVec.xor_comm x y, BitVec.xor_assoc, ← BitVec.xor_assoc x x z, BitVec.xor_self, BitVec.zero_xor]
theorem T_xor (a b : BitVec 8) : T (a ^^^ b) = T a ^^^ T b := by
  simp only [T_alt, BitVec.shiftLeft_xor_distrib, BitVec.getLsbD_xor]
  cases a.getLsbD 7 <;> cases b.getLsbD 7 <;> simp only [Bool.xor_false, Bool.xor_true, Bool.not_false, Bool.not_true, if_true, if_false, Bool.false_eq_true, BitVec.xor_zero]
  · ac_rfl
  · ac_rfl
  · rw [BitVec.xor_comm (b <<< 1) 27#8, ← BitVec.xor_assoc, BitVec.xor_assoc _ 27#8 27#8, BitVec.xor_self, BitVec.xor_zero]
/-- The product, of n bits of b. -/
def P : Nat → BitVec 8 → BitVec 8 → BitVec 8
  | 0, _, _ => 0#8
  | n + 1, a, b => (if b.getLsbD 0 then a else 0#8) ^^^ P n (T a) (b >>> 1)
def mul (a b : BitVec 8) : BitVec 8 := P 8 a b
theorem P_left : ∀ n a b c, P n (a ^^^ b) c = P n a c ^^^ P n b c
  | 0, _, _, _ => by simp [P]
  | n + 1, a, b, c => by
    simp only [P, T_xor, P_left n]
    cases c.getLsbD 0 <;> simp <;> ac_rfl
theorem P_right : ∀ n a b c, P n a (b ^^^ c) = P n a b ^^^ P n a c
  | 0, _, _, _ => by simp [P]
  | n + 1, a, b, c => by
    simp only [P, BitVec.ushiftRight_xor_distrib, P_right n, BitVec.getLsbD_xor]
    cases b.getLsbD 0 <;> cases c.getLsbD 0 <;> simp [xor4]
    · ac_rfl
    · ac_rfl
theorem P_zero : ∀ n a, P n a 0#8 = 0#8
  | 0, _ => rfl
  | n + 1, a => by simp [P, P_zero n]
theorem mul_left (a b c) : mul (a ^^^ b) c = mul a c ^^^ mul b c := P_left 8 a b c
theorem mul_right (a b c) : mul a (b ^^^ c) = mul a b ^^^ mul a c := P_right 8 a b c
theorem toNat_xor (a b : BitVec 8) : (a ^^^ b).toNat = a.toNat ^^^ b.toNat := BitVec.toNat_xor ..
theorem add_left (c) : Add (fun a => (mul a c).toNat) := fun x y => by simp only [mul_left, toNat_xor]
theorem add_right (c) : Add (fun a => (mul c a).toNat) := fun x y => by simp only [mul_right, toNat_xor]
theorem mul_comm (a b : BitVec 8) : mul a b = mul b a := by
  apply BitVec.eq_of_toNat_eq
  refine Add.ext' (f := fun a => (mul a b).toNat) (g := fun a => (mul b a).toNat) (add_left b) (add_right b) ?_ a
  intro e he
  refine Add.ext' (f := fun b => (mul e b).toNat) (g := fun b => (mul b e).toNat) (add_right e) (add_left e) ?_ b
  revert e
  decide +kernel
theorem mul_assoc (a b c : BitVec 8) : mul a (mul b c) = mul (mul a b) c := by
  apply BitVec.eq_of_toNat_eq
  refine Add.ext' (f := fun a => (mul a (mul b c)).toNat) (g := fun a => (mul (mul a b) c).toNat) (fun x y => by simp only [mul_left, toNat_xor]) (fun x y => by simp only [mul_left, toNat_xor]) ?_ a
  intro e he
  refine Add.ext' (f := fun b => (mul e (mul b c)).toNat) (g := fun b => (mul (mul e b) c).toNat) (fun x y => by simp only [mul_left, mul_right, toNat_xor]) (fun x y => by simp only [mul_left, mul_right, toNat_xor]) ?_ b
  intro d hd
  refine Add.ext' (f := fun c => (mul e (mul d c)).toNat) (g := fun c => (mul (mul e d) c).toNat) (fun x y => by simp only [mul_right, toNat_xor]) (fun x y => by simp only [mul_right, toNat_xor]) ?_ c
  revert e d
  decide +kernel
theorem mul_one (a : BitVec 8) : mul a 1#8 = a := by
  revert a; decide +kernel
theorem one_mul (a : BitVec 8) : mul 1#8 a = a := by rw [mul_comm, mul_one]
theorem mul_zero (a : BitVec 8) : mul a 0#8 = 0#8 := P_zero 8 a
theorem zero_mul (a : BitVec 8) : mul 0#8 a = 0#8 := by rw [mul_comm, mul_zero]
theorem mul_two (a : BitVec 8) : mul a 2#8 = T a := by revert a; decide +kernel
/-- Powers. -/
def pow (a : BitVec 8) : Nat → BitVec 8
  | 0 => 1#8
  | n + 1 => mul (pow a n) a
theorem pow_add (a : BitVec 8) (m : Nat) : ∀ n, pow a (m + n) = mul (pow a m) (pow a n)
  | 0 => by simp [pow, mul_one]
  | n + 1 => by rw [← Nat.add_assoc]; simp only [pow, pow_add a m n, mul_assoc]
theorem pow_mul (a : BitVec 8) (m : Nat) : ∀ n, pow a (m * n) = pow (pow a m) n
  | 0 => by simp [pow]
  | n + 1 => by rw [Nat.mul_succ, pow_add, pow_mul a m n]; rfl
theorem pow_two (a : BitVec 8) : pow a 2 = mul a a := by simp [pow, one_mul]
theorem pow_sq (a : BitVec 8) (n : Nat) : pow (mul a a) n = pow a (2 * n) := by rw [pow_mul, pow_two]
theorem one_pow : ∀ n, pow 1#8 n = 1#8
  | 0 => rfl
  | n + 1 => by simp [pow, one_pow n, mul_one]
theorem zero_pow (n : Nat) : pow 0#8 (n + 1) = 0#8 := by simp [pow, mul_zero]
/-- 3's powers: the first 255, one behind the other. -/
def exps : Nat → BitVec 8 → List (BitVec 8)
  | 0, _ => []
  | n + 1, x => x :: exps n (mul x 3#8)
theorem exps_length : ∀ n x, (exps n x).length = n
  | 0, _ => rfl
  | n + 1, x => by simp [exps, exps_length n]
theorem exps_get : ∀ n x i, i < n → (exps n x)[i]? = some (mul x (pow 3#8 i))
  | 0, _, _, h => by omega
  | n + 1, x, 0, _ => by simp [exps, pow, mul_one]
  | n + 1, x, i + 1, h => by
    simp only [exps, List.getElem?_cons_succ]
    rw [exps_get n _ i (by omega), ← mul_assoc]
    congr 2
    rw [show i + 1 = 1 + i by omega, pow_add]
    simp [pow, one_mul]
theorem exps_all : ∀ a : BitVec 8, a ≠ 0#8 → a ∈ exps 255 1#8 := by decide +kernel
theorem exps_nodup : (exps 255 1#8).Nodup := by decide +kernel
theorem pow_255 : pow 3#8 255 = 1#8 := by decide +kernel
theorem is_pow (a : BitVec 8) (h : a ≠ 0#8) : ∃ e, e < 255 ∧ a = pow 3#8 e := by
  obtain ⟨i, hi, he⟩ := List.getElem_of_mem (exps_all a h)
  rw [exps_length] at hi
  refine ⟨i, hi, ?_⟩
  have := exps_get 255 1#8 i hi
  rw [List.getElem?_eq_getElem (by rw [exps_length]; exact hi), he, one_mul] at this
  exact Option.some.inj this
theorem pow_inj {i j : Nat} (hi : i < 255) (hj : j < 255) (h : pow 3#8 i = pow 3#8 j) : i = j := by
  have a := exps_get 255 1#8 i hi
  have b := exps_get 255 1#8 j hj
  rw [one_mul] at a b
  rw [h] at a
  rw [List.getElem?_eq_getElem (by rw [exps_length]; exact hi)] at a
  rw [List.getElem?_eq_getElem (by rw [exps_length]; exact hj)] at b
  have e := Option.some.inj (a.trans b.symm)
  rcases Nat.lt_trichotomy i j with h' | h' | h'
  · exact absurd e (List.pairwise_iff_getElem.1 exps_nodup _ _ (by rw [exps_length]; exact hi) (by rw [exps_length]; exact hj) h')
  · exact h'
  · exact absurd e.symm (List.pairwise_iff_getElem.1 exps_nodup _ _ (by rw [exps_length]; exact hj) (by rw [exps_length]; exact hi) h')
theorem pow_mod (n : Nat) : pow 3#8 n = pow 3#8 (n % 255) := by
  conv => lhs; rw [← Nat.div_add_mod n 255, pow_add, pow_mul, pow_255, one_pow, one_mul]
theorem pow_one_iff (n : Nat) : pow 3#8 n = 1#8 ↔ n % 255 = 0 := by
  rw [pow_mod]
  constructor
  · intro h
    exact pow_inj (Nat.mod_lt _ (by decide)) (by decide) (j := 0) h
  · intro h; rw [h]; rfl
theorem pow_ne_zero (n : Nat) : pow 3#8 n ≠ 0#8 := by
  intro h
  have : mul (pow 3#8 n) (pow 3#8 (255 - n % 255)) = 1#8 := by
    rw [← pow_add, pow_one_iff]
    have := Nat.mod_lt n (show 0 < 255 by decide)
    omega
  rw [h, zero_mul] at this
  exact absurd this (by decide)
theorem pow_255' (a : BitVec 8) (h : a ≠ 0#8) : pow a 255 = 1#8 := by
  obtain ⟨e, _, rfl⟩ := is_pow a h
  rw [← pow_mul, pow_one_iff]; omega
theorem mul_inv (a : BitVec 8) (h : a ≠ 0#8) : mul a (pow a 254) = 1#8 := by
  have := pow_255' a h
  rw [show 255 = 254 + 1 from rfl, pow] at this
  rw [mul_comm]; exact this
theorem pow_red (a : BitVec 8) (n : Nat) (h : 1 ≤ n) : pow a n = pow a ((n - 1) % 255 + 1) := by
  by_cases h0 : a = 0#8
  · subst h0
    obtain ⟨m, rfl⟩ : ∃ m, n = m + 1 := ⟨n - 1, by omega⟩
    rw [zero_pow, zero_pow]
  · obtain ⟨e, _, rfl⟩ := is_pow a h0
    rw [← pow_mul, ← pow_mul, pow_mod, pow_mod (e * ((n - 1) % 255 + 1))]
    congr 1
    have : n = 255 * ((n - 1) / 255) + ((n - 1) % 255 + 1) := by omega
    conv => lhs; rw [this, Nat.mul_add]
    rw [← Nat.mul_assoc, Nat.mul_comm e 255, Nat.mul_assoc, Nat.mul_add_mod]
theorem inv_uniq (a b : BitVec 8) (h : mul a b = 1#8) : b = pow a 254 := by
  have h0 : a ≠ 0#8 := by rintro rfl; rw [zero_mul] at h; exact absurd h (by decide)
  calc b = mul 1#8 b := (one_mul b).symm
    _ = mul (mul a (pow a 254)) b := by rw [mul_inv a h0]
    _ = mul (pow a 254) (mul a b) := by rw [mul_comm a, ← mul_assoc]
    _ = pow a 254 := by rw [h, mul_one]
theorem sqrt (a : BitVec 8) : mul (pow a 128) (pow a 128) = a := by
  rw [← pow_add]
  show pow a 256 = a
  rw [pow_red a 256 (by decide)]
  show pow a 1 = a
  simp [pow, one_mul]
/-- The reference's product: the polynomials' product .. -/
def S : Nat → BitVec 8 → Nat → Nat → Nat
  | 0, _, _, _ => 0
  | m + 1, b, i, x => (if b.getLsbD i then x else 0) ^^^ S m b (i + 1) (x * 2)
/-- .. and what is left of it. -/
def R2 : Nat → Nat → Nat
  | 0, n => n
  | m + 1, n => R2 m (if n.testBit (m + 8) then n ^^^ (283 * 2 ^ m) else n)
theorem dbl_xor (x y : Nat) : (x ^^^ y) * 2 = (x * 2) ^^^ (y * 2) := by
  have := Nat.shiftLeft_xor_distrib (a := x) (b := y) (i := 1)
  simpa [Nat.shiftLeft_eq] using this
theorem nxor4 (x y z : Nat) : x ^^^ y ^^^ (x ^^^ z) = y ^^^ z := by
  rw [Nat.xor_comm x y, Nat.xor_assoc, ← Nat.xor_assoc x x z, Nat.xor_self, Nat.zero_xor]
theorem S_x : ∀ m b i x y, S m b i (x ^^^ y) = S m b i x ^^^ S m b i y
  | 0, _, _, _, _ => by simp [S]
  | m + 1, b, i, x, y => by
    simp only [S, dbl_xor, S_x m]
    cases b.getLsbD i <;> simp <;> ac_rfl
theorem S_b : ∀ m b c i x, S m (b ^^^ c) i x = S m b i x ^^^ S m c i x
  | 0, _, _, _, _ => by simp [S]
  | m + 1, b, c, i, x => by
    simp only [S, S_b m, BitVec.getLsbD_xor]
    cases b.getLsbD i <;> cases c.getLsbD i <;> simp [nxor4]
    · ac_rfl
    · ac_rfl
theorem R2_xor : ∀ m x y, R2 m (x ^^^ y) = R2 m x ^^^ R2 m y
  | 0, _, _ => rfl
  | m + 1, x, y => by
    simp only [R2]
    rw [← R2_xor m]
    congr 1
    rw [Nat.testBit_xor]
    cases x.testBit (m + 8) <;> cases y.testBit (m + 8) <;> simp only [Bool.xor_false, Bool.xor_true, Bool.not_false, Bool.not_true, if_true, if_false, Bool.false_eq_true]
    · ac_rfl
    · ac_rfl
    · rw [Nat.xor_comm x (283 * 2 ^ m), Nat.xor_comm y (283 * 2 ^ m), nxor4]
def rmul (a b : BitVec 8) : Nat := R2 7 (S 8 b 0 a.toNat) % 256
theorem mod_xor (x y : Nat) : (x ^^^ y) % 256 = (x % 256) ^^^ (y % 256) := Nat.xor_mod_two_pow (n := 8) ..
theorem rmul_eq (a b : BitVec 8) : rmul a b = (mul a b).toNat := by
  refine Add.ext' (f := fun a => rmul a b) (g := fun a => (mul a b).toNat) (fun x y => by simp only [rmul, toNat_xor, S_x, R2_xor, mod_xor]) (add_left b) ?_ a
  intro e he
  refine Add.ext' (f := fun b => rmul e b) (g := fun b => (mul e b).toNat) (fun x y => by simp only [rmul, S_b, R2_xor, mod_xor]) (add_right e) ?_ b
  revert e
  decide +kernel
theorem S_lt : ∀ m b i x j, x < 2 ^ j → S m b i x < 2 ^ (j + m)
  | 0, _, _, _, j, _ => Nat.two_pow_pos _
  | m + 1, b, i, x, j, h => by
    have h1 := S_lt m b (i + 1) (x * 2) (j + 1) (by rw [Nat.pow_succ]; omega)
    rw [show j + 1 + m = j + (m + 1) by omega] at h1
    refine Nat.xor_lt_two_pow ?_ h1
    split
    · exact Nat.lt_of_lt_of_le h (Nat.pow_le_pow_right (by decide) (by omega))
    · exact Nat.two_pow_pos _
/-- An element's order: the least number, from 1 on, whose power is 1. -/
def firstOf (e : Nat) : List Nat → Option Nat
  | [] => none
  | n :: l => if (e * n) % 255 = 0 then some n else firstOf e l
theorem orders : ∀ e, e < 255 → firstOf e (List.range' 1 255) = some ((firstOf e [1, 3, 5, 15, 17, 51, 85]).getD 255) := by decide +kernel
theorem orders_div : ∀ e, e < 255 → 255 % ((firstOf e [1, 3, 5, 15, 17, 51, 85]).getD 255) = 0 ∧ (e * ((firstOf e [1, 3, 5, 15, 17, 51, 85]).getD 255)) % 255 = 0 := by decide +kernel
end Go.Proofs.Ytpdikfmdnlhllaa.GfMath
namespace Go.Proofs.Ytpdikfmdnlhllaa.TowMath
open NibMath NibSq
def hi (a : BitVec 8) : BitVec 8 := a >>> 4
def lw (a : BitVec 8) : BitVec 8 := a &&& 15#8
/-- The product, as the code makes it. -/
def tmul (a b : BitVec 8) : BitVec 8 :=
  (((mul (hi a ^^^ lw a) (hi b ^^^ lw b) ^^^ mul (lw a) (lw b)) <<< 4) ||| mul (lw a) (lw b)) ^^^ mul (mul (hi a) (hi b)) 8#8
/-- .. and as the document does. -/
def rmul (a b : BitVec 8) : BitVec 8 :=
  ((mul (hi a) (lw b) ^^^ mul (lw a) (hi b) ^^^ mul (hi a) (hi b)) <<< 4) + (mul (lw a) (lw b) ^^^ mul (mul (hi a) (hi b)) 8#8)
theorem ext8 {a b : BitVec 8} (h : ∀ i, i < 8 → a.getLsbD i = b.getLsbD i) : a = b := BitVec.eq_of_getLsbD_eq fun i hi => h i hi
theorem hi_xor (a b : BitVec 8) : hi (a ^^^ b) = hi a ^^^ hi b := ext8 fun i _ => by simp [hi]
theorem lw_xor (a b : BitVec 8) : lw (a ^^^ b) = lw a ^^^ lw b := ext8 fun i _ => by
  simp only [lw, BitVec.getLsbD_and, BitVec.getLsbD_xor]
  cases a.getLsbD i <;> cases b.getLsbD i <;> cases (15#8).getLsbD i <;> rfl
theorem lw_bit (l : BitVec 8) (h : l &&& 15#8 = l) (i : Nat) (hi : 4 ≤ i) (h8 : i < 8) : l.getLsbD i = false := by
  rw [← h, BitVec.getLsbD_and]
  have : (15#8).getLsbD i = false := by
    have : i = 4 ∨ i = 5 ∨ i = 6 ∨ i = 7 := by omega
    rcases this with rfl | rfl | rfl | rfl <;> rfl
  rw [this, Bool.and_false]
/-- A half above, and one below. -/
theorem or_xor (m l : BitVec 8) (h : l &&& 15#8 = l) : (m <<< 4) ||| l = (m <<< 4) ^^^ l := ext8 fun i h8 => by
  rw [BitVec.getLsbD_or, BitVec.getLsbD_xor, BitVec.getLsbD_shiftLeft]
  by_cases hi : 4 ≤ i
  · rw [lw_bit l h i hi h8]; simp
  · simp [show i < 4 by omega]
theorem add_xor (m l : BitVec 8) (h : l &&& 15#8 = l) : (m <<< 4) + l = (m <<< 4) ^^^ l := by
  rw [← or_xor m l h]
  refine BitVec.add_eq_or_of_and_eq_zero _ _ (ext8 fun i h8 => ?_)
  rw [BitVec.getLsbD_and, BitVec.getLsbD_shiftLeft]
  by_cases hi : 4 ≤ i
  · rw [lw_bit l h i hi h8]; simp
  · simp [show i < 4 by omega]
theorem shl_xor (a b : BitVec 8) : (a ^^^ b) <<< 4 = (a <<< 4) ^^^ (b <<< 4) := ext8 fun i h8 => by
  simp only [BitVec.getLsbD_shiftLeft, BitVec.getLsbD_xor]
  cases decide (i < 4) <;> simp [h8]
/-- The four products. -/
def sm (a b : BitVec 8) : BitVec 8 :=
  ((mul (hi a) (lw b) ^^^ mul (lw a) (hi b) ^^^ mul (hi a) (hi b)) <<< 4) ^^^ (mul (lw a) (lw b) ^^^ mul (mul (hi a) (hi b)) 8#8)
theorem tmul_sm (a b : BitVec 8) : tmul a b = sm a b := by
  unfold tmul sm
  rw [or_xor _ _ (mul_nib _ _), mul_xor, xor_mul, xor_mul]
  refine (BitVec.xor_assoc _ _ _).trans ?_
  congr 2
  exact ext8 fun i _ => by
    simp only [BitVec.getLsbD_xor]
    cases (mul (hi a) (hi b)).getLsbD i <;> cases (mul (lw a) (hi b)).getLsbD i <;> cases (mul (hi a) (lw b)).getLsbD i <;> cases (mul (lw a) (lw b)).getLsbD i <;> rfl
theorem rmul_sm (a b : BitVec 8) : rmul a b = sm a b := by
  unfold rmul sm
  refine add_xor _ _ ?_
  rw [← mul_nib (lw a), ← mul_nib (mul (hi a) (hi b))]
  generalize mul (lw a) (lw b) = p
  generalize mul (mul (hi a) (hi b)) 8#8 = q
  revert p q
  intro p q
  exact ext8 fun i _ => by
    simp only [BitVec.getLsbD_and, BitVec.getLsbD_xor]
    cases p.getLsbD i <;> cases q.getLsbD i <;> cases (15#8).getLsbD i <;> rfl
theorem rmul_eq (a b : BitVec 8) : rmul a b = tmul a b := by rw [rmul_sm, tmul_sm]
theorem tmul_comm (a b : BitVec 8) : tmul a b = tmul b a := by
  rw [tmul_sm, tmul_sm]
  unfold sm
  rw [mul_comm (hi a) (lw b), mul_comm (lw a) (hi b), mul_comm (hi a) (hi b), mul_comm (lw a) (lw b), BitVec.xor_comm (mul (lw b) (hi a))]
theorem tmul_xor (a b c : BitVec 8) : tmul a (b ^^^ c) = tmul a b ^^^ tmul a c := by
  simp only [tmul_sm, sm, hi_xor, lw_xor, mul_xor, xor_mul, shl_xor]
  exact ext8 fun i _ => by
    simp only [BitVec.getLsbD_xor]
    generalize (mul (hi a) (lw b) <<< 4).getLsbD i = x1
    generalize (mul (hi a) (lw c) <<< 4).getLsbD i = x2
    generalize (mul (lw a) (hi b) <<< 4).getLsbD i = x3
    generalize (mul (lw a) (hi c) <<< 4).getLsbD i = x4
    generalize (mul (hi a) (hi b) <<< 4).getLsbD i = x5
    generalize (mul (hi a) (hi c) <<< 4).getLsbD i = x6
    generalize (mul (lw a) (lw b)).getLsbD i = x7
    generalize (mul (lw a) (lw c)).getLsbD i = x8
    generalize (mul (mul (hi a) (hi b)) 8#8).getLsbD i = x9
    generalize (mul (mul (hi a) (hi c)) 8#8).getLsbD i = x10
    cases x1 <;> cases x2 <;> cases x3 <;> cases x4 <;> cases x5 <;> cases x6 <;> cases x7 <;> cases x8 <;> cases x9 <;> cases x10 <;> rfl
theorem xor_tmul (a b c : BitVec 8) : tmul (b ^^^ c) a = tmul b a ^^^ tmul c a := by rw [tmul_comm, tmul_xor, tmul_comm a b, tmul_comm a c]
theorem tmul_one : ∀ a, tmul a 1#8 = a := by decide +kernel
theorem tmul_zero : ∀ a, tmul a 0#8 = 0#8 := by decide +kernel
/-- What keeps sums and agrees on the units agrees. -/
def unit8 (i : Nat) : BitVec 8 := 1#8 <<< i
def build (x : BitVec 8) : Nat → BitVec 8
  | 0 => 0#8
  | n + 1 => build x n ^^^ (if x.getLsbD n then unit8 n else 0#8)
theorem build_all : ∀ x, build x 8 = x := by decide +kernel
theorem lin_ext {F G : BitVec 8 → BitVec 8} (hF : ∀ x y, F (x ^^^ y) = F x ^^^ F y) (hG : ∀ x y, G (x ^^^ y) = G x ^^^ G y) (h : ∀ i, i < 8 → F (unit8 i) = G (unit8 i)) (x : BitVec 8) : F x = G x := by
  have f0 : F 0#8 = 0#8 := by have := hF 0#8 0#8; rwa [BitVec.xor_self, BitVec.xor_self] at this
  have g0 : G 0#8 = 0#8 := by have := hG 0#8 0#8; rwa [BitVec.xor_self, BitVec.xor_self] at this
  have key : ∀ n, n ≤ 8 → F (build x n) = G (build x n) := by
    intro n
    induction n with
    | zero => intro _; rw [build, f0, g0]
    | succ n ih =>
      intro hn
      rw [build, hF, hG, ih (by omega)]
      cases x.getLsbD n
      · simp only [Bool.false_eq_true, if_false, f0, g0]
      · simp only [if_true, h n (by omega)]
  have := key 8 (Nat.le_refl _)
  rwa [build_all] at this
theorem assoc_units : ∀ i j k : Fin 8, tmul (unit8 i.val) (tmul (unit8 j.val) (unit8 k.val)) = tmul (tmul (unit8 i.val) (unit8 j.val)) (unit8 k.val) := by decide +kernel
theorem tmul_assoc (a b c : BitVec 8) : tmul a (tmul b c) = tmul (tmul a b) c := by
  refine lin_ext (F := fun a => tmul a (tmul b c)) (G := fun a => tmul (tmul a b) c) (fun x y => by simp only [xor_tmul]) (fun x y => by simp only [xor_tmul]) (fun i hi => ?_) a
  refine lin_ext (F := fun b => tmul (unit8 i) (tmul b c)) (G := fun b => tmul (tmul (unit8 i) b) c) (fun x y => by simp only [xor_tmul, tmul_xor]) (fun x y => by simp only [xor_tmul, tmul_xor]) (fun j hj => ?_) b
  refine lin_ext (F := fun c => tmul (unit8 i) (tmul (unit8 j) c)) (G := fun c => tmul (tmul (unit8 i) (unit8 j)) c) (fun x y => by simp only [tmul_xor]) (fun x y => by simp only [tmul_xor]) (fun k hk => ?_) c
  exact assoc_units ⟨i, hi⟩ ⟨j, hj⟩ ⟨k, hk⟩
def nor (a : BitVec 8) : BitVec 8 := mul (mul (hi a) (hi a)) 8#8 ^^^ mul (hi a) (lw a) ^^^ mul (lw a) (lw a)
def ninv (a : BitVec 8) : BitVec 8 := mul (mul (mul a a) (mul (mul a a) (mul a a))) (mul (mul (mul a a) (mul a a)) (mul (mul a a) (mul a a)))
def tinv (a : BitVec 8) : BitVec 8 := (mul (hi a) (ninv (nor a)) <<< 4) ||| mul (hi a ^^^ lw a) (ninv (nor a))
theorem tinv_mul : ∀ a, a = 0#8 ∨ tmul a (tinv a) = 1#8 := by decide +kernel
theorem tinv_zero : tinv 0#8 = 0#8 := by decide +kernel
theorem tinv_uniq (a b : BitVec 8) (h : tmul a b = 1#8) : b = tinv a := by
  rcases tinv_mul a with rfl | h2
  · rw [tmul_comm, tmul_zero] at h; exact absurd h (by decide)
  · have e : tmul (tmul (tinv a) a) b = b := by rw [tmul_comm (tinv a), h2, tmul_comm, tmul_one]
    rw [← e, ← tmul_assoc, h, tmul_one]
end Go.Proofs.Ytpdikfmdnlhllaa.TowMath
