/-
  The field of 256 elements made of that of 16, in plain Lean: products, norms, inverses, their laws. No Go, no condition.
-/
import Derived.Test.YtphdlidaigalkaaNibMath
namespace Go.Proofs.Ytphdlidaigalkaa.TowMath
open NibMath NibSq
def hi (a : BitVec 8) : BitVec 8 := a >>> 4
def lw (a : BitVec 8) : BitVec 8 := a &&& 15#8
/-- The product, as the code makes it. -/
def tmul (a b : BitVec 8) : BitVec 8 :=
  (((mul (hi a ^^^ lw a) (hi b ^^^ lw b) ^^^ mul (lw a) (lw b)) <<< 4) ||| mul (lw a) (lw b)) ^^^ mul (mul (hi a) (hi b)) 8#8
/-- .. and as the document does. -/
def rmul (a b : BitVec 8) : BitVec 8 :=
  ((mul (hi a) (lw b) ^^^ mul (lw a) (hi b) ^^^ mul (hi a) (hi b)) <<< 4) + (mul (lw a) (lw b) ^^^ mul (mul (hi a) (hi b)) 8#8)
theorem ext8 {a b : BitVec 8} (h : ∀ i, i < 8 → a.getLsbD i = b.getLsbD i) : a = b := BitVec.eq_of_getLsbD_eq fun i hi => h i hi
theorem hi_xor (a b : BitVec 8) : hi (a ^^^ b) = hi a ^^^ hi b := ext8 fun i _ => by simp [hi]
theorem lw_xor (a b : BitVec 8) : lw (a ^^^ b) = lw a ^^^ lw b := ext8 fun i _ => by
  simp only [lw, BitVec.getLsbD_and, BitVec.getLsbD_xor]
  cases a.getLsbD i <;> cases b.getLsbD i <;> cases (15#8).getLsbD i <;> rfl
theorem lw_bit (l : BitVec 8) (h : l &&& 15#8 = l) (i : Nat) (hi : 4 ≤ i) (h8 : i < 8) : l.getLsbD i = false := by
  rw [← h, BitVec.getLsbD_and]
  have : (15#8).getLsbD i = false := by
    have : i = 4 ∨ i = 5 ∨ i = 6 ∨ i = 7 := by omega
    rcases this with rfl | rfl | rfl | rfl <;> rfl
  rw [this, Bool.and_false]
/-- A half above, and one below. -/
theorem or_xor (m l : BitVec 8) (h : l &&& 15#8 = l) : (m <<< 4) ||| l = (m <<< 4) ^^^ l := ext8 fun i h8 => by
  rw [BitVec.getLsbD_or, BitVec.getLsbD_xor, BitVec.getLsbD_shiftLeft]
  by_cases hi : 4 ≤ i
  · rw [lw_bit l h i hi h8]; simp
  · simp [show i < 4 by omega]
theorem add_xor (m l : BitVec 8) (h : l &&& 15#8 = l) : (m <<< 4) + l = (m <<< 4) ^^^ l := by
  rw [← or_xor m l h]
  refine BitVec.add_eq_or_of_and_eq_zero _ _ (ext8 fun i h8 => ?_)
  rw [BitVec.getLsbD_and, BitVec.getLsbD_shiftLeft]
  by_cases hi : 4 ≤ i
  · rw [lw_bit l h i hi h8]; simp
  · simp [show i < 4 by omega]
theorem shl_xor (a b : BitVec 8) : (a ^^^ b) <<< 4 = (a <<< 4) ^^^ (b <<< 4) := ext8 fun i h8 => by
  simp only [BitVec.getLsbD_shiftLeft, BitVec.getLsbD_xor]
  cases decide (i < 4) <;> simp [h8]
/-- The four products. -/
def sm (a b : BitVec 8) : BitVec 8 :=
  ((mul (hi a) (lw b) ^^^ mul (lw a) (hi b) ^^^ mul (hi a) (hi b)) <<< 4) ^^^ (mul (lw a) (lw b) ^^^ mul (mul (hi a) (hi b)) 8#8)
theorem tmul_sm (a b : BitVec 8) : tmul a b = sm a b := by
  unfold tmul sm
  rw [or_xor _ _ (mul_nib _ _), mul_xor, xor_mul, xor_mul]
  refine (BitVec.xor_assoc _ _ _).trans ?_
  congr 2
  exact ext8 fun i _ => by
    simp only [BitVec.getLsbD_xor]
    cases (mul (hi a) (hi b)).getLsbD i <;> cases (mul (lw a) (hi b)).getLsbD i <;> cases (mul (hi a) (lw b)).getLsbD i <;> cases (mul (lw a) (lw b)).getLsbD i <;> rfl
theorem rmul_sm (a b : BitVec 8) : rmul a b = sm a b := by
  unfold rmul sm
  refine add_xor _ _ ?_
  rw [← mul_nib (lw a), ← mul_nib (mul (hi a) (hi b))]
  generalize mul (lw a) (lw b) = p
  generalize mul (mul (hi a) (hi b)) 8#8 = q
  revert p q
  intro p q
  exact ext8 fun i _ => by
    simp only [BitVec.getLsbD_and, BitVec.getLsbD_xor]
    cases p.getLsbD i <;> cases q.getLsbD i <;> cases (15#8).getLsbD i <;> rfl
theorem rmul_eq (a b : BitVec 8) : rmul a b = tmul a b := by rw [rmul_sm, tmul_sm]
theorem tmul_comm (a b : BitVec 8) : tmul a b = tmul b a := by
  rw [tmul_sm, tmul_sm]
  unfold sm
  rw [mul_comm (hi a) (lw b), mul_comm (lw a) (hi b), mul_comm (hi a) (hi b), mul_comm (lw a) (lw b), BitVec.xor_comm (mul (lw b) (hi a))]
theorem tmul_xor (a b c : BitVec 8) : tmul a (b ^^^ c) = tmul a b ^^^ tmul a c := by
  simp only [tmul_sm, sm, hi_xor, lw_xor, mul_xor, xor_mul, shl_xor]
  exact ext8 fun i _ => by
    simp only [BitVec.getLsbD_xor]
    generalize (mul (hi a) (lw b) <<< 4).getLsbD i = x1
    generalize (mul (hi a) (lw c) <<< 4).getLsbD i = x2
    generalize (mul (lw a) (hi b) <<< 4).getLsbD i = x3
    generalize (mul (lw a) (hi c) <<< 4).getLsbD i = x4
    generalize (mul (hi a) (hi b) <<< 4).getLsbD i = x5
    generalize (mul (hi a) (hi c) <<< 4).getLsbD i = x6
    generalize (mul (lw a) (lw b)).getLsbD i = x7
    generalize (mul (lw a) (lw c)).getLsbD i = x8
    generalize (mul (mul (hi a) (hi b)) 8#8).getLsbD i = x9
    generalize (mul (mul (hi a) (hi c)) 8#8).getLsbD i = x10
    cases x1 <;> cases x2 <;> cases x3 <;> cases x4 <;> cases x5 <;> cases x6 <;> cases x7 <;> cases x8 <;> cases x9 <;> cases x10 <;> rfl
theorem xor_tmul (a b c : BitVec 8) : tmul (b ^^^ c) a = tmul b a ^^^ tmul c a := by rw [tmul_comm, tmul_xor, tmul_comm a b, tmul_comm a c]
theorem tmul_one : ∀ a, tmul a 1#8 = a := by decide +kernel
theorem tmul_zero : ∀ a, tmul a 0#8 = 0#8 := by decide +kernel
/-- What keeps sums and agrees on the units agrees. -/
def unit8 (i : Nat) : BitVec 8 := 1#8 <<< i
def build (x : BitVec 8) : Nat → BitVec 8
  | 0 => 0#8
  | n + 1 => build x n ^^^ (if x.getLsbD n then unit8 n else 0#8)
theorem build_all : ∀ x, build x 8 = x := by decide +kernel
theorem lin_ext {F G : BitVec 8 → BitVec 8} (hF : ∀ x y, F (x ^^^ y) = F x ^^^ F y) (hG : ∀ x y, G (x ^^^ y) = G x ^^^ G y) (h : ∀ i, i < 8 → F (unit8 i) = G (unit8 i)) (x : BitVec 8) : F x = G x := by
  have f0 : F 0#8 = 0#8 := by have := hF 0#8 0#8; rwa [BitVec.xor_self, BitVec.xor_self] at this
  have g0 : G 0#8 = 0#8 := by have := hG 0#8 0#8; rwa [BitVec.xor_self, BitVec.xor_self] at this
  have key : ∀ n, n ≤ 8 → F (build x n) = G (build x n) := by
    intro n
    induction n with
    | zero => intro _; rw [build, f0, g0]
    | succ n ih =>
      intro hn
      rw [build, hF, hG, ih (by omega)]
      cases x.getLsbD n
      · simp only [Bool.false_eq_true, if_false, f0, g0]
      · simp only [if_true, h n (by omega)]
  have := key 8 (Nat.le_refl _)
  rwa [build_all] at this
theorem assoc_units : ∀ i j k : Fin 8, tmul (unit8 i.val) (tmul (unit8 j.val) (unit8 k.val)) = tmul (tmul (unit8 i.val) (unit8 j.val)) (unit8 k.val) := by decide +kernel
theorem tmul_assoc (a b c : BitVec 8) : tmul a (tmul b c) = tmul (tmul a b) c := by
  refine lin_ext (F := fun a => tmul a (tmul b c)) (G := fun a => tmul (tmul a b) c) (fun x y => by simp only [xor_tmul]) (fun x y => by simp only [xor_tmul]) (fun i hi => ?_) a
  refine lin_ext (F := fun b => tmul (unit8 i) (tmul b c)) (G := fun b => tmul (tmul (unit8 i) b) c) (fun x y => by simp only [xor_tmul, tmul_xor]) (fun x y => by simp only [xor_tmul, tmul_xor]) (fun j hj => ?_) b
  refine lin_ext (F := fun c => tmul (unit8 i) (tmul (unit8 j) c)) (G := fun c => tmul (tmul (unit8 i) (unit8 j)) c) (fun x y => by simp only [tmul_xor]) (fun x y => by simp only [tmul_xor]) (fun k hk => ?_) c
  exact assoc_units ⟨i, hi⟩ ⟨j, hj⟩ ⟨k, hk⟩
/-! ### norms and inverses -/
def nor (a : BitVec 8) : BitVec 8 := mul (mul (hi a) (hi a)) 8#8 ^^^ mul (hi a) (lw a) ^^^ mul (lw a) (lw a)
def ninv (a : BitVec 8) : BitVec 8 := mul (mul (mul a a) (mul (mul a a) (mul a a))) (mul (mul (mul a a) (mul a a)) (mul (mul a a) (mul a a)))
def tinv (a : BitVec 8) : BitVec 8 := (mul (hi a) (ninv (nor a)) <<< 4) ||| mul (hi a ^^^ lw a) (ninv (nor a))
theorem tinv_mul : ∀ a, a = 0#8 ∨ tmul a (tinv a) = 1#8 := by decide +kernel
theorem tinv_zero : tinv 0#8 = 0#8 := by decide +kernel
theorem tinv_uniq (a b : BitVec 8) (h : tmul a b = 1#8) : b = tinv a := by
  rcases tinv_mul a with rfl | h2
  · rw [tmul_comm, tmul_zero] at h; exact absurd h (by decide)
  · have e : tmul (tmul (tinv a) a) b = b := by rw [tmul_comm (tinv a), h2, tmul_comm, tmul_one]
    rw [← e, ← tmul_assoc, h, tmul_one]
end Go.Proofs.Ytphdlidaigalkaa.TowMath
