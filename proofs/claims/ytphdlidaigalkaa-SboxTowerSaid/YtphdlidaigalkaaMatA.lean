/-
  Matrices of bits: bytes by their bits, and rows of eight bytes. Plain lemmas; no condition.
-/
import Derived.Test.YtphdlidaigalkaaKit
import Derived.Test.YtphdlidaigalkaaArrEq
import Derived.Lib.BitFns
namespace Go.Proofs.Ytphdlidaigalkaa.Mat
open Go.RowKit Go.Proofs.YtphdlidaigalkaaW.PrintWords Byte Arr Mem Gives ArrEq
set_option linter.unusedVariables false
set_option linter.unusedSimpArgs false
/-- Is the number of ones odd? -/
def par (v : BitVec 8) : Bool := v.getLsbD 0 ^^ v.getLsbD 1 ^^ v.getLsbD 2 ^^ v.getLsbD 3 ^^ v.getLsbD 4 ^^ v.getLsbD 5 ^^ v.getLsbD 6 ^^ v.getLsbD 7
/-- The byte of the first n bits of g. -/
def ofB (g : Nat → Bool) : Nat → BitVec 8
  | 0 => 0#8
  | n + 1 => ofB g n ||| ((if g n then 1#8 else 0#8) <<< n)
theorem ofB_bit (g : Nat → Bool) : ∀ n, n ≤ 8 → ∀ i, (ofB g n).getLsbD i = (decide (i < n) && g i)
  | 0, _, i => by simp [ofB]
  | n + 1, hn, i => by
    rw [ofB, BitVec.getLsbD_or, ofB_bit g n (by omega) i, BitVec.getLsbD_shiftLeft]
    by_cases h1 : i < n
    · simp [h1, show i < n + 1 by omega]
    · by_cases h2 : i = n
      · subst h2
        cases hg : g i <;> simp [show i < 8 by omega]
      · have : ∀ b : Bool, (if b then 1#8 else 0#8).getLsbD (i - n) = false := by
          intro b
          cases b
          · simp
          · simp; omega
        simp [h1, show ¬ i < n + 1 by omega, this]
theorem ext8 {a b : BitVec 8} (h : ∀ i, i < 8 → a.getLsbD i = b.getLsbD i) : a = b := BitVec.eq_of_getLsbD_eq fun i hi => h i hi
theorem ofB_congr {g g' : Nat → Bool} : ∀ n, (∀ i, i < n → g i = g' i) → ofB g n = ofB g' n
  | 0, _ => rfl
  | n + 1, h => by rw [ofB, ofB, ofB_congr n (fun i hi => h i (by omega)), h n (by omega)]
abbrev Rows := Nat → BitVec 8
/-- What a matrix makes of a byte. -/
def app (f : Rows) (x : BitVec 8) : BitVec 8 := ofB (fun i => par (f i &&& x)) 8
def cells8 (f : Rows) : List Int := byI 8 fun i => I8 (f i)
def matV (f : Rows) : Value := arrV .u8 (cells8 f)
theorem matV_eq (f : Rows) : matV f = .agg (cellsOf .u8 (cells8 f)) := rfl
theorem cells8_length (f : Rows) : (cells8 f).length = 8 := byI_length _ _
theorem cells8_get (f : Rows) (i : Nat) (h : i < 8) : (cells8 f).getD i 0 = I8 (f i) := byI_get _ _ i h
theorem cells8_congr {f g : Rows} (h : ∀ i, i < 8 → f i = g i) : cells8 f = cells8 g := byI_ext 8 _ _ (cells8_length f) fun i hi => by rw [cells8_get f i hi, h i hi]
theorem cells8_inj {f g : Rows} (h : cells8 f = cells8 g) (i : Nat) (hi : i < 8) : f i = g i := by
  have := congrArg (·.getD i 0) h
  simp only [cells8_get _ i hi] at this
  exact I8_inj this
/-- A row is another one. -/
def put (f : Rows) (i : Nat) (x : BitVec 8) : Rows := fun k => if k = i then x else f k
theorem cells8_set (f : Rows) (i : Nat) (hi : i < 8) (x : BitVec 8) : (cells8 f).set i (I8 x) = cells8 (put f i x) := by
  refine List.ext_getElem? fun k => ?_
  rcases Nat.lt_or_ge k 8 with hk | hk
  · rw [List.getElem?_set, cells8_length]
    simp only [cells8, byI, List.getElem?_map, List.getElem?_range hk, Option.map_some]
    by_cases h : i = k
    · subst h; simp [hi, put]
    · simp [h, put, Ne.symm h]
  · rw [List.getElem?_eq_none (by rw [List.length_set, cells8_length]; exact hk), List.getElem?_eq_none (by rw [cells8_length]; exact hk)]
theorem info_mat : (Try.prog.info? 67).map (·.size) = some 8 := by kernel_rfl
theorem info_c8 : (Try.prog.info? 66).map (·.size) = some 8 := by kernel_rfl
theorem info_w8 : (Try.prog.info? 5).map (·.size) = some 1 := by kernel_rfl
def zrow : Rows := fun _ => 0#8
theorem built8 : Try.prog.built 67 [] = some (cellsOf .u8 (cells8 zrow)) := by kernel_rfl
theorem built8c : Try.prog.built 66 [] = some (cellsOf .u8 (cells8 zrow)) := by kernel_rfl
/-! ### how many ones there are -/
def popN (v : BitVec 8) : Nat := Lib.onesCount v.toNat
def parN (v : BitVec 8) : Nat := if par v then 1 else 0
theorem pop_par : ∀ v : BitVec 8, popN v % 2 = parN v ∧ popN v < 256 ∧ Lib.pop8 (v.toNat : Int) = (popN v : Int) := by decide +kernel
theorem pop_c (v : BitVec 8) : Gives 97 #[.int .u8 (I8 v)] (.int .i64 (popN v : Nat)) := by
  intro w
  have h0 := I8_lo v
  have h1 : I8 v ≤ 255 := by have := I8_hi v; omega
  have h2 : Lib.pop8 (I8 v) = (popN v : Int) := (pop_par v).2.2
  have h3 := (pop_par v).2.1
  have h4 : (popN v : Int) < 256 := by omega
  generalize popN v = p at *
  generalize I8 v = x at *
  go_enter Try.func97, Try.ntmps97
  go_wp2
  go_ret
  exact ⟨rfl, ⟨0, rfl⟩⟩
/-! ### shifts -/
def bitB (b : Bool) : BitVec 8 := if b then 1#8 else 0#8
theorem shl8 (a : BitVec 8) (j : Nat) : I8 a * 2 ^ j % 256 = I8 (a <<< j) := by
  unfold I8
  rw [BitVec.toNat_shiftLeft, Nat.shiftLeft_eq]
  rfl
theorem shl1 (j : Nat) : (2 : Int) ^ j % 256 = I8 (1#8 <<< j) := by
  have := shl8 1#8 j
  rwa [show I8 1#8 = 1 from rfl, Int.one_mul] at this
theorem shr8 (a : BitVec 8) (j : Nat) : I8 a / 2 ^ j = I8 (a >>> j) := by
  unfold I8
  rw [BitVec.toNat_ushiftRight, Nat.shiftRight_eq_div_pow]
  rfl
theorem and_one8 (a : BitVec 8) : Go.bits .and .u8 (I8 a) 1 = I8 (bitB (a.getLsbD 0)) := by
  rw [show Go.bits .and .u8 (I8 a) 1 = I8 (a &&& 1#8) from and8 a 1#8, and8_one]; rfl
theorem shr_bit (a : BitVec 8) (j : Nat) : (a >>> j).getLsbD 0 = a.getLsbD j := by simp
theorem I8_bitB (b : Bool) : (I8 (bitB b) = 1) = (b = true) := by cases b <;> simp [bitB, I8]
theorem I8_mod2 (a : BitVec 8) : (I8 a % 2 = 1) = (a.getLsbD 0 = true) := by revert a; decide +kernel
theorem parN_I8 (v : BitVec 8) : ((parN v : Nat) : Int) = I8 (bitB (par v)) := by unfold parN; cases par v <;> rfl
theorem put_congr {f g : Rows} {j : Nat} {x : BitVec 8} (h : ∀ k, k < 8 → (if k = j then x else f k) = g k) : cells8 (put f j x) = cells8 g := cells8_congr h
end Go.Proofs.Ytphdlidaigalkaa.Mat
