/-
  Rotations of a word, as contracts: octet.Rot and the reference's, for any word and any int.
-/
import Derived.Test.YtdbcgjclnfhdfaaOctMath
import Derived.Test.YtdbcgjclnfhdfaaMem
import Derived.Test.YtdbcgjclnfhdfaaPKecx2
namespace Go.Proofs.Ytdbcgjclnfhdfaa.RotC
open Go.RowKit Go.Proofs.Ytdbcgjclnfhdfaa.PKec Go.Proofs.YtdbcgjclnfhdfaaW.PrintWords Go.Proofs.YtdbcgjclnfhdfaaW.PrintLast Go.Proofs.YtdbcgjclnfhdfaaW.PrintMore Byte OctMath Gives Mem
/-! ### Rot, Low -/
theorem shl_u64 (x : BitVec 64) (m : Nat) (hm : m ≤ 64) : shl .u64 (I64 x) (m : Int) = I64 (x <<< m) := by
  unfold shl I64
  have : min ((m : Int).toNat) IntKind.u64.bits = m := by
    show min ((m : Int).toNat) 64 = m
    omega
  rw [this, wrap_u64, BitVec.toNat_shiftLeft, Nat.shiftLeft_eq, show ((x.toNat : Int) * 2 ^ m) = ((x.toNat * 2 ^ m : Nat) : Int) by simp]
  omega
theorem shr_u64 (x : BitVec 64) (m : Nat) (hm : m ≤ 64) : shr .u64 (I64 x) (m : Int) = I64 (x >>> m) := by
  unfold shr I64
  have : min ((m : Int).toNat) IntKind.u64.bits = m := by
    show min ((m : Int).toNat) 64 = m
    omega
  rw [this, BitVec.toNat_ushiftRight, Nat.shiftRight_eq_div_pow, Int.natCast_ediv]
  simp
/-- A number modulo 64, from 0 on. -/
def m64 (k : Int) : Nat := (k % 64).toNat
theorem m64_lt (k : Int) : m64 k < 64 := by unfold m64; omega
theorem Rot_eq (x : BitVec 64) (k : Int) : octet_Rot.f (I64 x) k = some (I64 (rot x (m64 k))) := by
  unfold octet_Rot.f
  have hm := m64_lt k
  have e : k % 64 = ((m64 k : Nat) : Int) := by unfold m64; omega
  have e2 : wrap64 (64 - ((m64 k : Nat) : Int)) = ((64 - m64 k : Nat) : Int) := by unfold wrap64; omega
  rw [and_i64_mask, e, e2, if_pos (by omega), if_pos (by omega), shl_u64 _ _ (by omega), shr_u64 _ _ (by omega), or64]; rfl
theorem RMod_eq (k : Int) : visorref01_Mod.f k 64 = some ((m64 k : Nat) : Int) := by
  unfold visorref01_Mod.f
  have tm := tmod_nat k 64
  have tm' : (0 ≤ k → Int.tmod k 64 = k % 64) ∧ (k < 0 → k % 64 = 0 → Int.tmod k 64 = 0) ∧ (k < 0 → k % 64 ≠ 0 → Int.tmod k 64 = k % 64 - 64) := tm
  clear tm
  rw [if_neg (by decide)]
  generalize Int.tmod k 64 = t at *
  unfold m64
  by_cases h : t < 0
  · rw [if_pos h]
    have : wrap64 (t + 64) = t + 64 := by unfold wrap64; omega
    rw [this]
    congr 1; omega
  · rw [if_neg h]; congr 1; omega
theorem RRot_l0 (k : Int) : ∀ d n (x : BitVec 64) (i : Nat), i + d = m64 k → d < n → visorref01_Rot.l0 n (I64 x) k (i : Int) = some (I64 (rot x d)) := by
  intro d
  induction d with
  | zero =>
    intro n x i hi hn
    obtain ⟨n, rfl⟩ : ∃ m, n = m + 1 := ⟨n - 1, by omega⟩
    simp only [visorref01_Rot.l0, RMod_eq, Option.bind_some]
    rw [if_neg (by omega), rot_zero]
  | succ d ih =>
    intro n x i hi hn
    obtain ⟨n, rfl⟩ : ∃ m, n = m + 1 := ⟨n - 1, by omega⟩
    simp only [visorref01_Rot.l0, RMod_eq, Option.bind_some]
    have hm := m64_lt k
    have e1 : IntKind.u64.wrap (IntKind.u64.wrap (I64 x * 2) + IntKind.u64.wrap (Int.tdiv (I64 x) 9223372036854775808)) = I64 (rot x 1) := by
      have hx := x.isLt
      rw [wrap_u64, wrap_u64, wrap_u64, Int.tdiv_eq_ediv_of_nonneg (I64_lo x)]
      unfold I64
      rw [rot_one]
      omega
    rw [if_pos (by omega), e1, show wrap64 ((i : Int) + 1) = ((i + 1 : Nat) : Int) by unfold wrap64; omega, ih n (rot x 1) (i + 1) (by omega) (by omega), rot_rot x 1 d (by decide) (by omega)]
    congr 3; omega
theorem RRot_eq (x : BitVec 64) (k : Int) (n : Nat) (hn : 64 ≤ n) : visorref01_Rot.f n (I64 x) k = some (I64 (rot x (m64 k))) := by
  unfold visorref01_Rot.f
  have hm := m64_lt k
  exact RRot_l0 k (m64 k) n x 0 (by omega) (by omega)

/-- A word's number, rotated. -/
def rotI (x : Int) (k : Int) : Int := I64 (rot (BitVec.ofInt 64 x) (m64 k))
def IsWord (x : Int) : Prop := 0 ≤ x ∧ x < 18446744073709551616
theorem rotI_eq (x : BitVec 64) (k : Int) : rotI (I64 x) k = I64 (rot x (m64 k)) := by unfold rotI; rw [of64]
theorem rot_c (x k : Int) (h : IsWord x) : Gives 63 #[.int .u64 x, .int .i64 k] (.int .u64 (rotI x k)) := by
  obtain ⟨y, rfl⟩ := I64_of x h.1 h.2
  rw [rotI_eq]
  exact fun w => octet_Rot.calls _ _ _ w (Rot_eq y k)
theorem rrot_c (x k : Int) (h : IsWord x) : Gives 64 #[.int .u64 x, .int .i64 k] (.int .u64 (rotI x k)) := by
  obtain ⟨y, rfl⟩ := I64_of x h.1 h.2
  rw [rotI_eq]
  exact fun w => visorref01_Rot.calls 64 _ _ _ w (RRot_eq y k 64 (by decide))
def Words (l : List Int) : Prop := ∀ x ∈ l, IsWord x
theorem words_getD {l : List Int} (h : Words l) (i : Nat) : IsWord (l.getD i 0) := by
  rw [List.getD_eq_getElem?_getD]
  cases e : l[i]? with
  | none => exact ⟨by decide, by decide⟩
  | some x => exact h x (List.mem_of_getElem? e)
theorem Words.set {l : List Int} (h : Words l) (i : Nat) (x : Int) (hx : IsWord x) : Words (l.set i x) := by
  intro y hy
  rcases List.mem_or_eq_of_mem_set hy with h' | rfl
  · exact h y h'
  · exact hx
theorem isWord_I64 (x : BitVec 64) : IsWord (I64 x) := ⟨I64_lo x, I64_hi x⟩
theorem xor_word (x y : Int) (hx : IsWord x) (hy : IsWord y) : IsWord (Go.bits .xor .u64 x y) := by
  obtain ⟨a, rfl⟩ := I64_of x hx.1 hx.2
  obtain ⟨b, rfl⟩ := I64_of y hy.1 hy.2
  rw [xor64]; exact isWord_I64 _
theorem andNot_word (x y : Int) (hx : IsWord x) (hy : IsWord y) : IsWord (Go.bits .andNot .u64 x y) := by
  obtain ⟨a, rfl⟩ := I64_of x hx.1 hx.2
  obtain ⟨b, rfl⟩ := I64_of y hy.1 hy.2
  rw [andNot64]; exact isWord_I64 _
theorem rotI_word (x k : Int) : IsWord (rotI x k) := isWord_I64 _
theorem byI_words (n : Nat) (F : Nat → Int) (h : ∀ i, i < n → IsWord (F i)) : Words (byI n F) := by
  intro x hx
  obtain ⟨i, hi, rfl⟩ := List.mem_map.1 hx
  exact h i (List.mem_range.1 hi)
end Go.Proofs.Ytdbcgjclnfhdfaa.RotC
