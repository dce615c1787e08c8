/-
  Keccak's marks and turns, evaluated: the code's and the document's are the same at every int.
-/
import Derived.Test.YtdbcgjclnfhdfaaRotC
namespace Go.Proofs.Ytdbcgjclnfhdfaa.KecT
open Go.RowKit Go.Proofs.Ytdbcgjclnfhdfaa.PKec Go.Proofs.YtdbcgjclnfhdfaaW.PrintWords Go.Proofs.YtdbcgjclnfhdfaaW.PrintLast Go.Proofs.YtdbcgjclnfhdfaaW.PrintMore Byte OctMath Gives Mem RotC
set_option maxRecDepth 100000
/-! ### Turn -/
def turnN (x y : Nat) : Nat := ((keccak_Turn.f 30 x y).getD 0).toNat
theorem turn_all : ∀ x : Fin 5, ∀ y : Fin 5, keccak_Turn.f 30 ((x.val : Nat) : Int) ((y.val : Nat) : Int) = some ((turnN x y : Nat) : Int) := by decide +kernel
theorem rturn_all : ∀ x : Fin 5, ∀ y : Fin 5, visorref13_Turn.f 30 ((x.val : Nat) : Int) ((y.val : Nat) : Int) = some ((turnN x y : Nat) : Int) := by decide +kernel
theorem turn_c (x y : Nat) (hx : x < 5) (hy : y < 5) : Gives 30 #[.int .i64 x, .int .i64 y] (.int .i64 (turnN x y : Nat)) :=
  fun w => keccak_Turn.calls 30 _ _ _ w (turn_all ⟨x, hx⟩ ⟨y, hy⟩)
theorem rturn_c (x y : Nat) (hx : x < 5) (hy : y < 5) : Gives 31 #[.int .i64 x, .int .i64 y] (.int .i64 (turnN x y : Nat)) :=
  fun w => visorref13_Turn.calls 30 _ _ _ w (rturn_all ⟨x, hx⟩ ⟨y, hy⟩)
theorem turn_out (x y : Int) (h : ¬(0 ≤ x ∧ x < 5 ∧ 0 ≤ y ∧ y < 5)) : keccak_Turn.f 30 x y = some 0 := by
  have j : keccak_Turn.j0 30 x y true = some 0 := rfl
  unfold keccak_Turn.f
  rw [j]
  repeat' split
  all_goals first | rfl | omega
theorem rturn_out (x y : Int) (h : ¬(0 ≤ x ∧ x < 5 ∧ 0 ≤ y ∧ y < 5)) : ∀ (d n : Nat) (a b : Int) (i : Int), 0 ≤ a → a < 5 → 0 ≤ b → b < 5 → 0 ≤ i → i + d = 24 → d < n → visorref13_Turn.l0 n x y a b i = some 0 := by
  intro d
  induction d with
  | zero =>
    intro n a b i _ _ _ _ _ hi hn
    obtain ⟨n, rfl⟩ : ∃ m, n = m + 1 := ⟨n - 1, by omega⟩
    simp only [visorref13_Turn.l0]
    rw [if_neg (by omega)]
  | succ d ih =>
    intro n a b i a0 a5 b0 b5 i0 hi hn
    obtain ⟨n, rfl⟩ : ∃ m, n = m + 1 := ⟨n - 1, by omega⟩
    simp only [visorref13_Turn.l0]
    have e1 : wrap64 (2 * a) = 2 * a := by unfold wrap64; omega
    have e2 : wrap64 (3 * b) = 3 * b := by unfold wrap64; omega
    have e3 : wrap64 (2 * a + 3 * b) = 2 * a + 3 * b := by unfold wrap64; omega
    have e4 : wrap64 (i + 1) = i + 1 := by unfold wrap64; omega
    have e5 : Int.tmod (2 * a + 3 * b) 5 = (2 * a + 3 * b) % 5 := Int.tmod_eq_emod_of_nonneg (by omega)
    have hr := ih n b ((2 * a + 3 * b) % 5) (i + 1) b0 b5 (by omega) (by omega) (by omega) (by omega) (by omega)
    rw [if_pos (by omega), e1, e2, e3, e4, e5, hr]
    by_cases hx : a = x
    · rw [if_pos hx]
      by_cases hy : b = y
      · exact absurd ⟨by omega, by omega, by omega, by omega⟩ h
      · rw [if_neg hy]
    · rw [if_neg hx]
theorem turns (x y : Int) : ∃ v : Int, Gives 30 #[.int .i64 x, .int .i64 y] (.int .i64 v) ∧ Gives 31 #[.int .i64 x, .int .i64 y] (.int .i64 v) := by
  by_cases h : 0 ≤ x ∧ x < 5 ∧ 0 ≤ y ∧ y < 5
  · obtain ⟨a, rfl⟩ : ∃ a : Nat, x = a := ⟨x.toNat, by omega⟩
    obtain ⟨b, rfl⟩ : ∃ b : Nat, y = b := ⟨y.toNat, by omega⟩
    exact ⟨_, turn_c a b (by omega) (by omega), rturn_c a b (by omega) (by omega)⟩
  · exact ⟨0, fun w => keccak_Turn.calls 30 _ _ _ w (turn_out x y h), fun w => visorref13_Turn.calls 30 _ _ _ w (rturn_out x y h 24 30 1 0 0 (by omega) (by omega) (by omega) (by omega) (by omega) (by omega) (by omega))⟩
/-! ### Mark -/
def markN (i : Nat) : Int := (keccak_Mark.f 400 i).getD 0
theorem mark_all : ∀ i : Fin 24, keccak_Mark.f 400 ((i.val : Nat) : Int) = some (markN i) ∧ visorref13_Mark.f 400 ((i.val : Nat) : Int) = some (markN i) ∧ 0 ≤ markN i ∧ markN i < 18446744073709551616 := by decide +kernel
theorem mark_word (i : Nat) (h : i < 24) : IsWord (markN i) := (mark_all ⟨i, h⟩).2.2
theorem mark_c (i : Nat) (h : i < 24) : Gives 28 #[.int .i64 i] (.int .u64 (markN i)) := fun w => keccak_Mark.calls 400 _ _ w (mark_all ⟨i, h⟩).1
theorem rmark_c (i : Nat) (h : i < 24) : GivesB 29 #[.int .i64 i] (.int .u64 (markN i)) := fun w => visorref13_Mark.calls 400 _ _ w (mark_all ⟨i, h⟩).2.1
theorem marks (i : Int) : ∃ v : Int, Gives 28 #[.int .i64 i] (.int .u64 v) ∧ GivesB 29 #[.int .i64 i] (.int .u64 v) := by
  by_cases h : 0 ≤ i ∧ i < 24
  · obtain ⟨a, rfl⟩ : ∃ a : Nat, i = a := ⟨i.toNat, by omega⟩
    exact ⟨_, mark_c a (by omega), rmark_c a (by omega)⟩
  · have h1 : keccak_Mark.f 1 i = some 0 := by
      unfold keccak_Mark.f
      split
      · rfl
      · rw [decide_eq_true (by omega)]; rfl
    have h2 : visorref13_Mark.f 1 i = some 0 := by
      unfold visorref13_Mark.f
      split
      · rfl
      · rw [decide_eq_true (by omega)]; rfl
    exact ⟨0, fun w => keccak_Mark.calls 1 _ _ w h1, fun w => visorref13_Mark.calls 1 _ _ w h2⟩
theorem mark1 : markN 1 = 32898 := by decide +kernel
/-! ### the next place -/
theorem next_c (x y : Nat) (hx : x < 5) (hy : y < 5) : Gives 62 #[.int .i64 x, .int .i64 y] (.tuple #[.int .i64 (y : Nat), .int .i64 ((2 * x + 3 * y) % 5 : Nat)]) := by
  intro w
  refine keccak_next.calls _ _ _ _ w ?_
  unfold keccak_next.f
  have e1 : wrap64 (2 * (x : Int)) = 2 * x := by unfold wrap64; omega
  have e2 : wrap64 (3 * (y : Int)) = 3 * y := by unfold wrap64; omega
  have e3 : wrap64 (2 * (x : Int) + 3 * y) = 2 * x + 3 * y := by unfold wrap64; omega
  rw [e1, e2, e3, Int.tmod_eq_emod_of_nonneg (by omega)]
  congr 2
end Go.Proofs.Ytdbcgjclnfhdfaa.KecT
