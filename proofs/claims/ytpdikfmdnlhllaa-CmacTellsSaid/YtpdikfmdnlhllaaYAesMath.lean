/-
  Merged texts, what is reached of them: AesMath: walks and plain lemmas; no condition.
-/
import Derived.Test.YtpdikfmdnlhllaaYTowS
namespace Go.Proofs.Ytpdikfmdnlhllaa.AesMath
open Go.RowKit Byte GfMath Mat
set_option linter.unusedVariables false
set_option linter.unusedSimpArgs false
set_option maxRecDepth 100000
abbrev B := BitVec 8
def ib (l : List B) : List Int := l.map I8
theorem ib_length (l : List B) : (ib l).length = l.length := by simp [ib]
theorem ib_get? (l : List B) (i : Nat) : (ib l)[i]? = (l[i]?).map I8 := by simp [ib]
theorem ib_getD (l : List B) (i : Nat) : (ib l).getD i 0 = I8 (l.getD i 0#8) := by
  rw [List.getD_eq_getElem?_getD, List.getD_eq_getElem?_getD, ib_get?]
  cases l[i]? <;> rfl
theorem ib_set (l : List B) (i : Nat) (x : B) : (ib l).set i (I8 x) = ib (l.set i x) := by simp [ib, List.map_set]
theorem ib_append (l m : List B) : ib (l ++ m) = ib l ++ ib m := by simp [ib]
theorem ib_take (l : List B) (i : Nat) : ib (l.take i) = (ib l).take i := by simp [ib]
theorem ib_drop (l : List B) (i : Nat) : ib (l.drop i) = (ib l).drop i := by simp [ib]
theorem ib_cons (x : B) (l : List B) : ib (x :: l) = I8 x :: ib l := rfl
theorem ib_nil : ib [] = [] := rfl
theorem ib_inj {l m : List B} (h : ib l = ib m) : l = m := by
  unfold ib at h
  exact List.map_inj_right (fun _ _ => I8_inj) |>.1 h
theorem ib_zeros (n : Nat) : ib (List.replicate n 0#8) = List.replicate n 0 := by simp [ib]; exact Or.inr rfl
theorem ib_of {l : List Int} (h : ∀ x ∈ l, 0 ≤ x ∧ x < 256) : ∃ b, l = ib b := by
  induction l with
  | nil => exact ⟨[], rfl⟩
  | cons x l ih =>
    obtain ⟨b, hb⟩ := ih (fun y hy => h y (List.mem_cons_of_mem _ hy))
    obtain ⟨y, hy⟩ := I8_of x (h x List.mem_cons_self).1 (h x List.mem_cons_self).2
    exact ⟨y :: b, by rw [ib_cons, ← hb, ← hy]⟩
theorem ib_b (l : List B) : ∀ x ∈ ib l, 0 ≤ x ∧ x < 256 := by
  intro x hx
  unfold ib at hx
  obtain ⟨y, _, rfl⟩ := List.mem_map.1 hx
  exact ⟨I8_lo y, I8_hi y⟩
def byN (n : Nat) (F : Nat → B) : List B := (List.range n).map F
theorem byN_length (n : Nat) (F : Nat → B) : (byN n F).length = n := by simp [byN]
theorem byN_get (n : Nat) (F : Nat → B) (i : Nat) (h : i < n) : (byN n F).getD i 0#8 = F i := by simp [byN, List.getD_eq_getElem?_getD, h]
theorem getD_ext {l m : List B} (hl : l.length = m.length) (h : ∀ i, i < l.length → l.getD i 0#8 = m.getD i 0#8) : l = m := by
  refine List.ext_getElem? fun i => ?_
  rcases Nat.lt_or_ge i l.length with hi | hi
  · have := h i hi
    rw [List.getD_eq_getElem?_getD, List.getD_eq_getElem?_getD, List.getElem?_eq_getElem hi, List.getElem?_eq_getElem (by omega)] at this
    rw [List.getElem?_eq_getElem hi, List.getElem?_eq_getElem (by omega)]
    simpa using this
  · rw [List.getElem?_eq_none hi, List.getElem?_eq_none (by omega)]
theorem xor_lself (x y : B) : x ^^^ (x ^^^ y) = y := by rw [← BitVec.xor_assoc, BitVec.xor_self, BitVec.zero_xor]
theorem xor_lcomm (x y z : B) : x ^^^ (y ^^^ z) = y ^^^ (x ^^^ z) := by rw [← BitVec.xor_assoc, ← BitVec.xor_assoc, BitVec.xor_comm x y]
def xorL (a b : List B) : List B := byN a.length fun i => a.getD i 0#8 ^^^ b.getD i 0#8
theorem xorL_length (a b : List B) : (xorL a b).length = a.length := byN_length _ _
theorem xorL_get (a b : List B) (i : Nat) (h : i < a.length) : (xorL a b).getD i 0#8 = a.getD i 0#8 ^^^ b.getD i 0#8 := byN_get _ _ _ h
def rowsB (b : List B) : List B := byN 16 fun i => b.getD ((i + 4 * (i % 4)) % 16) 0#8
theorem rowsB_length (b : List B) : (rowsB b).length = 16 := byN_length _ _
def colE (x0 x1 x2 x3 : B) : B := x0 ^^^ (x0 ^^^ x1 ^^^ x2 ^^^ x3 ^^^ T (x0 ^^^ x1))
def at4 (b : List B) (i k : Nat) : B := b.getD (i / 4 * 4 + (i + k) % 4) 0#8
def colsB (b : List B) : List B := byN 16 fun i => colE (at4 b i 0) (at4 b i 1) (at4 b i 2) (at4 b i 3)
theorem colsB_length (b : List B) : (colsB b).length = 16 := byN_length _ _
theorem at4_zero (b : List B) (i : Nat) : at4 b i 0 = b.getD i 0#8 := by
  unfold at4
  congr 1
  omega
theorem colE_ref (x0 x1 x2 x3 : B) : colE x0 x1 x2 x3 = mul 2#8 x0 ^^^ mul 3#8 x1 ^^^ x2 ^^^ x3 := by
  have h2 : mul 2#8 x0 = T x0 := by rw [mul_comm, mul_two]
  have h3 : mul 3#8 x1 = T x1 ^^^ x1 := by
    rw [mul_comm, show (3#8 : B) = 2#8 ^^^ 1#8 by decide, mul_right, mul_two, mul_one]
  rw [h2, h3]
  unfold colE
  simp only [T_xor, BitVec.xor_assoc, BitVec.xor_comm, xor_lcomm, xor_lself, BitVec.xor_self, BitVec.xor_zero, BitVec.zero_xor]
theorem map_getD (f : B → B) (b : List B) (i : Nat) (h : i < b.length) : (b.map f).getD i 0#8 = f (b.getD i 0#8) := by
  rw [List.getD_eq_getElem?_getD, List.getD_eq_getElem?_getD, List.getElem?_map, List.getElem?_eq_getElem h]; rfl
def keyAt (k : List (List B)) (r : Nat) : List B := k.getD r []
/-- Behind round r. -/
def encTo (k : List (List B)) (b : List B) : Nat → List B
  | 0 => xorL b (keyAt k 0)
  | r + 1 => xorL (colsB (rowsB ((encTo k b r).map subB))) (keyAt k (r + 1))
/-- The last round is number n + 1. -/
def encB (k : List (List B)) (n : Nat) (b : List B) : List B := xorL (rowsB ((encTo k b n).map subB)) (keyAt k (n + 1))
theorem encTo_length (k : List (List B)) (b : List B) (h : b.length = 16) : ∀ r, (encTo k b r).length = 16
  | 0 => by rw [encTo, xorL_length, h]
  | r + 1 => by rw [encTo, xorL_length, colsB_length]
theorem encB_length (k : List (List B)) (n : Nat) (b : List B) : (encB k n b).length = 16 := by rw [encB, xorL_length, rowsB_length]
def mark (i : Nat) : B := if i < 1 then 0#8 else pow 2#8 (i - 1)
/-- What is made of the word ahead. -/
def madeB (w : List B) (i k : Nat) : List B :=
  if i % k = 0 then [subB (w.getD 1 0#8) ^^^ mark (i / k), subB (w.getD 2 0#8), subB (w.getD 3 0#8), subB (w.getD 0 0#8)]
  else if k = 8 ∧ i % 8 = 4 then w.map subB else w
def wordAt (l : List (List B)) (i : Nat) : List B := l.getD i []
def wordB (l : List (List B)) (i k : Nat) : List B := xorL (madeB (wordAt l (i - 1)) i k) (wordAt l (i - k))
def four (l : List B) (i : Nat) : List B := (l.drop (4 * i)).take 4
def keyWords (key : List B) (k : Nat) : List (List B) := (List.range k).map (four key)
/-- The first k + m words. -/
def wordsTo (key : List B) (k : Nat) : Nat → List (List B)
  | 0 => keyWords key k
  | m + 1 => wordsTo key k m ++ [wordB (wordsTo key k m) (k + m) k]
def roundsN (n : Nat) : Nat := if n = 16 then 10 else if n = 24 then 12 else if n = 32 then 14 else 0
/-- The bytes of all words. -/
def allB (key : List B) (m : Nat) : List B := (wordsTo key (key.length / 4) m).flatten
def roundKeys (key : List B) : List (List B) := (List.range (roundsN key.length + 1)).map fun r => ((allB key (4 * (roundsN key.length + 1) - key.length / 4)).drop (16 * r)).take 16
theorem four_length (l : List B) (i : Nat) (h : 4 * i + 4 ≤ l.length) : (four l i).length = 4 := by
  unfold four
  rw [List.length_take, List.length_drop]
  omega
theorem four_get (l : List B) (i j : Nat) (h : j < 4) : (four l i).getD j 0#8 = l.getD (4 * i + j) 0#8 := by
  unfold four
  rw [List.getD_eq_getElem?_getD, List.getD_eq_getElem?_getD, List.getElem?_take, if_pos h, List.getElem?_drop]
theorem madeB_length (w : List B) (i k : Nat) (h : w.length = 4) : (madeB w i k).length = 4 := by
  unfold madeB
  split
  · rfl
  · split
    · rw [List.length_map, h]
    · exact h
theorem wordB_length (l : List (List B)) (i k : Nat) (h : (wordAt l (i - 1)).length = 4) : (wordB l i k).length = 4 := by
  unfold wordB
  rw [xorL_length, madeB_length _ _ _ h]
def All4 (l : List (List B)) : Prop := ∀ x ∈ l, x.length = 4
theorem All4.at_ {l : List (List B)} (h : All4 l) {i : Nat} (hi : i < l.length) : (wordAt l i).length = 4 := by
  unfold wordAt
  rw [List.getD_eq_getElem?_getD, List.getElem?_eq_getElem hi]
  exact h _ (List.getElem_mem hi)
theorem keyWords_length (key : List B) (k : Nat) : (keyWords key k).length = k := by simp [keyWords]
theorem keyWords_four (key : List B) (k : Nat) (h : key.length = 4 * k) : All4 (keyWords key k) := by
  intro x hx
  obtain ⟨i, hi, rfl⟩ := List.mem_map.1 hx
  have := List.mem_range.1 hi
  exact four_length _ _ (by omega)
theorem wordsTo_length (key : List B) (k : Nat) : ∀ m, (wordsTo key k m).length = k + m
  | 0 => keyWords_length key k
  | m + 1 => by rw [wordsTo, List.length_append, wordsTo_length key k m]; rfl
theorem wordsTo_four (key : List B) (k : Nat) (h : key.length = 4 * k) (hk : 0 < k) : ∀ m, All4 (wordsTo key k m)
  | 0 => keyWords_four key k h
  | m + 1 => by
    have ih := wordsTo_four key k h hk m
    rw [wordsTo]
    intro x hx
    rcases List.mem_append.1 hx with hx | hx
    · exact ih x hx
    · rw [List.mem_singleton.1 hx]
      exact wordB_length _ _ _ (ih.at_ (by rw [wordsTo_length]; omega))
theorem flat_length {l : List (List B)} (h : All4 l) : l.flatten.length = 4 * l.length := by
  induction l with
  | nil => rfl
  | cons x l ih =>
    rw [List.flatten_cons, List.length_append, h x List.mem_cons_self, ih (fun y hy => h y (List.mem_cons_of_mem _ hy)), List.length_cons]
    omega
theorem flat_four {l : List (List B)} (h : All4 l) (i : Nat) (hi : i < l.length) : four l.flatten i = wordAt l i := by
  induction l generalizing i with
  | nil => exact absurd hi (Nat.not_lt_zero _)
  | cons x l ih =>
    have hx := h x List.mem_cons_self
    cases i with
    | zero =>
      unfold four wordAt
      rw [List.flatten_cons, Nat.mul_zero, List.drop_zero, List.take_left' hx]
      rfl
    | succ i =>
      have e := ih (fun y hy => h y (List.mem_cons_of_mem _ hy)) i (by rw [List.length_cons] at hi; omega)
      unfold four wordAt at e ⊢
      rw [List.flatten_cons, show 4 * (i + 1) = x.length + 4 * i by omega, List.drop_append, List.drop_eq_nil_of_le (by omega), List.nil_append, show x.length + 4 * i - x.length = 4 * i by omega, e]
      rfl
theorem flat_get {l : List (List B)} (h : All4 l) (p : Nat) (hp : p < 4 * l.length) : l.flatten.getD p 0#8 = (wordAt l (p / 4)).getD (p % 4) 0#8 := by
  rw [← flat_four h (p / 4) (by omega), four_get _ _ _ (Nat.mod_lt _ (by decide))]
  congr 1
  omega
theorem keyWords_flat (key : List B) (k : Nat) (h : key.length = 4 * k) : (keyWords key k).flatten = key := by
  refine getD_ext (by rw [flat_length (keyWords_four key k h), keyWords_length, h]) fun p hp => ?_
  rw [flat_length (keyWords_four key k h), keyWords_length] at hp
  rw [flat_get (keyWords_four key k h) p (by rw [keyWords_length]; exact hp)]
  have e : wordAt (keyWords key k) (p / 4) = four key (p / 4) := by
    unfold wordAt keyWords
    rw [List.getD_eq_getElem?_getD, List.getElem?_map, List.getElem?_range (by omega)]
    rfl
  rw [e, four_get _ _ _ (Nat.mod_lt _ (by decide))]
  congr 1
  omega
theorem roundsN_pos {n : Nat} (h : roundsN n ≠ 0) : (n = 16 ∧ roundsN n = 10) ∨ (n = 24 ∧ roundsN n = 12) ∨ (n = 32 ∧ roundsN n = 14) := by
  unfold roundsN at h ⊢
  split at h
  · rename_i e; subst e; exact Or.inl ⟨rfl, rfl⟩
  · split at h
    · rename_i e; subst e; exact Or.inr (Or.inl ⟨rfl, rfl⟩)
    · split at h
      · rename_i e; subst e; exact Or.inr (Or.inr ⟨rfl, rfl⟩)
      · exact absurd rfl h
theorem roundKeys_length (key : List B) : (roundKeys key).length = roundsN key.length + 1 := by simp [roundKeys]
end Go.Proofs.Ytpdikfmdnlhllaa.AesMath
