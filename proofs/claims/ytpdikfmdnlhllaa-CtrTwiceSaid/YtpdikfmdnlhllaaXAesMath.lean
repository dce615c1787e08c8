/-
  AES in plain Lean: rows, columns, key words, blocks, there and back. No Go, no condition.
-/
import Derived.Test.YtpdikfmdnlhllaaXTowS
namespace Go.Proofs.Ytpdikfmdnlhllaa.AesMath
open Go.RowKit Byte GfMath Mat
set_option linter.unusedVariables false
set_option linter.unusedSimpArgs false
set_option maxRecDepth 100000
abbrev B := BitVec 8
/-! ### rows of bytes as whole numbers -/
def ib (l : List B) : List Int := l.map I8
theorem ib_length (l : List B) : (ib l).length = l.length := by simp [ib]
theorem ib_get? (l : List B) (i : Nat) : (ib l)[i]? = (l[i]?).map I8 := by simp [ib]
theorem ib_getD (l : List B) (i : Nat) : (ib l).getD i 0 = I8 (l.getD i 0#8) := by
  rw [List.getD_eq_getElem?_getD, List.getD_eq_getElem?_getD, ib_get?]
  cases l[i]? <;> rfl
theorem ib_set (l : List B) (i : Nat) (x : B) : (ib l).set i (I8 x) = ib (l.set i x) := by simp [ib, List.map_set]
theorem ib_append (l m : List B) : ib (l ++ m) = ib l ++ ib m := by simp [ib]
theorem ib_take (l : List B) (i : Nat) : ib (l.take i) = (ib l).take i := by simp [ib]
theorem ib_drop (l : List B) (i : Nat) : ib (l.drop i) = (ib l).drop i := by simp [ib]
theorem ib_cons (x : B) (l : List B) : ib (x :: l) = I8 x :: ib l := rfl
theorem ib_nil : ib [] = [] := rfl
theorem ib_inj {l m : List B} (h : ib l = ib m) : l = m := by
  unfold ib at h
  exact List.map_inj_right (fun _ _ => I8_inj) |>.1 h
theorem ib_zeros (n : Nat) : ib (List.replicate n 0#8) = List.replicate n 0 := by simp [ib]; exact Or.inr rfl
theorem ib_of {l : List Int} (h : ∀ x ∈ l, 0 ≤ x ∧ x < 256) : ∃ b, l = ib b := by
  induction l with
  | nil => exact ⟨[], rfl⟩
  | cons x l ih =>
    obtain ⟨b, hb⟩ := ih (fun y hy => h y (List.mem_cons_of_mem _ hy))
    obtain ⟨y, hy⟩ := I8_of x (h x List.mem_cons_self).1 (h x List.mem_cons_self).2
    exact ⟨y :: b, by rw [ib_cons, ← hb, ← hy]⟩
theorem ib_b (l : List B) : ∀ x ∈ ib l, 0 ≤ x ∧ x < 256 := by
  intro x hx
  unfold ib at hx
  obtain ⟨y, _, rfl⟩ := List.mem_map.1 hx
  exact ⟨I8_lo y, I8_hi y⟩
def byN (n : Nat) (F : Nat → B) : List B := (List.range n).map F
theorem byN_length (n : Nat) (F : Nat → B) : (byN n F).length = n := by simp [byN]
theorem byN_get (n : Nat) (F : Nat → B) (i : Nat) (h : i < n) : (byN n F).getD i 0#8 = F i := by simp [byN, List.getD_eq_getElem?_getD, h]
theorem byN_congr {n : Nat} {F G : Nat → B} (h : ∀ i, i < n → F i = G i) : byN n F = byN n G := by
  unfold byN
  exact List.map_congr_left fun i hi => h i (List.mem_range.1 hi)
theorem getD_ext {l m : List B} (hl : l.length = m.length) (h : ∀ i, i < l.length → l.getD i 0#8 = m.getD i 0#8) : l = m := by
  refine List.ext_getElem? fun i => ?_
  rcases Nat.lt_or_ge i l.length with hi | hi
  · have := h i hi
    rw [List.getD_eq_getElem?_getD, List.getD_eq_getElem?_getD, List.getElem?_eq_getElem hi, List.getElem?_eq_getElem (by omega)] at this
    rw [List.getElem?_eq_getElem hi, List.getElem?_eq_getElem (by omega)]
    simpa using this
  · rw [List.getElem?_eq_none hi, List.getElem?_eq_none (by omega)]
theorem byN_self (l : List B) (n : Nat) (h : l.length = n) : byN n (fun i => l.getD i 0#8) = l := getD_ext (by rw [byN_length, h]) fun i hi => by rw [byN_get _ _ _ (by rw [byN_length] at hi; exact hi)]
theorem xor_lself (x y : B) : x ^^^ (x ^^^ y) = y := by rw [← BitVec.xor_assoc, BitVec.xor_self, BitVec.zero_xor]
theorem xor_lcomm (x y z : B) : x ^^^ (y ^^^ z) = y ^^^ (x ^^^ z) := by rw [← BitVec.xor_assoc, ← BitVec.xor_assoc, BitVec.xor_comm x y]
/-! ### two rows, put together -/
def xorL (a b : List B) : List B := byN a.length fun i => a.getD i 0#8 ^^^ b.getD i 0#8
theorem xorL_length (a b : List B) : (xorL a b).length = a.length := byN_length _ _
theorem xorL_get (a b : List B) (i : Nat) (h : i < a.length) : (xorL a b).getD i 0#8 = a.getD i 0#8 ^^^ b.getD i 0#8 := byN_get _ _ _ h
theorem xorL_xorL (a b : List B) : xorL (xorL a b) b = a := getD_ext (by rw [xorL_length, xorL_length]) fun i hi => by
  rw [xorL_length, xorL_length] at hi
  rw [xorL_get _ _ _ (by rw [xorL_length]; exact hi), xorL_get _ _ _ hi, BitVec.xor_assoc, BitVec.xor_self, BitVec.xor_zero]
/-! ### rows -/
def rowsB (b : List B) : List B := byN 16 fun i => b.getD ((i + 4 * (i % 4)) % 16) 0#8
def backB' (b : List B) : List B := byN 16 fun i => b.getD ((i + 12 * (i % 4)) % 16) 0#8
theorem rowsB_length (b : List B) : (rowsB b).length = 16 := byN_length _ _
theorem backB'_length (b : List B) : (backB' b).length = 16 := byN_length _ _
theorem rows_back (b : List B) (h : b.length = 16) : rowsB (backB' b) = b := getD_ext (by rw [rowsB_length, h]) fun i hi => by
  rw [rowsB_length] at hi
  unfold rowsB backB'
  rw [byN_get _ _ _ hi, byN_get _ _ _ (Nat.mod_lt _ (by decide))]
  congr 1
  omega
theorem back_rows (b : List B) (h : b.length = 16) : backB' (rowsB b) = b := getD_ext (by rw [backB'_length, h]) fun i hi => by
  rw [backB'_length] at hi
  unfold rowsB backB'
  rw [byN_get _ _ _ hi, byN_get _ _ _ (Nat.mod_lt _ (by decide))]
  congr 1
  omega
theorem rows3 (b : List B) (h : b.length = 16) : rowsB (rowsB (rowsB b)) = backB' b := getD_ext (by rw [rowsB_length, backB'_length]) fun i hi => by
  rw [rowsB_length] at hi
  unfold rowsB backB'
  rw [byN_get _ _ _ hi, byN_get _ _ _ (Nat.mod_lt _ (by decide)), byN_get _ _ _ (Nat.mod_lt _ (by decide)), byN_get _ _ _ hi]
  congr 1
  omega
/-! ### columns -/
def colE (x0 x1 x2 x3 : B) : B := x0 ^^^ (x0 ^^^ x1 ^^^ x2 ^^^ x3 ^^^ T (x0 ^^^ x1))
def at4 (b : List B) (i k : Nat) : B := b.getD (i / 4 * 4 + (i + k) % 4) 0#8
def colsB (b : List B) : List B := byN 16 fun i => colE (at4 b i 0) (at4 b i 1) (at4 b i 2) (at4 b i 3)
theorem colsB_length (b : List B) : (colsB b).length = 16 := byN_length _ _
theorem at4_cols (b : List B) (i k : Nat) (h : i < 16) : at4 (colsB b) i k = colE (at4 b i k) (at4 b i (k + 1)) (at4 b i (k + 2)) (at4 b i (k + 3)) := by
  unfold at4 colsB
  rw [byN_get _ _ _ (by omega)]
  unfold at4
  have e : ∀ j, (i / 4 * 4 + (i + k) % 4) / 4 * 4 + ((i / 4 * 4 + (i + k) % 4) + j) % 4 = i / 4 * 4 + (i + (k + j)) % 4 := fun j => by omega
  rw [e, e, e, e, Nat.add_zero]
theorem at4_zero (b : List B) (i : Nat) : at4 b i 0 = b.getD i 0#8 := by
  unfold at4
  congr 1
  omega
theorem at4_four (b : List B) (i k : Nat) : at4 b i (k + 4) = at4 b i k := by
  unfold at4
  congr 1
  omega
theorem colE_ref (x0 x1 x2 x3 : B) : colE x0 x1 x2 x3 = mul 2#8 x0 ^^^ mul 3#8 x1 ^^^ x2 ^^^ x3 := by
  have h2 : mul 2#8 x0 = T x0 := by rw [mul_comm, mul_two]
  have h3 : mul 3#8 x1 = T x1 ^^^ x1 := by
    rw [mul_comm, show (3#8 : B) = 2#8 ^^^ 1#8 by decide, mul_right, mul_two, mul_one]
  rw [h2, h3]
  unfold colE
  simp only [T_xor, BitVec.xor_assoc, BitVec.xor_comm, xor_lcomm, xor_lself, BitVec.xor_self, BitVec.xor_zero, BitVec.zero_xor]
def backE (x0 x1 x2 x3 : B) : B := mul 14#8 x0 ^^^ mul 11#8 x1 ^^^ mul 13#8 x2 ^^^ mul 9#8 x3
theorem colE2 (x0 x1 x2 x3 : B) : colE (colE x0 x1 x2 x3) (colE x1 x2 x3 x0) (colE x2 x3 x0 x1) (colE x3 x0 x1 x2) = T (T x0) ^^^ (T (T x2) ^^^ x0) := by
  unfold colE
  simp only [T_xor, BitVec.xor_assoc, BitVec.xor_comm, xor_lcomm, xor_lself, BitVec.xor_self, BitVec.xor_zero, BitVec.zero_xor]
def sqE (x0 x2 : B) : B := T (T x0) ^^^ (T (T x2) ^^^ x0)
theorem sqE2 (x0 x2 : B) : sqE (sqE x0 x2) (sqE x2 x0) = x0 := by
  unfold sqE
  simp only [T_xor, BitVec.xor_assoc, BitVec.xor_comm, xor_lcomm, xor_lself, BitVec.xor_self, BitVec.xor_zero, BitVec.zero_xor]
theorem cols2_get (b : List B) (i : Nat) (h : i < 16) : (colsB (colsB b)).getD i 0#8 = sqE (at4 b i 0) (at4 b i 2) := by
  have e : (colsB (colsB b)).getD i 0#8 = colE (at4 (colsB b) i 0) (at4 (colsB b) i 1) (at4 (colsB b) i 2) (at4 (colsB b) i 3) := byN_get _ _ _ h
  rw [e, at4_cols _ _ _ h, at4_cols _ _ _ h, at4_cols _ _ _ h, at4_cols _ _ _ h]
  show colE (colE _ _ _ _) (colE _ _ _ (at4 b i (0 + 4))) (colE _ _ (at4 b i (0 + 4)) (at4 b i (1 + 4))) (colE _ (at4 b i (0 + 4)) (at4 b i (1 + 4)) (at4 b i (2 + 4))) = _
  rw [at4_four, at4_four, at4_four]
  exact colE2 _ _ _ _
theorem at4_cols2 (b : List B) (i k : Nat) (h : i < 16) : at4 (colsB (colsB b)) i k = sqE (at4 b i k) (at4 b i (k + 2)) := by
  have e : at4 (colsB (colsB b)) i k = (colsB (colsB b)).getD (i / 4 * 4 + (i + k) % 4) 0#8 := rfl
  rw [e, cols2_get _ _ (by omega)]
  unfold at4
  have e : ∀ j, (i / 4 * 4 + (i + k) % 4) / 4 * 4 + ((i / 4 * 4 + (i + k) % 4) + j) % 4 = i / 4 * 4 + (i + (k + j)) % 4 := fun j => by omega
  rw [e, e, Nat.add_zero]
theorem cols4 (b : List B) (h : b.length = 16) : colsB (colsB (colsB (colsB b))) = b := getD_ext (by rw [colsB_length, h]) fun i hi => by
  rw [colsB_length] at hi
  rw [cols2_get _ _ hi, at4_cols2 _ _ _ hi, at4_cols2 _ _ _ hi, show (2 + 2 : Nat) = 0 + 4 from rfl, at4_four, sqE2, at4_zero]
def backC (b : List B) : List B := colsB (colsB (colsB b))
theorem backC_length (b : List B) : (backC b).length = 16 := colsB_length _
theorem backC_cols (b : List B) (h : b.length = 16) : backC (colsB b) = b := cols4 b h
theorem cols_backC (b : List B) (h : b.length = 16) : colsB (backC b) = b := cols4 b h
theorem mul_pows (x : B) : mul 14#8 x = T x ^^^ (T (T x) ^^^ T (T (T x))) ∧ mul 11#8 x = x ^^^ (T x ^^^ T (T (T x))) ∧ mul 13#8 x = x ^^^ (T (T x) ^^^ T (T (T x))) ∧ mul 9#8 x = x ^^^ T (T (T x)) := by
  revert x; decide +kernel
theorem colE3 (x0 x1 x2 x3 : B) : colE (sqE x0 x2) (sqE x1 x3) (sqE x2 x0) (sqE x3 x1) = backE x0 x1 x2 x3 := by
  unfold backE
  rw [(mul_pows x0).1, (mul_pows x1).2.1, (mul_pows x2).2.2.1, (mul_pows x3).2.2.2]
  unfold colE sqE
  simp only [T_xor, BitVec.xor_assoc, BitVec.xor_comm, xor_lcomm, xor_lself, BitVec.xor_self, BitVec.xor_zero, BitVec.zero_xor]
theorem backC_get (b : List B) (i : Nat) (h : i < 16) : (backC b).getD i 0#8 = backE (at4 b i 0) (at4 b i 1) (at4 b i 2) (at4 b i 3) := by
  have e : (backC b).getD i 0#8 = colE (at4 (colsB (colsB b)) i 0) (at4 (colsB (colsB b)) i 1) (at4 (colsB (colsB b)) i 2) (at4 (colsB (colsB b)) i 3) := byN_get _ _ _ h
  rw [e, at4_cols2 _ _ _ h, at4_cols2 _ _ _ h, at4_cols2 _ _ _ h, at4_cols2 _ _ _ h, show (2 + 2 : Nat) = 0 + 4 from rfl, show (3 + 2 : Nat) = 1 + 4 from rfl, at4_four, at4_four]
  exact colE3 _ _ _ _
theorem colE_xor (a0 a1 a2 a3 b0 b1 b2 b3 : B) : colE (a0 ^^^ b0) (a1 ^^^ b1) (a2 ^^^ b2) (a3 ^^^ b3) = colE a0 a1 a2 a3 ^^^ colE b0 b1 b2 b3 := by
  unfold colE
  simp only [T_xor, BitVec.xor_assoc, BitVec.xor_comm, xor_lcomm, xor_lself, BitVec.xor_self, BitVec.xor_zero, BitVec.zero_xor]
theorem cols_xor (a b : List B) (ha : a.length = 16) : colsB (xorL a b) = xorL (colsB a) (colsB b) := getD_ext (by rw [colsB_length, xorL_length, colsB_length]) fun i hi => by
  rw [colsB_length] at hi
  rw [xorL_get _ _ _ (by rw [colsB_length]; exact hi)]
  have e : ∀ c : List B, (colsB c).getD i 0#8 = colE (at4 c i 0) (at4 c i 1) (at4 c i 2) (at4 c i 3) := fun c => byN_get _ _ _ hi
  have x : ∀ k, at4 (xorL a b) i k = at4 a i k ^^^ at4 b i k := fun k => xorL_get _ _ _ (by rw [ha]; omega)
  rw [e, e, e, x, x, x, x]
  exact colE_xor _ _ _ _ _ _ _ _
/-! ### bytes, substituted -/
theorem map_getD (f : B → B) (b : List B) (i : Nat) (h : i < b.length) : (b.map f).getD i 0#8 = f (b.getD i 0#8) := by
  rw [List.getD_eq_getElem?_getD, List.getD_eq_getElem?_getD, List.getElem?_map, List.getElem?_eq_getElem h]; rfl
theorem back_sub_l (b : List B) : (b.map subB).map backB = b := by
  rw [List.map_map]
  conv => rhs; rw [← List.map_id b]
  exact List.map_congr_left fun x _ => back_sub x
theorem sub_back_l (b : List B) : (b.map backB).map subB = b := by
  rw [List.map_map]
  conv => rhs; rw [← List.map_id b]
  exact List.map_congr_left fun x _ => sub_back x
/-! ### a block, enciphered and deciphered: k: the round keys -/
def keyAt (k : List (List B)) (r : Nat) : List B := k.getD r []
/-- Behind round r. -/
def encTo (k : List (List B)) (b : List B) : Nat → List B
  | 0 => xorL b (keyAt k 0)
  | r + 1 => xorL (colsB (rowsB ((encTo k b r).map subB))) (keyAt k (r + 1))
/-- The last round is number n + 1. -/
def encB (k : List (List B)) (n : Nat) (b : List B) : List B := xorL (rowsB ((encTo k b n).map subB)) (keyAt k (n + 1))
theorem encTo_length (k : List (List B)) (b : List B) (h : b.length = 16) : ∀ r, (encTo k b r).length = 16
  | 0 => by rw [encTo, xorL_length, h]
  | r + 1 => by rw [encTo, xorL_length, colsB_length]
theorem encB_length (k : List (List B)) (n : Nat) (b : List B) : (encB k n b).length = 16 := by rw [encB, xorL_length, rowsB_length]
/-- Ahead of the taking away of round n - j's key (the program's way). -/
def decTo (k : List (List B)) (n : Nat) (b : List B) : Nat → List B
  | 0 => xorL b (keyAt k (n + 1))
  | j + 1 => backC (xorL ((backB' (decTo k n b j)).map backB) (keyAt k (n - j)))
def decB (k : List (List B)) (n : Nat) (b : List B) : List B := xorL ((backB' (decTo k n b n)).map backB) (keyAt k 0)
theorem decTo_length (k : List (List B)) (n : Nat) (b : List B) (h : b.length = 16) : ∀ r, (decTo k n b r).length = 16
  | 0 => by rw [decTo, xorL_length, h]
  | r + 1 => by rw [decTo, backC_length]
theorem decB_length (k : List (List B)) (n : Nat) (b : List B) : (decB k n b).length = 16 := by rw [decB, xorL_length, List.length_map, backB'_length]
/-- The document's way. -/
def recTo (k : List (List B)) (n : Nat) (b : List B) : Nat → List B
  | 0 => (backB' (xorL b (keyAt k (n + 1)))).map backB
  | j + 1 => (backB' (backC (xorL (recTo k n b j) (keyAt k (n - j))))).map backB
theorem rec_dec (k : List (List B)) (n : Nat) (b : List B) : ∀ j, recTo k n b j = (backB' (decTo k n b j)).map backB
  | 0 => rfl
  | j + 1 => by rw [recTo, rec_dec k n b j, decTo]
theorem recTo_length (k : List (List B)) (n : Nat) (b : List B) (j : Nat) : (recTo k n b j).length = 16 := by rw [rec_dec, List.length_map, backB'_length]
theorem dec_rec (k : List (List B)) (n : Nat) (b : List B) : xorL (recTo k n b n) (keyAt k 0) = decB k n b := by rw [rec_dec, decB]
theorem dec_enc_to (k : List (List B)) (n : Nat) (b : List B) (h : b.length = 16) : ∀ j, j ≤ n → decTo k n (encB k n b) j = rowsB ((encTo k b (n - j)).map subB) := by
  intro j
  induction j with
  | zero => intro _; rw [decTo, encB, xorL_xorL]; rfl
  | succ j ih =>
    intro hj
    rw [decTo, ih (by omega), back_rows _ (by rw [List.length_map, encTo_length k b h]), back_sub_l]
    obtain ⟨m, hm⟩ : ∃ m, n - j = m + 1 := ⟨n - j - 1, by omega⟩
    rw [hm, encTo, xorL_xorL, backC_cols _ (rowsB_length _), show n - (j + 1) = m by omega]
theorem dec_enc (k : List (List B)) (n : Nat) (b : List B) (h : b.length = 16) : decB k n (encB k n b) = b := by
  rw [decB, dec_enc_to k n b h n (Nat.le_refl _), Nat.sub_self, back_rows _ (by rw [List.length_map, encTo_length k b h]), back_sub_l, encTo, xorL_xorL]
theorem enc_dec_to (k : List (List B)) (n : Nat) (b : List B) (h : b.length = 16) : ∀ r, r ≤ n → encTo k (decB k n b) r = (backB' (decTo k n b (n - r))).map backB := by
  intro r
  induction r with
  | zero => intro _; rw [encTo, decB, xorL_xorL]; rfl
  | succ r ih =>
    intro hr
    rw [encTo, ih (by omega), sub_back_l, rows_back _ (decTo_length k n b h _)]
    obtain ⟨m, hm⟩ : ∃ m, n - r = m + 1 := ⟨n - r - 1, by omega⟩
    rw [hm, decTo, cols_backC _ (by rw [xorL_length, List.length_map, backB'_length]), show n - m = r + 1 by omega, xorL_xorL, show n - (r + 1) = m by omega]
theorem enc_dec (k : List (List B)) (n : Nat) (b : List B) (h : b.length = 16) : encB k n (decB k n b) = b := by
  rw [encB, enc_dec_to k n b h n (Nat.le_refl _), Nat.sub_self, sub_back_l, rows_back _ (decTo_length k n b h _), decTo, xorL_xorL]
theorem enc_inj (k : List (List B)) (n : Nat) {a b : List B} (ha : a.length = 16) (hb : b.length = 16) (h : encB k n a = encB k n b) : a = b := by
  rw [← dec_enc k n a ha, h, dec_enc k n b hb]
/-! ### key words -/
def mark (i : Nat) : B := if i < 1 then 0#8 else pow 2#8 (i - 1)
/-- What is made of the word ahead. -/
def madeB (w : List B) (i k : Nat) : List B :=
  if i % k = 0 then [subB (w.getD 1 0#8) ^^^ mark (i / k), subB (w.getD 2 0#8), subB (w.getD 3 0#8), subB (w.getD 0 0#8)]
  else if k = 8 ∧ i % 8 = 4 then w.map subB else w
def wordAt (l : List (List B)) (i : Nat) : List B := l.getD i []
def wordB (l : List (List B)) (i k : Nat) : List B := xorL (madeB (wordAt l (i - 1)) i k) (wordAt l (i - k))
def four (l : List B) (i : Nat) : List B := (l.drop (4 * i)).take 4
def keyWords (key : List B) (k : Nat) : List (List B) := (List.range k).map (four key)
/-- The first k + m words. -/
def wordsTo (key : List B) (k : Nat) : Nat → List (List B)
  | 0 => keyWords key k
  | m + 1 => wordsTo key k m ++ [wordB (wordsTo key k m) (k + m) k]
def roundsN (n : Nat) : Nat := if n = 16 then 10 else if n = 24 then 12 else if n = 32 then 14 else 0
/-- The bytes of all words. -/
def allB (key : List B) (m : Nat) : List B := (wordsTo key (key.length / 4) m).flatten
def roundKeys (key : List B) : List (List B) := (List.range (roundsN key.length + 1)).map fun r => ((allB key (4 * (roundsN key.length + 1) - key.length / 4)).drop (16 * r)).take 16
theorem four_length (l : List B) (i : Nat) (h : 4 * i + 4 ≤ l.length) : (four l i).length = 4 := by
  unfold four
  rw [List.length_take, List.length_drop]
  omega
theorem four_get (l : List B) (i j : Nat) (h : j < 4) : (four l i).getD j 0#8 = l.getD (4 * i + j) 0#8 := by
  unfold four
  rw [List.getD_eq_getElem?_getD, List.getD_eq_getElem?_getD, List.getElem?_take, if_pos h, List.getElem?_drop]
theorem madeB_length (w : List B) (i k : Nat) (h : w.length = 4) : (madeB w i k).length = 4 := by
  unfold madeB
  split
  · rfl
  · split
    · rw [List.length_map, h]
    · exact h
theorem wordB_length (l : List (List B)) (i k : Nat) (h : (wordAt l (i - 1)).length = 4) : (wordB l i k).length = 4 := by
  unfold wordB
  rw [xorL_length, madeB_length _ _ _ h]
def All4 (l : List (List B)) : Prop := ∀ x ∈ l, x.length = 4
theorem All4.at_ {l : List (List B)} (h : All4 l) {i : Nat} (hi : i < l.length) : (wordAt l i).length = 4 := by
  unfold wordAt
  rw [List.getD_eq_getElem?_getD, List.getElem?_eq_getElem hi]
  exact h _ (List.getElem_mem hi)
theorem keyWords_length (key : List B) (k : Nat) : (keyWords key k).length = k := by simp [keyWords]
theorem keyWords_four (key : List B) (k : Nat) (h : key.length = 4 * k) : All4 (keyWords key k) := by
  intro x hx
  obtain ⟨i, hi, rfl⟩ := List.mem_map.1 hx
  have := List.mem_range.1 hi
  exact four_length _ _ (by omega)
theorem wordsTo_length (key : List B) (k : Nat) : ∀ m, (wordsTo key k m).length = k + m
  | 0 => keyWords_length key k
  | m + 1 => by rw [wordsTo, List.length_append, wordsTo_length key k m]; rfl
theorem wordsTo_four (key : List B) (k : Nat) (h : key.length = 4 * k) (hk : 0 < k) : ∀ m, All4 (wordsTo key k m)
  | 0 => keyWords_four key k h
  | m + 1 => by
    have ih := wordsTo_four key k h hk m
    rw [wordsTo]
    intro x hx
    rcases List.mem_append.1 hx with hx | hx
    · exact ih x hx
    · rw [List.mem_singleton.1 hx]
      exact wordB_length _ _ _ (ih.at_ (by rw [wordsTo_length]; omega))
theorem flat_length {l : List (List B)} (h : All4 l) : l.flatten.length = 4 * l.length := by
  induction l with
  | nil => rfl
  | cons x l ih =>
    rw [List.flatten_cons, List.length_append, h x List.mem_cons_self, ih (fun y hy => h y (List.mem_cons_of_mem _ hy)), List.length_cons]
    omega
theorem flat_four {l : List (List B)} (h : All4 l) (i : Nat) (hi : i < l.length) : four l.flatten i = wordAt l i := by
  induction l generalizing i with
  | nil => exact absurd hi (Nat.not_lt_zero _)
  | cons x l ih =>
    have hx := h x List.mem_cons_self
    cases i with
    | zero =>
      unfold four wordAt
      rw [List.flatten_cons, Nat.mul_zero, List.drop_zero, List.take_left' hx]
      rfl
    | succ i =>
      have e := ih (fun y hy => h y (List.mem_cons_of_mem _ hy)) i (by rw [List.length_cons] at hi; omega)
      unfold four wordAt at e ⊢
      rw [List.flatten_cons, show 4 * (i + 1) = x.length + 4 * i by omega, List.drop_append, List.drop_eq_nil_of_le (by omega), List.nil_append, show x.length + 4 * i - x.length = 4 * i by omega, e]
      rfl
theorem flat_get {l : List (List B)} (h : All4 l) (p : Nat) (hp : p < 4 * l.length) : l.flatten.getD p 0#8 = (wordAt l (p / 4)).getD (p % 4) 0#8 := by
  rw [← flat_four h (p / 4) (by omega), four_get _ _ _ (Nat.mod_lt _ (by decide))]
  congr 1
  omega
theorem keyWords_flat (key : List B) (k : Nat) (h : key.length = 4 * k) : (keyWords key k).flatten = key := by
  refine getD_ext (by rw [flat_length (keyWords_four key k h), keyWords_length, h]) fun p hp => ?_
  rw [flat_length (keyWords_four key k h), keyWords_length] at hp
  rw [flat_get (keyWords_four key k h) p (by rw [keyWords_length]; exact hp)]
  have e : wordAt (keyWords key k) (p / 4) = four key (p / 4) := by
    unfold wordAt keyWords
    rw [List.getD_eq_getElem?_getD, List.getElem?_map, List.getElem?_range (by omega)]
    rfl
  rw [e, four_get _ _ _ (Nat.mod_lt _ (by decide))]
  congr 1
  omega
theorem wordsTo_at (key : List B) (k : Nat) (i : Nat) : ∀ m, i < k + m → wordAt (wordsTo key k (m + 1)) i = wordAt (wordsTo key k m) i := by
  intro m hi
  rw [wordsTo]
  unfold wordAt
  rw [List.getD_eq_getElem?_getD, List.getD_eq_getElem?_getD, List.getElem?_append_left (by rw [wordsTo_length]; exact hi)]
theorem wordsTo_le (key : List B) (k i : Nat) : ∀ d m, i < k + m → wordAt (wordsTo key k (m + d)) i = wordAt (wordsTo key k m) i := by
  intro d
  induction d with
  | zero => intro m _; rfl
  | succ d ih =>
    intro m hi
    rw [← Nat.add_assoc, wordsTo_at _ _ _ _ (by omega), ih m hi]
theorem wordsTo_new (key : List B) (k m : Nat) : wordAt (wordsTo key k (m + 1)) (k + m) = wordB (wordsTo key k m) (k + m) k := by
  rw [wordsTo]
  unfold wordAt
  rw [List.getD_eq_getElem?_getD, List.getElem?_append_right (by rw [wordsTo_length]; omega), wordsTo_length, Nat.sub_self]
  rfl
/-- A word of the key's own words, in the row of all m of them: made of those ahead. -/
theorem wordsTo_eq (key : List B) (k m i : Nat) (hk : 0 < k) (h1 : k ≤ i) (h2 : i < k + m) : wordAt (wordsTo key k m) i = xorL (madeB (wordAt (wordsTo key k m) (i - 1)) i k) (wordAt (wordsTo key k m) (i - k)) := by
  obtain ⟨t, rfl⟩ : ∃ t, i = k + t := ⟨i - k, by omega⟩
  obtain ⟨d, rfl⟩ : ∃ d, m = t + 1 + d := ⟨m - (t + 1), by omega⟩
  rw [wordsTo_le _ _ _ _ _ (by omega), wordsTo_new]
  unfold wordB
  rw [← wordsTo_le key k (k + t - 1) (1 + d) t (by omega), ← wordsTo_le key k (k + t - k) (1 + d) t (by omega), Nat.add_assoc t 1 d]
theorem roundsN_pos {n : Nat} (h : roundsN n ≠ 0) : (n = 16 ∧ roundsN n = 10) ∨ (n = 24 ∧ roundsN n = 12) ∨ (n = 32 ∧ roundsN n = 14) := by
  unfold roundsN at h ⊢
  split at h
  · rename_i e; subst e; exact Or.inl ⟨rfl, rfl⟩
  · split at h
    · rename_i e; subst e; exact Or.inr (Or.inl ⟨rfl, rfl⟩)
    · split at h
      · rename_i e; subst e; exact Or.inr (Or.inr ⟨rfl, rfl⟩)
      · exact absurd rfl h
theorem roundKeys_length (key : List B) : (roundKeys key).length = roundsN key.length + 1 := by simp [roundKeys]
end Go.Proofs.Ytpdikfmdnlhllaa.AesMath
