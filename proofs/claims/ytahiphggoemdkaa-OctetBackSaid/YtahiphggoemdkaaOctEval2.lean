/-
  What the printed Load, Xor, Inc, Double and Same of octet and of its reference come to: for all bytes and ints.
-/
import Derived.Test.YtahiphggoemdkaaOctEval
namespace Go.Proofs.Ytahiphggoemdkaa.OctEval
open Go.RowKit Go.Proofs.Ytahiphggoemdkaa.POct Go.Proofs.YtahiphggoemdkaaW.PrintWords Go.Proofs.YtahiphggoemdkaaW.PrintLast Go.Proofs.YtahiphggoemdkaaW.PrintMore Byte OctMath Octet Store

/-- Bytes, as whole numbers. -/
def Bytes (l : List Int) : Prop := ∀ x ∈ l, 0 ≤ x ∧ x < 256
theorem bytes_of {l : List Int} (h : ∀ x ∈ l, (Lit.int .u8 x).wf = true) : Bytes l := fun x hx => wf_u8 (h x hx)
theorem Bytes.rd {l : List Int} (h : Bytes l) (i : Int) : 0 ≤ rd l i ∧ rd l i < 256 := by
  unfold Go.Proofs.YtahiphggoemdkaaW.PrintWords.rd
  rw [List.getD_eq_getElem?_getD]
  cases e : l[i.toNat]? with
  | none => simp
  | some x => exact h x (List.mem_of_getElem? e)
theorem Bytes.set {l : List Int} (h : Bytes l) (i : Nat) (x : Int) (h0 : 0 ≤ x) (h1 : x < 256) : Bytes (l.set i x) := by
  intro y hy
  rcases List.mem_or_eq_of_mem_set hy with h' | h'
  · exact h y h'
  · omega

/-! ### Load -/
/-- A byte; 0, if it is not there. -/
def B (l : List Int) (p : Int) : Nat := if 0 ≤ p ∧ p < l.length then (rd l p).toNat else 0
theorem B_lt {l : List Int} (h : Bytes l) (p : Int) : B l p < 256 := by
  unfold B; split
  · have := h.rd p; omega
  · decide
def bs (l : List Int) (at_ : Int) : Nat → Nat → List Nat
  | _, 0 => []
  | i, d + 1 => B l (at_ + i) :: bs l at_ (i + 1) d
theorem bs_length (l : List Int) (at_ : Int) : ∀ d i, (bs l at_ i d).length = d
  | 0, _ => rfl
  | d + 1, i => by simp [bs, bs_length l at_ d]
theorem bs_lt {l : List Int} (h : Bytes l) (at_ : Int) : ∀ d i, ∀ x ∈ bs l at_ i d, x < 256
  | 0, _, x, hx => by simp [bs] at hx
  | d + 1, i, x, hx => by
    simp only [bs, List.mem_cons] at hx
    rcases hx with rfl | hx
    · exact B_lt h _
    · exact bs_lt h at_ d (i + 1) x hx
theorem At_eq {l : List Int} (h : Bytes l) (p : Int) : visorref01_At.f l p = some ((B l p : Nat) : Int) := by
  unfold visorref01_At.f B
  have := h.rd p
  by_cases h0 : p < 0
  · rw [if_pos h0, if_neg (by omega)]; rfl
  · rw [if_neg h0]
    by_cases h1 : p ≥ l.length
    · rw [if_pos h1, if_neg (by omega)]; rfl
    · rw [if_neg h1, if_pos (by omega), if_pos (by omega), if_pos (by omega)]
      congr 1; omega
theorem or_nat (x b i : Nat) (hx : x < 2 ^ i) (hb : 2 ^ i * b < 18446744073709551616) (hi : i < 64) : Go.bits .or .u64 (x : Int) ((2 ^ i * b : Nat) : Int) = ((x + 2 ^ i * b : Nat) : Int) := by
  have hp : 2 ^ i < 2 ^ 64 := Nat.pow_lt_pow_right (by decide) hi
  have hk : ∀ n : Int, 0 ≤ n → n < 2 ^ 64 → IntKind.u64.wrap n = n := fun n h0 h1 => by rw [wrap_u64]; omega
  rw [(bits_nat .u64 64 (by decide) hk x _ (by omega) hb).2, Nat.or_comm, ← Nat.two_pow_add_eq_or_of_lt hx, Nat.add_comm]
theorem Load_l0 {l : List Int} (h : Bytes l) (hl : l.length ≤ 140737488351232) (at_ : Int) (h0 : -9 < at_) (h1 : at_ < l.length) : ∀ (d k i x : Nat), i + d = 8 → x < 2 ^ (8 * i) → d < k →
    octet_Load.l0 k l at_ ((x : Nat) : Int) (i : Int) = some ((x + 2 ^ (8 * i) * num (bs l at_ i d) : Nat) : Int) := by
  intro d
  induction d with
  | zero =>
    intro k i x hi hx hk
    obtain ⟨k, rfl⟩ : ∃ m, k = m + 1 := ⟨k - 1, by omega⟩
    simp only [octet_Load.l0]
    rw [if_neg (by omega)]; simp [bs, num]
  | succ d ih =>
    intro k i x hi hx hk
    obtain ⟨k, rfl⟩ : ∃ m, k = m + 1 := ⟨k - 1, by omega⟩
    simp only [octet_Load.l0, bs, num]
    have ep : wrap64 (at_ + (i : Int)) = at_ + i := by unfold wrap64; omega
    have ei : wrap64 ((i : Int) + 1) = ((i + 1 : Nat) : Int) := by unfold wrap64; omega
    have e8 : wrap64 (8 * (i : Int)) = ((8 * i : Nat) : Int) := by unfold wrap64; omega
    rw [if_pos (by omega), ep, ei, e8]
    have hp : 2 ^ (8 * (i + 1)) = 2 ^ (8 * i) * 256 := by rw [Nat.mul_add, Nat.pow_add]
    have hB := B_lt h (at_ + i)
    have key : ∀ b, b < 256 → x + 2 ^ (8 * i) * b < 2 ^ (8 * (i + 1)) := fun b hb => by
      rw [hp]
      calc x + 2 ^ (8 * i) * b < 2 ^ (8 * i) + 2 ^ (8 * i) * b := by omega
        _ = 2 ^ (8 * i) * (b + 1) := by rw [Nat.mul_succ]; omega
        _ ≤ 2 ^ (8 * i) * 256 := Nat.mul_le_mul_left _ (by omega)
    have fin : ∀ N b : Nat, x + 2 ^ (8 * i) * b + 2 ^ (8 * (i + 1)) * N = x + 2 ^ (8 * i) * (b + 256 * N) := fun N b => by
      rw [hp, Nat.mul_add, Nat.mul_assoc, Nat.add_assoc]
    by_cases c : 0 ≤ at_ + (i : Int) ∧ at_ + (i : Int) < l.length
    · rw [if_pos (show at_ + (i : Int) ≥ 0 by omega), if_pos c.2, if_pos c.1, if_pos (by omega)]
      have hb : (rd l (at_ + i)) = ((B l (at_ + i) : Nat) : Int) := by
        unfold B; rw [if_pos c]; have := h.rd (at_ + i); omega
      have hle : 2 ^ (8 * (i + 1)) ≤ 2 ^ 64 := Nat.pow_le_pow_right (by decide) (by omega)
      have hk1 := key (B l (at_ + i)) hB
      have es : shl .u64 (IntKind.u64.wrap (rd l (at_ + i))) ((8 * i : Nat) : Int) = ((2 ^ (8 * i) * B l (at_ + i) : Nat) : Int) := by
        rw [hb, wrap_u64_nat _ (by omega)]
        unfold shl
        have : min (((8 * i : Nat) : Int).toNat) IntKind.u64.bits = 8 * i := by
          show min (((8 * i : Nat) : Int).toNat) 64 = 8 * i
          omega
        rw [this, show ((B l (at_ + i) : Nat) : Int) * 2 ^ (8 * i) = ((2 ^ (8 * i) * B l (at_ + i) : Nat) : Int) by rw [Nat.mul_comm (2 ^ (8 * i))]; simp]
        exact wrap_u64_nat _ (by omega)
      rw [es, or_nat x (B l (at_ + i)) (8 * i) hx (by omega) (by omega), ih k (i + 1) _ (by omega) hk1 (by omega), fin]
    · have hb : B l (at_ + i) = 0 := by unfold B; rw [if_neg c]
      have hk1 := key 0 (by decide)
      rw [Nat.mul_zero, Nat.add_zero] at hk1
      have f0 := fin (num (bs l at_ (i + 1) d)) 0
      rw [Nat.mul_zero, Nat.add_zero] at f0
      rw [hb, ← f0, ← ih k (i + 1) x (by omega) hk1 (by omega)]
      by_cases c1 : at_ + (i : Int) ≥ 0
      · rw [if_pos c1, if_neg (by omega)]
      · rw [if_neg c1]
theorem RLoad_l0 {l : List Int} (h : Bytes l) (hl : l.length ≤ 140737488351232) (at_ : Int) (h0 : -9 < at_) (h1 : at_ < l.length) : ∀ (d k : Nat), d ≤ 8 → d < k →
    visorref01_Load.l0 k l at_ ((num (bs l at_ d (8 - d)) : Nat) : Int) ((d : Int) - 1) = some ((num (bs l at_ 0 8) : Nat) : Int) := by
  intro d
  induction d with
  | zero =>
    intro k hd hk
    obtain ⟨k, rfl⟩ : ∃ m, k = m + 1 := ⟨k - 1, by omega⟩
    simp only [visorref01_Load.l0]
    rw [if_neg (by omega)]
  | succ d ih =>
    intro k hd hk
    obtain ⟨k, rfl⟩ : ∃ m, k = m + 1 := ⟨k - 1, by omega⟩
    simp only [visorref01_Load.l0]
    have e1 : ((d + 1 : Nat) : Int) - 1 = (d : Int) := by omega
    have ep : wrap64 (at_ + (d : Int)) = at_ + d := by unfold wrap64; omega
    have ei : wrap64 ((d : Int) - 1) = (d : Int) - 1 := by unfold wrap64; omega
    rw [e1, if_pos (by omega), ep, ei, At_eq h]
    simp only [Option.bind_some]
    have hB := B_lt h (at_ + d)
    have e2 : bs l at_ d (8 - d) = B l (at_ + d) :: bs l at_ (d + 1) (8 - (d + 1)) := by
      rw [show 8 - d = (8 - (d + 1)) + 1 by omega]; rfl
    have hn := num_lt _ (bs_lt h at_ (8 - d) d)
    rw [bs_length] at hn
    have hle : 256 ^ (8 - d) ≤ 256 ^ 8 := Nat.pow_le_pow_right (by decide) (by omega)
    have e3 : IntKind.u64.wrap (IntKind.u64.wrap (((num (bs l at_ (d + 1) (8 - (d + 1))) : Nat) : Int) * 256) + IntKind.u64.wrap ((B l (at_ + d) : Nat) : Int)) = ((num (bs l at_ d (8 - d)) : Nat) : Int) := by
      rw [e2] at hn ⊢
      simp only [num] at hn ⊢
      rw [wrap_u64, wrap_u64, wrap_u64]
      omega
    rw [e3]
    exact ih k (by omega) (by omega)
/-- The word that stands somewhere. -/
def loadV (l : List Int) (at_ : Int) : Nat := if at_ ≤ -8 ∨ (l.length : Int) ≤ at_ then 0 else num (bs l at_ 0 8)
theorem Load_eq {l : List Int} (h : Bytes l) (hl : l.length ≤ 140737488351232) (at_ : Int) (k : Nat) (hk : 12 ≤ k) : octet_Load.f k l at_ = some ((loadV l at_ : Nat) : Int) := by
  obtain ⟨k, rfl⟩ : ∃ m, k = m + 1 := ⟨k - 1, by omega⟩
  unfold octet_Load.f loadV
  simp only [octet_Load.j0]
  by_cases c : at_ ≤ -8
  · rw [if_pos c, if_pos trivial, if_pos (Or.inl c)]; rfl
  · rw [if_neg c]
    by_cases c1 : (l.length : Int) ≤ at_
    · rw [if_pos (decide_eq_true (show at_ ≥ l.length by omega)), if_pos (Or.inr c1)]; rfl
    · rw [if_neg (by simp; omega), if_neg (by omega)]
      have := Load_l0 h hl at_ (by omega) (by omega) 8 k 0 0 rfl (by decide) (by omega)
      simpa using this
theorem bs_zero (l : List Int) : ∀ d i, i + d ≤ 8 → num (bs l (-8) i d) = 0
  | 0, _, _ => rfl
  | d + 1, i, h => by
    simp only [bs, num, bs_zero l d (i + 1) (by omega)]
    unfold B; rw [if_neg (by omega)]
theorem RLoad_eq {l : List Int} (h : Bytes l) (hl : l.length ≤ 140737488351232) (at_ : Int) (k : Nat) (hk : 12 ≤ k) : visorref01_Load.f k l at_ = some ((loadV l at_ : Nat) : Int) := by
  obtain ⟨k, rfl⟩ : ∃ m, k = m + 1 := ⟨k - 1, by omega⟩
  unfold visorref01_Load.f loadV
  simp only [visorref01_Load.j0]
  by_cases c : at_ < -8
  · rw [if_pos c, if_pos trivial, if_pos (Or.inl (by omega))]; rfl
  · rw [if_neg c]
    by_cases c1 : (l.length : Int) ≤ at_
    · rw [if_pos (decide_eq_true (show at_ ≥ l.length by omega)), if_pos (Or.inr c1)]; rfl
    · rw [if_neg (by simp; omega)]
      have := RLoad_l0 h hl at_ (by omega) (by omega) 8 k (by omega) (by omega)
      refine this.trans ?_
      by_cases c2 : at_ = -8
      · subst c2; rw [if_pos (Or.inl (by omega)), bs_zero l 8 0 (by decide)]
      · rw [if_neg (by omega)]

/-! ### Xor, Inc -/
theorem RXor_l0 (a b : List Int) (ha : a.length ≤ 140737488351232) : ∀ (d k i : Nat), i + d = min a.length b.length → d < k → visorref01_Xor.l0 k a b (xorL (a.take i) (b.take i)) (i : Int) = some (xorL a b) := by
  intro d
  induction d with
  | zero =>
    intro k i hi hk
    obtain ⟨k, rfl⟩ : ∃ m, k = m + 1 := ⟨k - 1, by omega⟩
    simp only [visorref01_Xor.l0]
    have e : xorL (a.take i) (b.take i) = xorL a b := by
      unfold xorL; rw [← List.take_zipWith, List.take_of_length_le (by simp; omega)]
    rw [e]
    by_cases c : (i : Int) < a.length
    · rw [if_pos c, if_neg (by omega)]
    · rw [if_neg c]
  | succ d ih =>
    intro k i hi hk
    obtain ⟨k, rfl⟩ : ∃ m, k = m + 1 := ⟨k - 1, by omega⟩
    simp only [visorref01_Xor.l0]
    have hl : (xorL (a.take i) (b.take i)).length < 140737488355328 := by unfold xorL; simp; omega
    rw [if_pos (by omega), if_pos (by omega), if_pos (by omega), if_pos hl, show wrap64 ((i : Int) + 1) = ((i + 1 : Nat) : Int) by unfold wrap64; omega, ← ih k (i + 1) (by omega) (by omega)]
    congr 1
    have h1 : i < a.length := by omega
    have h2 : i < b.length := by omega
    unfold rd xorL
    rw [Int.toNat_natCast, List.take_succ_eq_append_getElem h1, List.take_succ_eq_append_getElem h2, List.zipWith_append (by simp; omega)]
    simp [List.getD_eq_getElem?_getD, List.getElem?_eq_getElem h1, List.getElem?_eq_getElem h2]
theorem RXor_eq (a b : List Int) (ha : a.length ≤ 140737488351232) (k : Nat) (hk : a.length + 1 ≤ k) : visorref01_Xor.f k a b = some (xorL a b) := by
  unfold visorref01_Xor.f
  have := RXor_l0 a b ha (min a.length b.length) k 0 (by omega) (by omega)
  simpa [xorL] using this
theorem Xor_eq (a b : List Int) (ha : a.length ≤ 140737488351232) : octet_Xor.f a b = some (xorL a b) := by
  unfold octet_Xor.f; rw [if_pos (by omega)]
theorem Inc_eq (a : List Int) (ha : a.length ≤ 140737488351232) : octet_Inc.f a = some (incGo a.length a) := by
  unfold octet_Inc.f; rw [if_pos (by omega)]
theorem RInc_l0 : ∀ (d k : Nat) (l : List Int), Bytes l → d ≤ l.length → l.length ≤ 140737488351232 → d < k → visorref01_Inc.l0 k l ((d : Int) - 1) = some (incGo d l) := by
  intro d
  induction d with
  | zero =>
    intro k l hb hd hl hk
    obtain ⟨k, rfl⟩ : ∃ m, k = m + 1 := ⟨k - 1, by omega⟩
    simp only [visorref01_Inc.l0]
    rw [if_neg (by omega)]; rfl
  | succ d ih =>
    intro k l hb hd hl hk
    obtain ⟨k, rfl⟩ : ∃ m, k = m + 1 := ⟨k - 1, by omega⟩
    simp only [visorref01_Inc.l0, incGo]
    have e1 : ((d + 1 : Nat) : Int) - 1 = (d : Int) := by omega
    have er : rd l (d : Int) = l.getD d 0 := by unfold rd; rw [Int.toNat_natCast]
    have hr := hb.rd (d : Int)
    rw [e1, if_pos (by omega), if_pos (by omega), if_pos (by omega), Int.toNat_natCast, show wrap64 ((d : Int) - 1) = (d : Int) - 1 by unfold wrap64; omega]
    rw [er] at hr ⊢
    generalize l.getD d 0 = x at *
    by_cases c : x < 255
    · rw [if_pos c, if_neg (by omega)]
    · rw [if_neg c, if_pos (by omega), show (x + 1) % 256 = 0 by omega]
      exact ih k _ (hb.set d 0 (by decide) (by decide)) (by simp; omega) (by simp; omega) (by omega)
theorem RInc_eq (l : List Int) (hb : Bytes l) (hl : l.length ≤ 140737488351232) (k : Nat) (hk : l.length + 1 ≤ k) : visorref01_Inc.f k l = some (incGo l.length l) := by
  unfold visorref01_Inc.f
  simp only [Option.bind_some, List.nil_append, List.length_nil]
  rw [if_pos (by omega), show wrap64 ((l.length : Int) - 1) = (l.length : Int) - 1 by unfold wrap64; omega]
  exact RInc_l0 l.length k l hb (by omega) hl (by omega)
theorem Same_refl (l : List Int) : visorref01_Same.f l l = some true := by unfold visorref01_Same.f; simp

/-! ### Double -/
/-- A byte of doubled bytes, but for the last one's mark. -/
def dbB (b : List Int) (i : Nat) : Int := (b.getD i 0 * 2) % 256 + (if i < 15 then b.getD (i + 1) 0 / 128 else 0)
def dbL (b : List Int) : List Int := (List.range 16).map (dbB b)
theorem dbL_length (b : List Int) : (dbL b).length = 16 := by simp [dbL]
theorem dbL_get (b : List Int) (i : Nat) (h : i < 16) : (dbL b)[i]? = some (dbB b i) := by simp [dbL, h]
theorem dbL_getD (b : List Int) (i : Nat) (h : i < 16) : (dbL b).getD i 0 = dbB b i := by rw [List.getD_eq_getElem?_getD, dbL_get b i h]; rfl
def dbl (b : List Int) : List Int := if b.getD 0 0 / 128 = 1 then (dbL b).set 15 (Go.bits .xor .u8 (dbB b 15) 135) else dbL b
theorem or_low (x y : Int) (hx0 : 0 ≤ x) (hx : x % 2 = 0) (hx1 : x < 256) (hy0 : 0 ≤ y) (hy : y < 2) : Go.bits .or .u8 x y = x + y := bits_join .u8 8 (by decide) wraps_u8 1 x y hx0 hx hx1 hy0 hy (by omega)
theorem Double_l0 (b : List Int) (hb : Bytes b) (hl : b.length = 16) : ∀ (d k : Nat), d ≤ 16 → d < k → octet_Double.l0 k b (List.replicate d 0 ++ (dbL b).drop d) (if d < 16 then b.getD d 0 / 128 else 0) ((d : Int) - 1) = some (dbl b) := by
  intro d
  induction d with
  | zero =>
    intro k hd hk
    obtain ⟨k, rfl⟩ : ∃ m, k = m + 1 := ⟨k - 1, by omega⟩
    simp only [octet_Double.l0]
    rw [if_neg (by omega), if_pos (show (0 : Nat) < 16 by decide)]
    unfold dbl
    have hr : rd (dbL b) 15 = dbB b 15 := by unfold rd; exact dbL_getD b 15 (by decide)
    simp only [List.replicate_zero, List.nil_append, List.drop_zero, dbL_length]
    by_cases c : b.getD 0 0 / 128 = 1
    · rw [if_pos c, if_pos c, if_pos (by decide), hr]; rfl
    · rw [if_neg c, if_neg c]
  | succ d ih =>
    intro k hd hk
    obtain ⟨k, rfl⟩ : ∃ m, k = m + 1 := ⟨k - 1, by omega⟩
    simp only [octet_Double.l0]
    have e1 : ((d + 1 : Nat) : Int) - 1 = (d : Int) := by omega
    have er : rd b (d : Int) = b.getD d 0 := by unfold rd; rw [Int.toNat_natCast]
    have hr := hb.rd (d : Int)
    have hlen : (List.replicate (d + 1) (0 : Int) ++ (dbL b).drop (d + 1)).length = 16 := by simp [dbL_length]; omega
    rw [e1, if_pos (by omega), if_pos (by omega), if_pos (by omega), if_pos (by rw [hlen]; omega), Int.toNat_natCast, show wrap64 ((d : Int) - 1) = (d : Int) - 1 by unfold wrap64; omega]
    rw [er] at hr ⊢
    have hc : 0 ≤ (if d + 1 < 16 then b.getD (d + 1) 0 / 128 else 0) ∧ (if d + 1 < 16 then b.getD (d + 1) 0 / 128 else (0 : Int)) < 2 := by
      have h2 := hb.rd ((d + 1 : Nat) : Int)
      have er2 : rd b ((d + 1 : Nat) : Int) = b.getD (d + 1) 0 := by unfold rd; rw [Int.toNat_natCast]
      rw [er2] at h2
      split <;> omega
    have es : (List.replicate (d + 1) (0 : Int) ++ (dbL b).drop (d + 1)).set d (dbB b d) = List.replicate d 0 ++ (dbL b).drop d := by
      rw [List.replicate_succ', List.append_assoc, List.set_append_right _ _ (by simp)]
      simp only [List.length_replicate, Nat.sub_self, List.singleton_append, List.set_cons_zero]
      have hlt : d < (dbL b).length := by rw [dbL_length]; omega
      rw [List.drop_eq_getElem_cons hlt]
      have := dbL_get b d (by omega)
      rw [List.getElem?_eq_getElem hlt] at this
      rw [Option.some.inj this]
    have ev : Go.bits .or .u8 (b.getD d 0 * 2 % 256) (if d + 1 < 16 then b.getD (d + 1) 0 / 128 else 0) = dbB b d := by
      rw [or_low _ _ (by omega) (by omega) (by omega) hc.1 hc.2]
      unfold dbB
      congr 1
      by_cases c : d < 15
      · rw [if_pos c, if_pos (by omega)]
      · rw [if_neg c, if_neg (by omega)]
    rw [ev, es]
    have := ih k (by omega) (by omega)
    rw [if_pos (show d < 16 by omega)] at this
    exact this
theorem Double_eq (b : List Int) (hb : Bytes b) (k : Nat) (hk : 17 ≤ k) : octet_Double.f k b = some (if b.length = 16 then dbl b else []) := by
  unfold octet_Double.f
  by_cases c : b.length = 16
  · rw [if_pos (by omega), if_pos c, if_pos (by decide)]
    have := Double_l0 b hb c 16 k (by decide) (by omega)
    rw [if_neg (by decide), List.drop_eq_nil_of_le (by rw [dbL_length]; decide), List.append_nil] at this
    exact this
  · rw [if_neg (by omega), if_neg c]
theorem RDouble_l0 (b : List Int) (hb : Bytes b) (hl : b.length = 16) : ∀ (d k i : Nat), i + d = 16 → d < k → visorref01_Double.l0 k b ((dbL b).take i) (i : Int) = some (dbl b) := by
  intro d
  induction d with
  | zero =>
    intro k i hi hk
    obtain ⟨k, rfl⟩ : ∃ m, k = m + 1 := ⟨k - 1, by omega⟩
    simp only [visorref01_Double.l0]
    rw [if_neg (by omega), List.take_of_length_le (by rw [dbL_length]; omega)]
    have e0 : rd b 0 = b.getD 0 0 := rfl
    have hr := hb.rd 0
    have h15 : rd (dbL b) 15 = dbB b 15 := by unfold rd; exact dbL_getD b 15 (by decide)
    rw [e0] at hr ⊢
    rw [if_pos (by omega), h15, dbL_length]
    unfold dbl
    by_cases c : b.getD 0 0 ≥ 128
    · rw [if_pos c, if_pos (show b.getD 0 0 / 128 = 1 by omega), if_pos (show (15 : Int) < ((16 : Nat) : Int) by decide)]; rfl
    · rw [if_neg c, if_neg (by omega)]
  | succ d ih =>
    intro k i hi hk
    obtain ⟨k, rfl⟩ : ∃ m, k = m + 1 := ⟨k - 1, by omega⟩
    simp only [visorref01_Double.l0]
    have er : rd b (i : Int) = b.getD i 0 := by unfold rd; rw [Int.toNat_natCast]
    have er2 : rd b ((i + 1 : Nat) : Int) = b.getD (i + 1) 0 := by unfold rd; rw [Int.toNat_natCast]
    have hr := hb.rd (i : Int)
    have hr2 := hb.rd ((i + 1 : Nat) : Int)
    have ei : wrap64 ((i : Int) + 1) = ((i + 1 : Nat) : Int) := by unfold wrap64; omega
    have hll : ((dbL b).take i).length < 140737488355328 := by simp [dbL_length]; omega
    have et : (dbL b).take (i + 1) = (dbL b).take i ++ [dbB b i] := by
      rw [List.take_add_one, dbL_get b i (by omega)]; rfl
    rw [er] at hr
    rw [er2] at hr2
    rw [if_pos (by omega), ei, er, er2]
    have w1 : wrap64 (b.getD i 0) = b.getD i 0 := by unfold wrap64; omega
    have w2 : wrap64 (b.getD (i + 1) 0) = b.getD (i + 1) 0 := by unfold wrap64; omega
    rw [w1, w2, Int.tmod_eq_emod_of_nonneg hr.1, Int.tdiv_eq_ediv_of_nonneg hr2.1]
    have key := ih k (i + 1) (by omega) (by omega)
    rw [et] at key
    by_cases c : i < 15
    · rw [if_pos (by omega), if_pos (by omega), if_pos (by omega), if_pos (by omega), if_pos (by omega), if_pos hll]
      have ev : wrap64 (wrap64 (b.getD i 0 % 128 * 2) + wrap64 (b.getD (i + 1) 0 / 128)) % 256 = dbB b i := by
        unfold dbB wrap64; rw [if_pos c]; omega
      rw [ev]; exact key
    · rw [if_neg (by omega), if_pos (by omega), if_pos (by omega), if_pos hll]
      have ev : wrap64 (wrap64 (b.getD i 0 % 128 * 2)) % 256 = dbB b i := by
        unfold dbB wrap64; rw [if_neg c]; omega
      rw [ev]; exact key
theorem RDouble_eq (b : List Int) (hb : Bytes b) (k : Nat) (hk : 17 ≤ k) : visorref01_Double.f k b = some (if b.length = 16 then dbl b else []) := by
  unfold visorref01_Double.f
  by_cases c : b.length = 16
  · rw [if_pos (by omega), if_pos c]
    have := RDouble_l0 b hb c 16 k 0 rfl (by omega)
    simpa using this
  · rw [if_neg (by omega), if_neg c]
theorem awake_eq (k : Nat) (hk : 17 ≤ k) : visorlaw01_awake.f k = some true := by
  unfold visorlaw01_awake.f
  rw [Inc_eq _ (by decide), Double_eq _ (by intro x hx; simp at hx; omega) k hk]
  simp only [Option.bind_some]
  rw [if_pos (by rfl)]
  rw [show incGo ([0, 255] : List Int).length [0, 255] = [1, 0] by decide +kernel, show dbl [0, 0, 0, 0, 0, 0, 0, 0, 0, 0, 0, 0, 0, 0, 0, 1] = [0, 0, 0, 0, 0, 0, 0, 0, 0, 0, 0, 0, 0, 0, 0, 2] by decide +kernel]
  rfl
end Go.Proofs.Ytahiphggoemdkaa.OctEval
