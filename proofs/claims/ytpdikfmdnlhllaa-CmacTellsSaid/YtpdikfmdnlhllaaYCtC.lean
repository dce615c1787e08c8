/-
  Merged texts, what is reached of them: CmMath, CmEval, CmKnown, Cmac1, Cmac2, Cmac3, Cmac4, Cmac5, Cmac6, Cmac7, CmT1, CmT2, CmT3, CmT4: walks and plain lemmas; no condition.
-/
import Derived.Test.YtpdikfmdnlhllaaYAesMath
import Derived.Test.YtpdikfmdnlhllaaYOctet
import Derived.Test.YtpdikfmdnlhllaaYPNibx3
import Derived.Lib.Bytes
import Derived.Test.YtpdikfmdnlhllaaYCtA
import Derived.Deep.MidRow
import Derived.Laws.Cover3
import Derived.Test.YtpdikfmdnlhllaaYCtB
import Derived.Test.YtpdikfmdnlhllaaYSlices
namespace Go.Proofs.Ytpdikfmdnlhllaa.Aes
open Byte AesMath
/-- Bytes, as whole numbers. -/
def Bytes (l : List Int) : Prop := ∀ x ∈ l, 0 ≤ x ∧ x < 256
theorem Bytes.rd {l : List Int} (h : Bytes l) (i : Nat) : 0 ≤ l.getD i 0 ∧ l.getD i 0 < 256 := by
  rw [List.getD_eq_getElem?_getD]
  cases e : l[i]? with
  | none => simp
  | some x => exact h x (List.mem_of_getElem? e)
theorem Bytes.set {l : List Int} (h : Bytes l) (i : Nat) (x : Int) (h0 : 0 ≤ x) (h1 : x < 256) : Bytes (l.set i x) := by
  intro y hy
  rcases List.mem_or_eq_of_mem_set hy with h' | h'
  · exact h y h'
  · omega
theorem bytes_ib (l : List B) : Bytes (ib l) := ib_b l
/-- Whole numbers, as bytes. -/
def unI (l : List Int) : List B := l.map (BitVec.ofInt 8)
theorem ib_unI {l : List Int} (h : Bytes l) : ib (unI l) = l := by
  obtain ⟨b, rfl⟩ := ib_of h
  unfold unI ib
  rw [List.map_map, List.map_map]
  exact List.map_congr_left fun x _ => by simp only [Function.comp]; rw [of8]
/-- A byte of doubled bytes, but for the last one's mark. -/
def dbB (b : List Int) (i : Nat) : Int := (b.getD i 0 * 2) % 256 + (if i < 15 then b.getD (i + 1) 0 / 128 else 0)
def dbL (b : List Int) : List Int := (List.range 16).map (dbB b)
theorem dbL_length (b : List Int) : (dbL b).length = 16 := by simp [dbL]
theorem dbL_get (b : List Int) (i : Nat) (h : i < 16) : (dbL b)[i]? = some (dbB b i) := by simp [dbL, h]
theorem dbL_getD (b : List Int) (i : Nat) (h : i < 16) : (dbL b).getD i 0 = dbB b i := by rw [List.getD_eq_getElem?_getD, dbL_get b i h]; rfl
def dbl (b : List Int) : List Int := if b.getD 0 0 / 128 = 1 then (dbL b).set 15 (Go.bits .xor .u8 (dbB b 15) 135) else dbL b
theorem dbl_length (b : List Int) : (dbl b).length = 16 := by
  unfold dbl; split
  · rw [List.length_set, dbL_length]
  · exact dbL_length b
theorem dbB_byte {b : List Int} (h : Bytes b) (i : Nat) : 0 ≤ dbB b i ∧ dbB b i < 256 := by
  unfold dbB
  have h1 := h.rd i
  have h2 := h.rd (i + 1)
  split <;> omega
theorem dbl_bytes {b : List Int} (h : Bytes b) : Bytes (dbl b) := by
  have h0 : Bytes (dbL b) := by
    intro x hx
    unfold dbL at hx
    obtain ⟨i, _, rfl⟩ := List.mem_map.1 hx
    exact dbB_byte h i
  unfold dbl; split
  · obtain ⟨c, hc⟩ := I8_of (dbB b 15) (dbB_byte h 15).1 (dbB_byte h 15).2
    rw [hc, show (135 : Int) = I8 135#8 from rfl, xor8]
    exact h0.set _ _ (I8_lo _) (I8_hi _)
  · exact h0
/-- Bytes, doubled. -/
def dblB (b : List B) : List B := unI (dbl (ib b))
theorem ib_dblB (b : List B) : ib (dblB b) = dbl (ib b) := ib_unI (dbl_bytes (bytes_ib b))
theorem dblB_length (b : List B) : (dblB b).length = 16 := by rw [← ib_length, ib_dblB, dbl_length]
/-- Put together, as far as both go. -/
def zipX (a b : List B) : List B := List.zipWith (· ^^^ ·) a b
theorem zipX_length (a b : List B) : (zipX a b).length = min a.length b.length := by simp [zipX]
theorem zipX_16 {a b : List B} (ha : a.length = 16) (hb : b.length = 16) : (zipX a b).length = 16 := by rw [zipX_length, ha, hb]; rfl
theorem zipX_ib (a b : List B) : List.zipWith (Go.bits .xor .u8) (ib a) (ib b) = ib (zipX a b) := by
  unfold zipX ib
  rw [List.zipWith_map, List.map_zipWith]
  congr 1
  funext x y
  exact xor8 x y
theorem zipX_assoc : ∀ a b c : List B, zipX (zipX a b) c = zipX a (zipX b c)
  | [], _, _ => by simp [zipX]
  | _ :: _, [], _ => by simp [zipX]
  | _ :: _, _ :: _, [] => by simp [zipX]
  | x :: a, y :: b, z :: c => by
    have := zipX_assoc a b c
    simp only [zipX, List.zipWith_cons_cons] at this ⊢
    rw [this, BitVec.xor_assoc]
def zB : List B := List.replicate 16 0#8
theorem zB_length : zB.length = 16 := rfl
/-- A part of a block, filled up. -/
def padB (l : List B) : List B := l ++ 128#8 :: List.replicate (15 - l.length) 0#8
theorem padB_length {l : List B} (h : l.length < 16) : (padB l).length = 16 := by unfold padB; simp; omega
/-- The last block, with its mask. -/
def lastX (a b l : List B) : List B := if l.length = 16 then zipX l a else zipX (padB l) b
theorem lastX_length {a b l : List B} (ha : a.length = 16) (hb : b.length = 16) (h : l.length ≤ 16) : (lastX a b l).length = 16 := by
  unfold lastX; split
  · exact zipX_16 (by assumption) ha
  · exact zipX_16 (padB_length (by omega)) hb
/-- From block to block: E enciphers, a and b are the masks. -/
def macB (E : List B → List B) (a b x m : List B) : List B :=
  if _h : 16 < m.length then macB E a b (E (zipX x (m.take 16))) (m.drop 16) else E (zipX x (lastX a b m))
termination_by m.length
decreasing_by simp; omega
theorem macB_step (E : List B → List B) (a b x m : List B) (h : 16 < m.length) : macB E a b x m = macB E a b (E (zipX x (m.take 16))) (m.drop 16) := by
  rw [macB, dif_pos h]
theorem macB_end (E : List B → List B) (a b x m : List B) (h : m.length ≤ 16) : macB E a b x m = E (zipX x (lastX a b m)) := by
  rw [macB, dif_neg (by omega)]
theorem macB_E (E : List B → List B) (a b x m : List B) (hE : ∀ y, (E y).length = 16) : (macB E a b x m).length = 16 := by
  induction h : m.length using Nat.strongRecOn generalizing x m with
  | ind n ih =>
    rcases Nat.lt_or_ge 16 m.length with h1 | h1
    · rw [macB_step _ _ _ _ _ h1]
      exact ih (m.drop 16).length (by rw [List.length_drop]; omega) _ _ rfl
    · rw [macB_end _ _ _ _ _ h1, hE]
/-- A tag: E of nothing but zeros, doubled, is the one mask, and doubled again the other. -/
def cmacB (E : List B → List B) (m : List B) : List B := macB E (dblB (E zB)) (dblB (dblB (E zB))) zB m
theorem cmacB_length (E : List B → List B) (m : List B) (hE : ∀ y, (E y).length = 16) : (cmacB E m).length = 16 := macB_E E _ _ _ _ hE
end Go.Proofs.Ytpdikfmdnlhllaa.Aes
namespace Go.Proofs.Ytpdikfmdnlhllaa.CmEval
open Go.RowKit Go.Proofs.Ytpdikfmdnlhllaa.PNib Go.Proofs.YtpdikfmdnlhllaaW.PrintWords Go.Proofs.YtpdikfmdnlhllaaW.PrintLast Go.Proofs.YtpdikfmdnlhllaaW.PrintMore Byte Octet Aes
abbrev ib := @AesMath.ib
abbrev B := AesMath.B
theorem Bytes.rdw {l : List Int} (h : Bytes l) (i : Int) : 0 ≤ rd l i ∧ rd l i < 256 := by
  unfold Go.Proofs.YtpdikfmdnlhllaaW.PrintWords.rd
  exact h.rd i.toNat
theorem RXor_l0 (a b : List Int) (ha : a.length ≤ 140737488351232) : ∀ (d k i : Nat), i + d = min a.length b.length → d < k → visorref01_Xor.l0 k a b (xorL (a.take i) (b.take i)) (i : Int) = some (xorL a b) := by
  intro d
  induction d with
  | zero =>
    intro k i hi hk
    obtain ⟨k, rfl⟩ : ∃ m, k = m + 1 := ⟨k - 1, by omega⟩
    simp only [visorref01_Xor.l0]
    have e : xorL (a.take i) (b.take i) = xorL a b := by
      unfold xorL; rw [← List.take_zipWith, List.take_of_length_le (by simp; omega)]
    rw [e]
    by_cases c : (i : Int) < a.length
    · rw [if_pos c, if_neg (by omega)]
    · rw [if_neg c]
  | succ d ih =>
    intro k i hi hk
    obtain ⟨k, rfl⟩ : ∃ m, k = m + 1 := ⟨k - 1, by omega⟩
    simp only [visorref01_Xor.l0]
    have hl : (xorL (a.take i) (b.take i)).length < 140737488355328 := by unfold xorL; simp; omega
    rw [if_pos (by omega), if_pos (by omega), if_pos (by omega), if_pos hl, show wrap64 ((i : Int) + 1) = ((i + 1 : Nat) : Int) by unfold wrap64; omega, ← ih k (i + 1) (by omega) (by omega)]
    congr 1
    have h1 : i < a.length := by omega
    have h2 : i < b.length := by omega
    unfold rd xorL
    rw [Int.toNat_natCast, List.take_succ_eq_append_getElem h1, List.take_succ_eq_append_getElem h2, List.zipWith_append (by simp; omega)]
    simp [List.getD_eq_getElem?_getD, List.getElem?_eq_getElem h1, List.getElem?_eq_getElem h2]
theorem RXor_eq (a b : List Int) (ha : a.length ≤ 140737488351232) (k : Nat) (hk : a.length + 1 ≤ k) : visorref01_Xor.f k a b = some (xorL a b) := by
  unfold visorref01_Xor.f
  have := RXor_l0 a b ha (min a.length b.length) k 0 (by omega) (by omega)
  simpa [xorL] using this
theorem or_low (x y : Int) (hx0 : 0 ≤ x) (hx : x % 2 = 0) (hx1 : x < 256) (hy0 : 0 ≤ y) (hy : y < 2) : Go.bits .or .u8 x y = x + y := bits_join .u8 8 (by decide) wraps_u8 1 x y hx0 hx hx1 hy0 hy (by omega)
theorem Double_l0 (b : List Int) (hb : Bytes b) (hl : b.length = 16) : ∀ (d k : Nat), d ≤ 16 → d < k → octet_Double.l0 k b (List.replicate d 0 ++ (dbL b).drop d) (if d < 16 then b.getD d 0 / 128 else 0) ((d : Int) - 1) = some (dbl b) := by
  intro d
  induction d with
  | zero =>
    intro k hd hk
    obtain ⟨k, rfl⟩ : ∃ m, k = m + 1 := ⟨k - 1, by omega⟩
    simp only [octet_Double.l0]
    rw [if_neg (by omega), if_pos (show (0 : Nat) < 16 by decide)]
    unfold dbl
    have hr : rd (dbL b) 15 = dbB b 15 := by unfold rd; exact dbL_getD b 15 (by decide)
    simp only [List.replicate_zero, List.nil_append, List.drop_zero, dbL_length]
    by_cases c : b.getD 0 0 / 128 = 1
    · rw [if_pos c, if_pos c, if_pos (by decide), hr]; rfl
    · rw [if_neg c, if_neg c]
  | succ d ih =>
    intro k hd hk
    obtain ⟨k, rfl⟩ : ∃ m, k = m + 1 := ⟨k - 1, by omega⟩
    simp only [octet_Double.l0]
    have e1 : ((d + 1 : Nat) : Int) - 1 = (d : Int) := by omega
    have er : rd b (d : Int) = b.getD d 0 := by unfold rd; rw [Int.toNat_natCast]
    have hr := Bytes.rdw hb (d : Int)
    have hlen : (List.replicate (d + 1) (0 : Int) ++ (dbL b).drop (d + 1)).length = 16 := by simp [dbL_length]; omega
    rw [e1, if_pos (by omega), if_pos (by omega), if_pos (by omega), if_pos (by rw [hlen]; omega), Int.toNat_natCast, show wrap64 ((d : Int) - 1) = (d : Int) - 1 by unfold wrap64; omega]
    rw [er] at hr ⊢
    have hc : 0 ≤ (if d + 1 < 16 then b.getD (d + 1) 0 / 128 else 0) ∧ (if d + 1 < 16 then b.getD (d + 1) 0 / 128 else (0 : Int)) < 2 := by
      have h2 := Bytes.rdw hb ((d + 1 : Nat) : Int)
      have er2 : rd b ((d + 1 : Nat) : Int) = b.getD (d + 1) 0 := by unfold rd; rw [Int.toNat_natCast]
      rw [er2] at h2
      split <;> omega
    have es : (List.replicate (d + 1) (0 : Int) ++ (dbL b).drop (d + 1)).set d (dbB b d) = List.replicate d 0 ++ (dbL b).drop d := by
      rw [List.replicate_succ', List.append_assoc, List.set_append_right _ _ (by simp)]
      simp only [List.length_replicate, Nat.sub_self, List.singleton_append, List.set_cons_zero]
      have hlt : d < (dbL b).length := by rw [dbL_length]; omega
      rw [List.drop_eq_getElem_cons hlt]
      have := dbL_get b d (by omega)
      rw [List.getElem?_eq_getElem hlt] at this
      rw [Option.some.inj this]
    have ev : Go.bits .or .u8 (b.getD d 0 * 2 % 256) (if d + 1 < 16 then b.getD (d + 1) 0 / 128 else 0) = dbB b d := by
      rw [or_low _ _ (by omega) (by omega) (by omega) hc.1 hc.2]
      unfold dbB
      congr 1
      by_cases c : d < 15
      · rw [if_pos c, if_pos (by omega)]
      · rw [if_neg c, if_neg (by omega)]
    rw [ev, es]
    have := ih k (by omega) (by omega)
    rw [if_pos (show d < 16 by omega)] at this
    exact this
theorem Double_eq (b : List Int) (hb : Bytes b) (k : Nat) (hk : 17 ≤ k) : octet_Double.f k b = some (if b.length = 16 then dbl b else []) := by
  unfold octet_Double.f
  by_cases c : b.length = 16
  · rw [if_pos (by omega), if_pos c, if_pos (by decide)]
    have := Double_l0 b hb c 16 k (by decide) (by omega)
    rw [if_neg (by decide), List.drop_eq_nil_of_le (by rw [dbL_length]; decide), List.append_nil] at this
    exact this
  · rw [if_neg (by omega), if_neg c]
theorem RDouble_l0 (b : List Int) (hb : Bytes b) (hl : b.length = 16) : ∀ (d k i : Nat), i + d = 16 → d < k → visorref01_Double.l0 k b ((dbL b).take i) (i : Int) = some (dbl b) := by
  intro d
  induction d with
  | zero =>
    intro k i hi hk
    obtain ⟨k, rfl⟩ : ∃ m, k = m + 1 := ⟨k - 1, by omega⟩
    simp only [visorref01_Double.l0]
    rw [if_neg (by omega), List.take_of_length_le (by rw [dbL_length]; omega)]
    have e0 : rd b 0 = b.getD 0 0 := rfl
    have hr := Bytes.rdw hb 0
    have h15 : rd (dbL b) 15 = dbB b 15 := by unfold rd; exact dbL_getD b 15 (by decide)
    rw [e0] at hr ⊢
    rw [if_pos (by omega), h15, dbL_length]
    unfold dbl
    by_cases c : b.getD 0 0 ≥ 128
    · rw [if_pos c, if_pos (show b.getD 0 0 / 128 = 1 by omega), if_pos (show (15 : Int) < ((16 : Nat) : Int) by decide)]; rfl
    · rw [if_neg c, if_neg (by omega)]
  | succ d ih =>
    intro k i hi hk
    obtain ⟨k, rfl⟩ : ∃ m, k = m + 1 := ⟨k - 1, by omega⟩
    simp only [visorref01_Double.l0]
    have er : rd b (i : Int) = b.getD i 0 := by unfold rd; rw [Int.toNat_natCast]
    have er2 : rd b ((i + 1 : Nat) : Int) = b.getD (i + 1) 0 := by unfold rd; rw [Int.toNat_natCast]
    have hr := Bytes.rdw hb (i : Int)
    have hr2 := Bytes.rdw hb ((i + 1 : Nat) : Int)
    have ei : wrap64 ((i : Int) + 1) = ((i + 1 : Nat) : Int) := by unfold wrap64; omega
    have hll : ((dbL b).take i).length < 140737488355328 := by simp [dbL_length]; omega
    have et : (dbL b).take (i + 1) = (dbL b).take i ++ [dbB b i] := by
      rw [List.take_add_one, dbL_get b i (by omega)]; rfl
    rw [er] at hr
    rw [er2] at hr2
    rw [if_pos (by omega), ei, er, er2]
    have w1 : wrap64 (b.getD i 0) = b.getD i 0 := by unfold wrap64; omega
    have w2 : wrap64 (b.getD (i + 1) 0) = b.getD (i + 1) 0 := by unfold wrap64; omega
    rw [w1, w2, Int.tmod_eq_emod_of_nonneg hr.1, Int.tdiv_eq_ediv_of_nonneg hr2.1]
    have key := ih k (i + 1) (by omega) (by omega)
    rw [et] at key
    by_cases c : i < 15
    · rw [if_pos (by omega), if_pos (by omega), if_pos (by omega), if_pos (by omega), if_pos (by omega), if_pos hll]
      have ev : wrap64 (wrap64 (b.getD i 0 % 128 * 2) + wrap64 (b.getD (i + 1) 0 / 128)) % 256 = dbB b i := by
        unfold dbB wrap64; rw [if_pos c]; omega
      rw [ev]; exact key
    · rw [if_neg (by omega), if_pos (by omega), if_pos (by omega), if_pos hll]
      have ev : wrap64 (wrap64 (b.getD i 0 % 128 * 2)) % 256 = dbB b i := by
        unfold dbB wrap64; rw [if_neg c]; omega
      rw [ev]; exact key
theorem RDouble_eq (b : List Int) (hb : Bytes b) (k : Nat) (hk : 17 ≤ k) : visorref01_Double.f k b = some (if b.length = 16 then dbl b else []) := by
  unfold visorref01_Double.f
  by_cases c : b.length = 16
  · rw [if_pos (by omega), if_pos c]
    have := RDouble_l0 b hb c 16 k 0 rfl (by omega)
    simpa using this
  · rw [if_neg (by omega), if_neg c]
theorem str_eq (a b : List Int) (ha : Bytes a) (hb : Bytes b) : ((strOfNums a).toList = (strOfNums b).toList) ↔ a = b := by
  constructor
  · intro h
    rw [Go.Lib.strOfNums_toList, Go.Lib.strOfNums_toList] at h
    unfold Go.Lib.bytesOf at h
    have hlen : a.length = b.length := by have := congrArg List.length h; simpa using this
    refine List.ext_getElem hlen fun i h1 h2 => ?_
    have := congrArg (fun l => l[i]?) h
    simp only [List.getElem?_map, List.getElem?_eq_getElem h1, List.getElem?_eq_getElem h2, Option.map_some, Option.some.injEq] at this
    have h3 := congrArg UInt8.toNat this
    have ka := ha _ (List.getElem_mem h1)
    have kb := hb _ (List.getElem_mem h2)
    simp only [UInt8.toNat_ofNat'] at h3
    omega
  · rintro rfl; rfl
theorem str_beq (a b : List B) : ((strOfNums (ib a)).toList == (strOfNums (ib b)).toList) = decide (a = b) := by
  by_cases h : a = b
  · subst h; simp
  · rw [decide_eq_false h, beq_eq_false_iff_ne]
    intro h2
    exact h (AesMath.ib_inj ((str_eq _ _ (bytes_ib a) (bytes_ib b)).1 h2))
theorem RSame_eq (a b : List B) : visorref01_Same.f (ib a) (ib b) = some (decide (a = b)) := by
  unfold visorref01_Same.f; rw [str_beq]
theorem Same_eq (a b : List B) : octet_Same.f (ib a) (ib b) = some (decide (a = b)) := by
  unfold octet_Same.f; rw [str_beq]
/-- Does the one begin with the other, that is not nothing? -/
def begins (l s : List B) : Bool := decide (1 ≤ s.length ∧ s.length ≤ l.length ∧ l.take s.length = s)
theorem Begins_eq (l s : List B) : visorref11_Begins.f (ib l) (ib s) = some (begins l s) := by
  unfold visorref11_Begins.f begins
  rw [show (ib l).length = l.length from AesMath.ib_length l, show (ib s).length = s.length from AesMath.ib_length s]
  by_cases h1 : s.length < 1
  · rw [if_pos (by omega), decide_eq_false (by omega)]
  · rw [if_neg (by omega)]
    by_cases h2 : l.length < s.length
    · rw [if_pos (by omega), decide_eq_false (by omega)]
    · rw [if_neg (by omega), if_pos (by omega), if_pos (by omega), Int.toNat_natCast, show (ib l).take s.length = ib (l.take s.length) from (AesMath.ib_take l _).symm, RSame_eq]
      simp only [Option.bind_some]
      congr 1
      by_cases h3 : l.take s.length = s
      · rw [decide_eq_true h3, decide_eq_true ⟨by omega, by omega, h3⟩]
      · rw [decide_eq_false h3, decide_eq_false (fun h => h3 h.2.2)]
end Go.Proofs.Ytpdikfmdnlhllaa.CmEval
namespace Go.Proofs.Ytpdikfmdnlhllaa.AesMath
open Mat GfMath
set_option maxRecDepth 100000
theorem subB_funC : (subB : B → B) = subR := funext subB_R
def cmK : List B := [43#8, 126#8, 21#8, 22#8, 40#8, 174#8, 210#8, 166#8, 171#8, 247#8, 21#8, 136#8, 9#8, 207#8, 79#8, 60#8]
def cmKW : List (List B) := [[43#8, 126#8, 21#8, 22#8], [40#8, 174#8, 210#8, 166#8], [171#8, 247#8, 21#8, 136#8], [9#8, 207#8, 79#8, 60#8], [160#8, 250#8, 254#8, 23#8], [136#8, 84#8, 44#8, 177#8], [35#8, 163#8, 57#8, 57#8], [42#8, 108#8, 118#8, 5#8], [242#8, 194#8, 149#8, 242#8], [122#8, 150#8, 185#8, 67#8], [89#8, 53#8, 128#8, 122#8], [115#8, 89#8, 246#8, 127#8], [61#8, 128#8, 71#8, 125#8], [71#8, 22#8, 254#8, 62#8], [30#8, 35#8, 126#8, 68#8], [109#8, 122#8, 136#8, 59#8], [239#8, 68#8, 165#8, 65#8], [168#8, 82#8, 91#8, 127#8], [182#8, 113#8, 37#8, 59#8], [219#8, 11#8, 173#8, 0#8], [212#8, 209#8, 198#8, 248#8], [124#8, 131#8, 157#8, 135#8], [202#8, 242#8, 184#8, 188#8], [17#8, 249#8, 21#8, 188#8], [109#8, 136#8, 163#8, 122#8], [17#8, 11#8, 62#8, 253#8], [219#8, 249#8, 134#8, 65#8], [202#8, 0#8, 147#8, 253#8], [78#8, 84#8, 247#8, 14#8], [95#8, 95#8, 201#8, 243#8], [132#8, 166#8, 79#8, 178#8], [78#8, 166#8, 220#8, 79#8], [234#8, 210#8, 115#8, 33#8], [181#8, 141#8, 186#8, 210#8], [49#8, 43#8, 245#8, 96#8], [127#8, 141#8, 41#8, 47#8], [172#8, 119#8, 102#8, 243#8], [25#8, 250#8, 220#8, 33#8], [40#8, 209#8, 41#8, 65#8], [87#8, 92#8, 0#8, 110#8], [208#8, 20#8, 249#8, 168#8], [201#8, 238#8, 37#8, 137#8], [225#8, 63#8, 12#8, 200#8], [182#8, 99#8, 12#8, 166#8]]
theorem cmK_w0 : wordsTo cmK 4 0 = cmKW.take 4 := by decide +kernel
theorem cmK_w1 : wordsTo cmK 4 1 = cmKW.take 5 := by rw [wordsTo, cmK_w0]; unfold wordB madeB; rw [subB_funC]; decide +kernel
theorem cmK_w2 : wordsTo cmK 4 2 = cmKW.take 6 := by rw [wordsTo, cmK_w1]; unfold wordB madeB; rw [subB_funC]; decide +kernel
theorem cmK_w3 : wordsTo cmK 4 3 = cmKW.take 7 := by rw [wordsTo, cmK_w2]; unfold wordB madeB; rw [subB_funC]; decide +kernel
theorem cmK_w4 : wordsTo cmK 4 4 = cmKW.take 8 := by rw [wordsTo, cmK_w3]; unfold wordB madeB; rw [subB_funC]; decide +kernel
theorem cmK_w5 : wordsTo cmK 4 5 = cmKW.take 9 := by rw [wordsTo, cmK_w4]; unfold wordB madeB; rw [subB_funC]; decide +kernel
theorem cmK_w6 : wordsTo cmK 4 6 = cmKW.take 10 := by rw [wordsTo, cmK_w5]; unfold wordB madeB; rw [subB_funC]; decide +kernel
theorem cmK_w7 : wordsTo cmK 4 7 = cmKW.take 11 := by rw [wordsTo, cmK_w6]; unfold wordB madeB; rw [subB_funC]; decide +kernel
theorem cmK_w8 : wordsTo cmK 4 8 = cmKW.take 12 := by rw [wordsTo, cmK_w7]; unfold wordB madeB; rw [subB_funC]; decide +kernel
theorem cmK_w9 : wordsTo cmK 4 9 = cmKW.take 13 := by rw [wordsTo, cmK_w8]; unfold wordB madeB; rw [subB_funC]; decide +kernel
theorem cmK_w10 : wordsTo cmK 4 10 = cmKW.take 14 := by rw [wordsTo, cmK_w9]; unfold wordB madeB; rw [subB_funC]; decide +kernel
theorem cmK_w11 : wordsTo cmK 4 11 = cmKW.take 15 := by rw [wordsTo, cmK_w10]; unfold wordB madeB; rw [subB_funC]; decide +kernel
theorem cmK_w12 : wordsTo cmK 4 12 = cmKW.take 16 := by rw [wordsTo, cmK_w11]; unfold wordB madeB; rw [subB_funC]; decide +kernel
theorem cmK_w13 : wordsTo cmK 4 13 = cmKW.take 17 := by rw [wordsTo, cmK_w12]; unfold wordB madeB; rw [subB_funC]; decide +kernel
theorem cmK_w14 : wordsTo cmK 4 14 = cmKW.take 18 := by rw [wordsTo, cmK_w13]; unfold wordB madeB; rw [subB_funC]; decide +kernel
theorem cmK_w15 : wordsTo cmK 4 15 = cmKW.take 19 := by rw [wordsTo, cmK_w14]; unfold wordB madeB; rw [subB_funC]; decide +kernel
theorem cmK_w16 : wordsTo cmK 4 16 = cmKW.take 20 := by rw [wordsTo, cmK_w15]; unfold wordB madeB; rw [subB_funC]; decide +kernel
theorem cmK_w17 : wordsTo cmK 4 17 = cmKW.take 21 := by rw [wordsTo, cmK_w16]; unfold wordB madeB; rw [subB_funC]; decide +kernel
theorem cmK_w18 : wordsTo cmK 4 18 = cmKW.take 22 := by rw [wordsTo, cmK_w17]; unfold wordB madeB; rw [subB_funC]; decide +kernel
theorem cmK_w19 : wordsTo cmK 4 19 = cmKW.take 23 := by rw [wordsTo, cmK_w18]; unfold wordB madeB; rw [subB_funC]; decide +kernel
theorem cmK_w20 : wordsTo cmK 4 20 = cmKW.take 24 := by rw [wordsTo, cmK_w19]; unfold wordB madeB; rw [subB_funC]; decide +kernel
theorem cmK_w21 : wordsTo cmK 4 21 = cmKW.take 25 := by rw [wordsTo, cmK_w20]; unfold wordB madeB; rw [subB_funC]; decide +kernel
theorem cmK_w22 : wordsTo cmK 4 22 = cmKW.take 26 := by rw [wordsTo, cmK_w21]; unfold wordB madeB; rw [subB_funC]; decide +kernel
theorem cmK_w23 : wordsTo cmK 4 23 = cmKW.take 27 := by rw [wordsTo, cmK_w22]; unfold wordB madeB; rw [subB_funC]; decide +kernel
theorem cmK_w24 : wordsTo cmK 4 24 = cmKW.take 28 := by rw [wordsTo, cmK_w23]; unfold wordB madeB; rw [subB_funC]; decide +kernel
theorem cmK_w25 : wordsTo cmK 4 25 = cmKW.take 29 := by rw [wordsTo, cmK_w24]; unfold wordB madeB; rw [subB_funC]; decide +kernel
theorem cmK_w26 : wordsTo cmK 4 26 = cmKW.take 30 := by rw [wordsTo, cmK_w25]; unfold wordB madeB; rw [subB_funC]; decide +kernel
theorem cmK_w27 : wordsTo cmK 4 27 = cmKW.take 31 := by rw [wordsTo, cmK_w26]; unfold wordB madeB; rw [subB_funC]; decide +kernel
theorem cmK_w28 : wordsTo cmK 4 28 = cmKW.take 32 := by rw [wordsTo, cmK_w27]; unfold wordB madeB; rw [subB_funC]; decide +kernel
theorem cmK_w29 : wordsTo cmK 4 29 = cmKW.take 33 := by rw [wordsTo, cmK_w28]; unfold wordB madeB; rw [subB_funC]; decide +kernel
theorem cmK_w30 : wordsTo cmK 4 30 = cmKW.take 34 := by rw [wordsTo, cmK_w29]; unfold wordB madeB; rw [subB_funC]; decide +kernel
theorem cmK_w31 : wordsTo cmK 4 31 = cmKW.take 35 := by rw [wordsTo, cmK_w30]; unfold wordB madeB; rw [subB_funC]; decide +kernel
theorem cmK_w32 : wordsTo cmK 4 32 = cmKW.take 36 := by rw [wordsTo, cmK_w31]; unfold wordB madeB; rw [subB_funC]; decide +kernel
theorem cmK_w33 : wordsTo cmK 4 33 = cmKW.take 37 := by rw [wordsTo, cmK_w32]; unfold wordB madeB; rw [subB_funC]; decide +kernel
theorem cmK_w34 : wordsTo cmK 4 34 = cmKW.take 38 := by rw [wordsTo, cmK_w33]; unfold wordB madeB; rw [subB_funC]; decide +kernel
theorem cmK_w35 : wordsTo cmK 4 35 = cmKW.take 39 := by rw [wordsTo, cmK_w34]; unfold wordB madeB; rw [subB_funC]; decide +kernel
theorem cmK_w36 : wordsTo cmK 4 36 = cmKW.take 40 := by rw [wordsTo, cmK_w35]; unfold wordB madeB; rw [subB_funC]; decide +kernel
theorem cmK_w37 : wordsTo cmK 4 37 = cmKW.take 41 := by rw [wordsTo, cmK_w36]; unfold wordB madeB; rw [subB_funC]; decide +kernel
theorem cmK_w38 : wordsTo cmK 4 38 = cmKW.take 42 := by rw [wordsTo, cmK_w37]; unfold wordB madeB; rw [subB_funC]; decide +kernel
theorem cmK_w39 : wordsTo cmK 4 39 = cmKW.take 43 := by rw [wordsTo, cmK_w38]; unfold wordB madeB; rw [subB_funC]; decide +kernel
theorem cmK_w40 : wordsTo cmK 4 40 = cmKW.take 44 := by rw [wordsTo, cmK_w39]; unfold wordB madeB; rw [subB_funC]; decide +kernel
theorem cmK_keys : roundKeys cmK = [[43#8, 126#8, 21#8, 22#8, 40#8, 174#8, 210#8, 166#8, 171#8, 247#8, 21#8, 136#8, 9#8, 207#8, 79#8, 60#8], [160#8, 250#8, 254#8, 23#8, 136#8, 84#8, 44#8, 177#8, 35#8, 163#8, 57#8, 57#8, 42#8, 108#8, 118#8, 5#8], [242#8, 194#8, 149#8, 242#8, 122#8, 150#8, 185#8, 67#8, 89#8, 53#8, 128#8, 122#8, 115#8, 89#8, 246#8, 127#8], [61#8, 128#8, 71#8, 125#8, 71#8, 22#8, 254#8, 62#8, 30#8, 35#8, 126#8, 68#8, 109#8, 122#8, 136#8, 59#8], [239#8, 68#8, 165#8, 65#8, 168#8, 82#8, 91#8, 127#8, 182#8, 113#8, 37#8, 59#8, 219#8, 11#8, 173#8, 0#8], [212#8, 209#8, 198#8, 248#8, 124#8, 131#8, 157#8, 135#8, 202#8, 242#8, 184#8, 188#8, 17#8, 249#8, 21#8, 188#8], [109#8, 136#8, 163#8, 122#8, 17#8, 11#8, 62#8, 253#8, 219#8, 249#8, 134#8, 65#8, 202#8, 0#8, 147#8, 253#8], [78#8, 84#8, 247#8, 14#8, 95#8, 95#8, 201#8, 243#8, 132#8, 166#8, 79#8, 178#8, 78#8, 166#8, 220#8, 79#8], [234#8, 210#8, 115#8, 33#8, 181#8, 141#8, 186#8, 210#8, 49#8, 43#8, 245#8, 96#8, 127#8, 141#8, 41#8, 47#8], [172#8, 119#8, 102#8, 243#8, 25#8, 250#8, 220#8, 33#8, 40#8, 209#8, 41#8, 65#8, 87#8, 92#8, 0#8, 110#8], [208#8, 20#8, 249#8, 168#8, 201#8, 238#8, 37#8, 137#8, 225#8, 63#8, 12#8, 200#8, 182#8, 99#8, 12#8, 166#8]] := by
  unfold roundKeys allB; rw [show cmK.length / 4 = 4 from rfl, show 4 * (roundsN cmK.length + 1) - 4 = 40 from by decide +kernel, cmK_w40]; decide +kernel
def cmKs : List (List B) := [[43#8, 126#8, 21#8, 22#8, 40#8, 174#8, 210#8, 166#8, 171#8, 247#8, 21#8, 136#8, 9#8, 207#8, 79#8, 60#8], [160#8, 250#8, 254#8, 23#8, 136#8, 84#8, 44#8, 177#8, 35#8, 163#8, 57#8, 57#8, 42#8, 108#8, 118#8, 5#8], [242#8, 194#8, 149#8, 242#8, 122#8, 150#8, 185#8, 67#8, 89#8, 53#8, 128#8, 122#8, 115#8, 89#8, 246#8, 127#8], [61#8, 128#8, 71#8, 125#8, 71#8, 22#8, 254#8, 62#8, 30#8, 35#8, 126#8, 68#8, 109#8, 122#8, 136#8, 59#8], [239#8, 68#8, 165#8, 65#8, 168#8, 82#8, 91#8, 127#8, 182#8, 113#8, 37#8, 59#8, 219#8, 11#8, 173#8, 0#8], [212#8, 209#8, 198#8, 248#8, 124#8, 131#8, 157#8, 135#8, 202#8, 242#8, 184#8, 188#8, 17#8, 249#8, 21#8, 188#8], [109#8, 136#8, 163#8, 122#8, 17#8, 11#8, 62#8, 253#8, 219#8, 249#8, 134#8, 65#8, 202#8, 0#8, 147#8, 253#8], [78#8, 84#8, 247#8, 14#8, 95#8, 95#8, 201#8, 243#8, 132#8, 166#8, 79#8, 178#8, 78#8, 166#8, 220#8, 79#8], [234#8, 210#8, 115#8, 33#8, 181#8, 141#8, 186#8, 210#8, 49#8, 43#8, 245#8, 96#8, 127#8, 141#8, 41#8, 47#8], [172#8, 119#8, 102#8, 243#8, 25#8, 250#8, 220#8, 33#8, 40#8, 209#8, 41#8, 65#8, 87#8, 92#8, 0#8, 110#8], [208#8, 20#8, 249#8, 168#8, 201#8, 238#8, 37#8, 137#8, 225#8, 63#8, 12#8, 200#8, 182#8, 99#8, 12#8, 166#8]]
def cm0P : List B := [0#8, 0#8, 0#8, 0#8, 0#8, 0#8, 0#8, 0#8, 0#8, 0#8, 0#8, 0#8, 0#8, 0#8, 0#8, 0#8]
theorem cm0_0 : encTo cmKs cm0P 0 = [43#8, 126#8, 21#8, 22#8, 40#8, 174#8, 210#8, 166#8, 171#8, 247#8, 21#8, 136#8, 9#8, 207#8, 79#8, 60#8] := by decide +kernel
theorem cm0_1 : encTo cmKs cm0P 1 = [220#8, 216#8, 127#8, 111#8, 155#8, 96#8, 170#8, 143#8, 31#8, 1#8, 15#8, 4#8, 87#8, 144#8, 162#8, 211#8] := by rw [encTo, cm0_0, subB_funC]; decide +kernel
theorem cm0_2 : encTo cmKs cm0P 2 = [158#8, 3#8, 133#8, 9#8, 68#8, 156#8, 70#8, 114#8, 195#8, 43#8, 10#8, 117#8, 56#8, 221#8, 130#8, 160#8] := by rw [encTo, cm0_1, subB_funC]; decide +kernel
theorem cm0_3 : encTo cmKs cm0P 3 = [213#8, 101#8, 103#8, 2#8, 107#8, 192#8, 49#8, 243#8, 205#8, 118#8, 100#8, 224#8, 41#8, 248#8, 252#8, 50#8] := by rw [encTo, cm0_2, subB_funC]; decide +kernel
theorem cm0_4 : encTo cmKs cm0P 4 = [92#8, 206#8, 255#8, 251#8, 217#8, 225#8, 254#8, 152#8, 156#8, 215#8, 223#8, 57#8, 123#8, 135#8, 232#8, 167#8] := by rw [encTo, cm0_3, subB_funC]; decide +kernel
theorem cm0_5 : encTo cmKs cm0P 5 = [145#8, 149#8, 183#8, 248#8, 144#8, 19#8, 154#8, 83#8, 4#8, 126#8, 151#8, 72#8, 124#8, 17#8, 228#8, 203#8] := by rw [encTo, cm0_4, subB_funC]; decide +kernel
theorem cm0_6 : encTo cmKs cm0P 6 = [100#8, 111#8, 117#8, 41#8, 247#8, 108#8, 188#8, 69#8, 253#8, 25#8, 147#8, 166#8, 126#8, 197#8, 52#8, 251#8] := by rw [encTo, cm0_5, subB_funC]; decide +kernel
theorem cm0_7 : encTo cmKs cm0P 7 = [235#8, 199#8, 86#8, 89#8, 85#8, 9#8, 177#8, 214#8, 46#8, 119#8, 46#8, 169#8, 17#8, 149#8, 33#8, 196#8] := by rw [encTo, cm0_6, subB_funC]; decide +kernel
theorem cm0_8 : encTo cmKs cm0P 8 = [13#8, 118#8, 221#8, 9#8, 100#8, 87#8, 20#8, 72#8, 106#8, 112#8, 150#8, 95#8, 42#8, 8#8, 136#8, 1#8] := by rw [encTo, cm0_7, subB_funC]; decide +kernel
theorem cm0_9 : encTo cmKs cm0P 9 = [24#8, 193#8, 85#8, 162#8, 169#8, 77#8, 94#8, 115#8, 239#8, 185#8, 116#8, 18#8, 251#8, 19#8, 120#8, 29#8] := by rw [encTo, cm0_8, subB_funC]; decide +kernel
def cm0C : List B := [125#8, 247#8, 107#8, 12#8, 26#8, 184#8, 153#8, 179#8, 62#8, 66#8, 240#8, 71#8, 185#8, 27#8, 84#8, 111#8]
theorem cm0_known : encB (roundKeys cmK) 9 cm0P = cm0C := by
  rw [cmK_keys]; show encB cmKs 9 cm0P = _; rw [encB, cm0_9, subB_funC]; decide +kernel
def cm1P : List B := [119#8, 221#8, 172#8, 48#8, 106#8, 226#8, 102#8, 204#8, 249#8, 11#8, 193#8, 30#8, 228#8, 109#8, 81#8, 59#8]
theorem cm1_0 : encTo cmKs cm1P 0 = [92#8, 163#8, 185#8, 38#8, 66#8, 76#8, 180#8, 106#8, 82#8, 252#8, 212#8, 150#8, 237#8, 162#8, 30#8, 7#8] := by decide +kernel
theorem cm1_1 : encTo cmKs cm1P 1 = [194#8, 255#8, 89#8, 57#8, 158#8, 98#8, 86#8, 242#8, 57#8, 47#8, 169#8, 81#8, 131#8, 49#8, 131#8, 70#8] := by rw [encTo, cm1_0, subB_funC]; decide +kernel
theorem cm1_2 : encTo cmKs cm1P 2 = [212#8, 156#8, 73#8, 80#8, 173#8, 138#8, 82#8, 131#8, 109#8, 125#8, 88#8, 73#8, 234#8, 128#8, 29#8, 78#8] := by rw [encTo, cm1_1, subB_funC]; decide +kernel
theorem cm1_3 : encTo cmKs cm1P 3 = [106#8, 165#8, 212#8, 239#8, 155#8, 194#8, 50#8, 103#8, 253#8, 63#8, 214#8, 53#8, 58#8, 97#8, 156#8, 1#8] := by rw [encTo, cm1_2, subB_funC]; decide +kernel
theorem cm1_4 : encTo cmKs cm1P 4 = [14#8, 113#8, 241#8, 108#8, 30#8, 10#8, 231#8, 77#8, 249#8, 189#8, 154#8, 113#8, 127#8, 116#8, 204#8, 137#8] := by rw [encTo, cm1_3, subB_funC]; decide +kernel
theorem cm1_5 : encTo cmKs cm1P 5 = [47#8, 192#8, 147#8, 148#8, 13#8, 136#8, 243#8, 128#8, 12#8, 79#8, 212#8, 226#8, 103#8, 114#8, 169#8, 187#8] := by rw [encTo, cm1_4, subB_funC]; decide +kernel
theorem cm1_6 : encTo cmKs cm1P 6 = [178#8, 60#8, 199#8, 6#8, 194#8, 131#8, 182#8, 140#8, 237#8, 53#8, 215#8, 69#8, 155#8, 101#8, 5#8, 245#8] := by rw [encTo, cm1_5, subB_funC]; decide +kernel
theorem cm1_7 : encTo cmKs cm1P 7 = [231#8, 84#8, 1#8, 98#8, 176#8, 159#8, 29#8, 191#8, 91#8, 92#8, 108#8, 14#8, 96#8, 195#8, 13#8, 10#8] := by rw [encTo, cm1_6, subB_funC]; decide +kernel
theorem cm1_8 : encTo cmKs cm1P 8 = [152#8, 124#8, 53#8, 195#8, 195#8, 54#8, 71#8, 50#8, 69#8, 194#8, 2#8, 105#8, 171#8, 65#8, 108#8, 141#8] := by rw [encTo, cm1_7, subB_funC]; decide +kernel
theorem cm1_9 : encTo cmKs cm1P 9 = [5#8, 255#8, 44#8, 241#8, 84#8, 64#8, 5#8, 122#8, 223#8, 32#8, 150#8, 160#8, 250#8, 28#8, 57#8, 145#8] := by rw [encTo, cm1_8, subB_funC]; decide +kernel
def cm1C : List B := [187#8, 29#8, 105#8, 41#8, 233#8, 89#8, 55#8, 40#8, 127#8, 163#8, 125#8, 18#8, 155#8, 117#8, 103#8, 70#8]
theorem cm1_known : encB (roundKeys cmK) 9 cm1P = cm1C := by
  rw [cmK_keys]; show encB cmKs 9 cm1P = _; rw [encB, cm1_9, subB_funC]; decide +kernel
def cmD1 : List B := [251#8, 238#8, 214#8, 24#8, 53#8, 113#8, 51#8, 102#8, 124#8, 133#8, 224#8, 143#8, 114#8, 54#8, 168#8, 222#8]
def cmD2 : List B := [247#8, 221#8, 172#8, 48#8, 106#8, 226#8, 102#8, 204#8, 249#8, 11#8, 193#8, 30#8, 228#8, 109#8, 81#8, 59#8]
theorem cm_d1 : Aes.dblB cm0C = cmD1 := by decide +kernel
theorem cm_d2 : Aes.dblB cmD1 = cmD2 := by decide +kernel
theorem cm_mac : Aes.macB (encB (roundKeys cmK) 9) (Aes.dblB (encB (roundKeys cmK) 9 Aes.zB)) (Aes.dblB (Aes.dblB (encB (roundKeys cmK) 9 Aes.zB))) Aes.zB [] = cm1C := by
  rw [show Aes.zB = cm0P from rfl, cm0_known, cm_d1, cm_d2, Aes.macB_end _ _ _ _ _ (by decide), show Aes.zipX cm0P (Aes.lastX cmD1 cmD2 []) = cm1P by decide +kernel, cm1_known]
end Go.Proofs.Ytpdikfmdnlhllaa.AesMath
namespace Go.Proofs.Ytpdikfmdnlhllaa.Aes
open Go.RowKit Go.Proofs.Ytpdikfmdnlhllaa.PNib Go.Proofs.YtpdikfmdnlhllaaW.PrintWords Go.Proofs.YtpdikfmdnlhllaaW.PrintLast Go.Proofs.YtpdikfmdnlhllaaW.PrintMore Byte Sl Arr Mem Gives ArrEq Mat AesMath AesMov AesLin HandKit
set_option linter.unusedVariables false
set_option linter.unusedSimpArgs false
theorem row_range {w : World} {g n : Nat} {l : List Int} (h : Kd.C (Kd.int .u8) w (some ⟨g, 0, none⟩) n l) (hl : l.length = n) : w.rangeAt g 0 (l.map (Value.int .u8)) := by
  intro j v hv
  rw [List.getElem?_map] at hv
  obtain ⟨x, hx, rfl⟩ := Option.map_eq_some_iff.1 hv
  have hj : j < l.length := (List.getElem?_eq_some_iff.1 hx).1
  obtain ⟨ad, e, hc⟩ := Kd.at_int h (j : Int) (by omega) (by omega)
  obtain rfl := Option.some.inj e
  rw [Int.toNat_natCast] at hc
  have h2 : (⟨g, 0, none⟩ : Addr).add j = ⟨g, 0 + j, none⟩ := by rw [Nat.zero_add]; simp [Addr.add]; exact Eq.symm
  rw [h2] at hc
  rw [hc]
  show some (Value.int .u8 (l.getD (j : Int).toNat 0)) = _
  rw [Int.toNat_natCast, List.getD_eq_getElem?_getD, hx]
  rfl
set_option maxHeartbeats 4000000 in
set_option maxRecDepth 100000 in
theorem make1_c (b : List B) (hb : b.length = 16) (g bx : Nat) (ks : List (List B)) (n : Nat) (hks : ks.length = n + 2) (hk : ∀ r, r < n + 2 → (keyAt ks r).length = 16) (hn : n ≤ 100) (ga c : Nat) (w : World) (hC : Kd.C (Kd.int .u8) w (some ⟨ga, 0, none⟩) 16 (ib b)) (hX : Cph w g bx ks) : Calls Try.prog 80 #[.pointer (some ⟨g, 0, none⟩), .slice (some ⟨ga, 0, none⟩) 16 c] w fun e w' => ∃ N, e = .returned (.slice (some ⟨N, 0, none⟩) 16 16) ∧ w.heap.size ≤ N ∧ N ≠ bx ∧ Mem .u8 w' N 31 (ib (encB ks n b)) ∧ Cph w' g bx ks ∧ Ch bx w w' := by
  have CB := Aside0.mk (fun (W : World) (h : Cph W g bx ks) => block_c b hb g bx ks n hks hk hn W h)
  have HRA := Aside0.mk (row_range hC (by rw [ib_length, hb]))
  have LB := Aside0.mk (show (ib b).length = 16 by rw [ib_length, hb])
  have LE := Aside0.mk (show (ib (encB ks n b)).length = 16 by rw [ib_length]; exact encB_length _ _ _)
  have HX := Aside0.mk hX
  obtain ⟨eb, heb⟩ : ∃ z, z = encB ks n b := ⟨_, rfl⟩
  rw [← heb] at CB LE ⊢
  clear hks hk hn hC hX heb hb
  have hat := fun (W : World) => run_arrayAt (P := Try.prog) W 31 _ 16 (some ⟨ga, 0, none⟩) 16 c Try.underlying31 (Nat.le_refl _)
  go_enter Try.func80, Try.ntmps80
  go_wp2_with (first
    | ((with_reducible refine gate_dst (N := 9) rfl ?_); go_loud (refine wpList_load_mid rfl 31 (.tmp 8) rfl ga 0 rfl _ _ HRA.out Try.underlying31 rfl (by rw [List.length_map, LB.out]; exact info16) ?_))
    | (go_at_call 31; go_loud ((refine (CB.out _ HX.out).mono ?_); rintro e w1 ⟨rfl, hx1, hc1⟩; have HC := Aside0.mk hc1; have HX := Aside0.mk hx1.bound; have HXB1 := Aside0.mk (show bx < w1.heap.size from hx1.bound.2.2.2); have HW1 := Aside0.mk hc1.size; have Z4 := Aside0.mk (Mem.new .u8 w1 31 z16); clear hx1 hc1))
    | ((with_reducible refine gate_store (t := 31) (p := 5) rfl ?_); go_loud (refine Mem.store (l' := ib eb) Z4.out rfl 31 (.tmp 5) (.tmp 10) rfl rfl rfl (by rw [LE.out]; exact info16) (by rw [LE.out]; rfl) ?_)))
  have HX := Aside0.mk ((HX.out.below (below_alloc (Below.refl _ _) (.cells (cellsOf .u8 z16) 31))).row (b := w1.heap.size) (Nat.le_refl _) (cellsOf .u8 (ib eb)))
  have HC := Aside0.mk (Ch.row0 (Ch.step HC.out (below_alloc (Below.refl _ _) (.cells (cellsOf .u8 z16) 31))) (b := w1.heap.size) HW1.out (cellsOf .u8 (ib eb)))
  have M4 := Aside0.mk (Mem.put Z4.out (ib eb))
  have hne : w1.heap.size ≠ bx := by have := HXB1.out; omega
  go_ret
  exact ⟨w1.heap.size, rfl, HW1.out, hne, M4.out, HX.out.all, HC.out⟩
end Go.Proofs.Ytpdikfmdnlhllaa.Aes
namespace Go.Proofs.Ytpdikfmdnlhllaa.Aes
open Go.RowKit Go.Proofs.Ytpdikfmdnlhllaa.PNib Go.Proofs.YtpdikfmdnlhllaaW.PrintWords Go.Proofs.YtpdikfmdnlhllaaW.PrintLast Go.Proofs.YtpdikfmdnlhllaaW.PrintMore Byte Sl Arr Mem Gives ArrEq Mat AesMath AesMov AesLin HandKit
set_option linter.unusedVariables false
set_option linter.unusedSimpArgs false
theorem mem_row16 {w : World} {g : Nat} {t : TypeId} {l : List Int} (h : Mem .u8 w g t l) (hl : l.length = 16) : Kd.C (Kd.int .u8) w (some ⟨g, 0, none⟩) 16 l := by
  have hs : Sl .u8 w (.slice (some ⟨g, 0, none⟩) l.length 16) l := Sl.of_cells (k := .u8) (w := w) (ad := ⟨g, 0, none⟩) (c := 16) (l := l) (by omega) (by omega) (fun j y hj => by
    have hj' := (List.getElem?_eq_some_iff.1 hj).1
    rw [show (⟨g, 0, none⟩ : Addr).add j = ⟨g, j, none⟩ by simp [Addr.add]; intro h; exact h.symm]
    rw [h.cell j hj', List.getD_eq_getElem?_getD, hj]; rfl)
  obtain ⟨A, c, hv, hc, hC⟩ := hs
  injection hv with e1 e2 e3
  subst e1
  rw [hl] at hC
  exact hC
theorem ib_zB : ib zB = z16 := by decide
set_option maxHeartbeats 4000000 in
set_option maxRecDepth 100000 in
theorem masks_c (g bx : Nat) (ks : List (List B)) (n : Nat) (hks : ks.length = n + 2) (hk : ∀ r, r < n + 2 → (keyAt ks r).length = 16) (hn : n ≤ 100) (k : Nat) (d1 d2 : List Int) (h1 : octet_Double.f k (ib (encB ks n zB)) = some d1) (h2 : octet_Double.f k d1 = some d2) (hl1 : d1.length = 16) (w : World) (hX : Cph w g bx ks) : Calls Try.prog 38 #[.pointer (some ⟨g, 0, none⟩)] w fun e w' => ∃ v1 v2, e = .returned (.tuple #[v1, v2]) ∧ Kd.R (Kd.int .u8) 5 w' w.heap.size (fun _ => True) v1 d1 ∧ Kd.R (Kd.int .u8) 5 w' w.heap.size (fun _ => True) v2 d2 ∧ Cph w' g bx ks ∧ Ch bx w w' := by
  have CM := Aside0.mk (fun (ga c : Nat) (W : World) (h : Kd.C (Kd.int .u8) W (some ⟨ga, 0, none⟩) 16 (ib zB)) (hX : Cph W g bx ks) => make1_c zB rfl g bx ks n hks hk hn ga c W h hX)
  obtain ⟨e0, he0⟩ : ∃ z, z = encB ks n zB := ⟨_, rfl⟩
  have l0 : (ib e0).length = 16 := by rw [ib_length, he0]; exact encB_length _ _ _
  rw [← he0] at CM h1
  have CD1 := Aside0.mk (fun (A : Option Addr) (W : World) (h : Kd.C (Kd.int .u8) W A 16 (ib e0)) => by have := octet_Double.calls k A 16 (ib e0) d1 W (by rw [l0]; exact h) (by rw [l0]; exact Nat.le_refl _) h1; rwa [l0] at this)
  have CD2 := Aside0.mk (fun (A : Option Addr) (c : Nat) (W : World) (h : Kd.C (Kd.int .u8) W A 16 d1) (hc : 16 ≤ c) => by have := octet_Double.calls k A c d1 d2 W (by rw [hl1]; exact h) (by rw [hl1]; exact hc) h2; rwa [hl1] at this)
  have L0 := Aside0.mk l0
  have L1 := Aside0.mk hl1
  have HX := Aside0.mk hX
  have HXB := Aside0.mk (show bx < w.heap.size from hX.bound.2.2.2)
  have M0 := Aside0.mk (Mem.new .u8 w 5 z16)
  have HX := Aside0.mk (hX.bound.below (below_alloc (Below.refl _ _) (.cells (cellsOf .u8 z16) 5))).all
  have HC := Aside0.mk (Ch.of_below (g := bx) (below_alloc (Below.refl w.heap.size w) (.cells (cellsOf .u8 z16) 5)))
  have C0 := Aside0.mk (show Kd.C (Kd.int .u8) _ (some ⟨w.heap.size, 0, none⟩) 16 (ib zB) by rw [ib_zB]; exact mem_row16 M0.out rfl)
  have hmk : ∀ W : World, (Instr.makeSlice 22 (.int .i64 16) (.int .i64 16)).run Try.prog W = .ok (.slice (some ⟨W.heap.size, 0, none⟩) 16 16) (W.alloc (.cells (cellsOf .u8 z16) 5)) := fun W => by
    have h := print_make (P := Try.prog) 22 5 .u8 1 Try.underlying22 info_u8 (by decide) 16 (by decide) W
    rw [show madeCells #[Value.int .u8 0] 16 = cellsOf .u8 z16 by kernel_rfl] at h
    exact h
  clear hks hk hn hX h1 h2 he0 l0 hl1
  go_enter Try.func38, Try.ntmps38
  go_wp2_with (first
    | (go_at_call 80; go_loud ((refine (CM.out _ _ _ C0.out HX.out).mono ?_); rintro e w1 ⟨N, rfl, hN, hne, hM, hx, hc⟩; have M1 := Aside0.mk hM; have HX := Aside0.mk hx; have HC := Aside0.mk (HC.out.trans hc); clear hM hx hc))
    | (go_at_call 79; go_loud (first | ((refine (CD1.out _ _ (mem_row16 M1.out L0.out)).mono ?_); rintro e w2 ⟨v1, rfl, hv, hb⟩; have HR1 := Aside0.mk (Kd.R_lower hv HC.out.size); have HX := Aside0.mk (HX.out.bound.below hb).all; have HC := Aside0.mk (Ch.step HC.out hb); obtain ⟨A1, c1, rfl, hl, hR⟩ := Kd.R_reads hv; have HC1 := Aside0.mk hR; have HL1 := Aside0.mk hl; rw [L1.out] at HR1 HC1 HL1 ⊢; clear hv hb hl hR M1) | ((refine (CD2.out _ _ _ HC1.out HL1.out).mono ?_); rintro e w3 ⟨v2, rfl, hv, hb⟩; have HR2 := Aside0.mk (Kd.R_lower hv HC.out.size); have HR1 := Aside0.mk (Kd.R_below HR1.out hb); have HX := Aside0.mk (HX.out.bound.below hb).all; have HC := Aside0.mk (Ch.step HC.out hb); clear hv hb))))
  go_ret2
  exact ⟨_, _, rfl, HR1.out, HR2.out, HX.out, HC.out⟩
end Go.Proofs.Ytpdikfmdnlhllaa.Aes
namespace Go.Proofs.Ytpdikfmdnlhllaa.Aes
open Go.RowKit Go.Proofs.Ytpdikfmdnlhllaa.PNib Go.Proofs.YtpdikfmdnlhllaaW.PrintWords Go.Proofs.YtpdikfmdnlhllaaW.PrintLast Go.Proofs.YtpdikfmdnlhllaaW.PrintMore Byte Sl Arr Mem Gives ArrEq Mat AesMath AesMov AesLin HandKit
set_option linter.unusedVariables false
set_option linter.unusedSimpArgs false
/-- A row that a cipher at its work does not touch. -/
abbrev Off (w : World) (bx : Nat) (A : Option Addr) (l : List Int) : Prop := Kd.F (Kd.int .u8) w (fun k => k ≠ bx) A l.length l
theorem Off.ch {w w' : World} {bx : Nat} {A : Option Addr} {l : List Int} (h : Off w bx A l) (hc : Ch bx w w') : Off w' bx A l := Kd.F_grown h hc (fun k hk e => hk (Option.some.inj e))
set_option maxHeartbeats 4000000 in
set_option maxRecDepth 100000 in
theorem last_whole (g bx : Nat) (ks : List (List B)) (n : Nat) (hks : ks.length = n + 2) (hk : ∀ r, r < n + 2 → (keyAt ks r).length = 16) (hn : n ≤ 100) (k : Nat) (d1 d2 : List Int) (h1 : octet_Double.f k (ib (encB ks n zB)) = some d1) (h2 : octet_Double.f k d1 = some d2) (hl1 : d1.length = 16) (A : Option Addr) (c : Nat) (m : List Int) (hm : m.length = 16) (hc : m.length ≤ c) (w : World) (hF : Off w bx A m) (hX : Cph w g bx ks) : Calls Try.prog 82 #[.pointer (some ⟨g, 0, none⟩), .slice A 16 c] w fun e w' => ∃ v, e = .returned v ∧ Kd.R (Kd.int .u8) 5 w' w.heap.size (fun _ => True) v (Octet.xorL m d1) ∧ Cph w' g bx ks ∧ Ch bx w w' := by
  have CM := Aside0.mk (fun (W : World) (h : Cph W g bx ks) => masks_c g bx ks n hks hk hn k d1 d2 h1 h2 hl1 W h)
  have CX := Aside0.mk (fun (A1 : Option Addr) (c1 : Nat) (W : World) (h : Off W bx A m) (hC1 : Kd.C (Kd.int .u8) W A1 d1.length d1) (hc1 : d1.length ≤ c1) => by have := Octet.octet_Xor.calls A c m A1 c1 d1 (Octet.xorL m d1) W (Kd.F_now h) hc hC1 hc1 (by unfold Octet.octet_Xor.f; rw [if_pos (by rw [hm, hl1]; decide)]); rwa [hm] at this)
  have HF := Aside0.mk hF
  have HX := Aside0.mk hX
  clear hks hk hn h1 h2 hl1 hc hF hX hm
  go_enter Try.func82, Try.ntmps82
  go_wp2_with (first
    | (go_at_call 38; go_loud ((refine (CM.out _ HX.out).mono ?_); rintro e w1 ⟨v1, v2, rfl, hR1, hR2, hx, hch⟩; obtain ⟨A1, c1, rfl, hl, hR⟩ := Kd.R_reads hR1; have HC1 := Aside0.mk hR; have HL1 := Aside0.mk hl; have HX := Aside0.mk hx; have HC := Aside0.mk hch; have HF := Aside0.mk (HF.out.ch hch); clear hR1 hR2 hx hch hl hR))
    | (go_at_call 81; go_loud ((refine (CX.out _ _ _ HF.out HC1.out HL1.out).mono ?_); rintro e w2 ⟨v, rfl, hv, hb⟩; have HR := Aside0.mk (Kd.R_lower hv HC.out.size); have HX := Aside0.mk (HX.out.bound.below hb).all; have HC := Aside0.mk (Ch.step HC.out hb); clear hv hb)))
  go_ret
  exact ⟨_, rfl, HR.out, HX.out, HC.out⟩
end Go.Proofs.Ytpdikfmdnlhllaa.Aes
namespace Go.Proofs.Ytpdikfmdnlhllaa.Aes
open Go.RowKit Go.Proofs.Ytpdikfmdnlhllaa.PNib Go.Proofs.YtpdikfmdnlhllaaW.PrintWords Go.Proofs.YtpdikfmdnlhllaaW.PrintLast Go.Proofs.YtpdikfmdnlhllaaW.PrintMore Byte Sl Arr Mem Gives ArrEq Mat AesMath AesMov AesLin HandKit Copy
set_option linter.unusedVariables false
set_option linter.unusedSimpArgs false
set_option maxHeartbeats 4000000 in
set_option maxRecDepth 100000 in
theorem last_part (g bx : Nat) (ks : List (List B)) (n : Nat) (hks : ks.length = n + 2) (hk : ∀ r, r < n + 2 → (keyAt ks r).length = 16) (hn : n ≤ 100) (k : Nat) (d1 d2 : List Int) (h1 : octet_Double.f k (ib (encB ks n zB)) = some d1) (h2 : octet_Double.f k d1 = some d2) (hl1 : d1.length = 16) (hl2 : d2.length = 16) (A : Option Addr) (c : Nat) (m : List Int) (hm : m.length < 16) (hc : m.length ≤ c) (w : World) (hF : Off w bx A m) (hX : Cph w g bx ks) : Calls Try.prog 82 #[.pointer (some ⟨g, 0, none⟩), .slice A m.length c] w fun e w' => ∃ v, e = .returned v ∧ Kd.R (Kd.int .u8) 5 w' w.heap.size (fun _ => True) v (Octet.xorL ((over (List.replicate 16 0) m).set m.length 128) d2) ∧ Cph w' g bx ks ∧ Ch bx w w' := by
  have CM := Aside0.mk (fun (W : World) (h : Cph W g bx ks) => masks_c g bx ks n hks hk hn k d1 d2 h1 h2 hl1 W h)
  obtain ⟨N, hN⟩ : ∃ z, z = m.length := ⟨_, rfl⟩
  obtain ⟨ov, hov⟩ : ∃ z, z = over (List.replicate 16 0) m := ⟨_, rfl⟩
  have HOV := Aside0.mk hov.symm
  have hlo : ov.length = 16 := by rw [hov]; unfold over splice; simp; omega
  have CX := Aside0.mk (fun (A1 A2 : Option Addr) (c1 c2 : Nat) (W : World) (hC1 : Kd.C (Kd.int .u8) W A1 (ov.set N 128).length (ov.set N 128)) (hc1 : (ov.set N 128).length ≤ c1) (hC2 : Kd.C (Kd.int .u8) W A2 d2.length d2) (hc2 : d2.length ≤ c2) => by have := Octet.octet_Xor.calls A1 c1 (ov.set N 128) A2 c2 d2 (Octet.xorL (ov.set N 128) d2) W hC1 hc1 hC2 hc2 (by unfold Octet.octet_Xor.f; rw [if_pos (by rw [List.length_set, hlo, hl2]; decide)]); rwa [List.length_set, hlo, hl2] at this)
  have HF := Aside0.mk hF
  have HX := Aside0.mk hX
  have HL2 := Aside0.mk hl2
  have HLO := Aside0.mk hlo
  have HN := Aside0.mk hN
  rw [← hov, ← hN]
  have hN16 : N < 16 := by omega
  have h0 : (0 : Int) ≤ (N : Int) := Int.natCast_nonneg _
  have h16 : (N : Int) < 16 := by omega
  have hne : ((N : Int) == 16) = false := by rw [beq_eq_false_iff_ne]; omega
  have hne2 : ((N : Int) = 16) = False := by apply eq_false; omega
  have hne3 : (N = 16) = False := by apply eq_false; omega
  clear hks hk hn h1 h2 hl1 hl2 hc hF hX hm hov hlo hN
  go_enter Try.func82, Try.ntmps82
  go_upto_region 6 with (first
    | (go_at_call 38; go_loud ((refine (CM.out _ HX.out).mono ?_); rintro e w1 ⟨v1, v2, rfl, hR1, hR2, hx, hch⟩; obtain ⟨A2, c2, rfl, hl, hR⟩ := Kd.R_reads hR2; have HC2 := Aside0.mk hR; have HLc := Aside0.mk hl; have HX := Aside0.mk hx.bound; have HC := Aside0.mk hch; have HF := Aside0.mk (HF.out.ch hch); have HB := Aside0.mk (Below.refl w1.heap.size w1); clear hR1 hR2 hx hch hl hR))
    | ((with_reducible refine gate_dst (N := 19) rfl ?_); go_loud (refine Kd.R_make (Kd.int .u8) _ 5 rfl (N := 19) rfl 22 _ _ rfl 16 rfl rfl Try.underlying22 (.int .u8 0) 1 info_u8 rfl (by decide) (by decide) 0 (ok := fun _ => True) (okp := fun _ => True) rfl (fun _ hk => hk) trivial (by decide) (by decide) (Below.refl _ _) (Nat.le_refl _) ?_; intro v w3 ho hb hg_ hnew_; clear hg_ hnew_; obtain ⟨Av, cv, rfl, hcv, hrd⟩ := Kd.R_reads ho; clear hrd hcv; have HO := Aside0.mk ho; have HB := Aside0.mk hb; clear hb ho))
    | ((with_reducible refine gate_builtin (b := .copy) (xs := #[.tmp 20, .tmp 21]) rfl ?_); go_loud (refine R_copy (k := .u8) (w0 := w1) rfl (.tmp 20) (.tmp 21) 22 22 rfl 5 Try.underlying22 size_u8 (by rfl) (by rfl) HO.out (show Kd.C (Kd.int .u8) _ A N m by rw [HN.out]; exact Kd.F_now (Kd.F_below HF.out HB.out)) HB.out ?_; intro w4 ho hb; have HB := Aside0.mk hb; have HO := Aside0.mk ho; clear hb ho)))
  have hO := show Kd.R (Kd.int .u8) 5 w4 w1.heap.size (fun _ => True) (.slice Av 16 cv) ov from by rw [← HOV.out]; exact HO.out
  obtain ⟨gv, cap, hv2, hbg, hlt, -⟩ := Kd.R_form hO (by rw [HLO.out]; decide)
  rw [HLO.out] at hv2
  injection hv2 with q1 q2 q3
  subst q1
  subst q3
  have HGV := Aside0.mk hbg
  have HCP := Aside0.mk (Kd.R_reads' hO).2.1
  obtain ⟨hx0, hf⟩ := Kd.R_celln (0 : Int) hO (N : Int) h0 h16
  rw [Int.toNat_natCast] at hx0 hf
  have hxx := show _ = some (Value.int .u8 (ov.getD (N : Int).toNat 0)) from hx0
  rw [Int.toNat_natCast] at hxx
  have h3 := (Kd.R_putg hO (N : Int) 128).1
  rw [Int.toNat_natCast] at h3
  have HO2 := Aside0.mk (show Kd.R (Kd.int .u8) 5 _ _ _ _ _ from h3)
  clear h3 hx0 hbg hlt hO q2 HO
  go_upto_region 7 with (fail)
  have HB := Aside0.mk (below_set (j := N) (v := Value.int .u8 128) HB.out HGV.out)
  clear hxx hf
  generalize hwx : World.setCell w4 _ _ = wx at *
  clear hwx
  have HX := Aside0.mk (HX.out.below HB.out).all
  have HC := Aside0.mk (Ch.step HC.out HB.out)
  have HC2 := Aside0.mk (Kd.C_below HC2.out HB.out)
  obtain ⟨hn_, hcp_, hcc_⟩ := Kd.R_reads' HO2.out
  have HC1 := Aside0.mk hcc_
  have HL1 := Aside0.mk (show (ov.set N 128).length ≤ cv by rw [← hn_]; exact hcp_)
  have HCX := Aside0.mk (CX.out (some ⟨gv, 0, none⟩) A2 cv c2 wx HC1.out HL1.out HC2.out HLc.out)
  clear hn_ hcp_ hcc_ CX CM
  rw [HL2.out]
  go_wp2_with (first
    | (go_at_call 81; go_loud ((refine (HCX.out).mono ?_); rintro e w6 ⟨v, rfl, hv, hb⟩; have HR := Aside0.mk (Kd.R_lower hv HC.out.size); have HX := Aside0.mk (HX.out.bound.below hb).all; have HC := Aside0.mk (Ch.step HC.out hb); clear hv hb)))
  go_ret
  exact ⟨_, rfl, HR.out, HX.out, HC.out⟩
end Go.Proofs.Ytpdikfmdnlhllaa.Aes
namespace Go.Proofs.Ytpdikfmdnlhllaa.Aes
open Go.RowKit Go.Proofs.Ytpdikfmdnlhllaa.PNib Go.Proofs.YtpdikfmdnlhllaaW.PrintWords Go.Proofs.YtpdikfmdnlhllaaW.PrintLast Go.Proofs.YtpdikfmdnlhllaaW.PrintMore Byte Sl Arr Mem Gives ArrEq Mat AesMath AesMov AesLin HandKit Copy
set_option linter.unusedVariables false
set_option linter.unusedSimpArgs false
/-- Round keys that may be. -/
structure KN (ks : List (List B)) (n : Nat) : Prop where
  len : ks.length = n + 2
  each : ∀ r, r < n + 2 → (keyAt ks r).length = 16
  few : n ≤ 100
abbrev mA (ks : List (List B)) (n : Nat) : List B := dblB (encB ks n zB)
abbrev mB (ks : List (List B)) (n : Nat) : List B := dblB (mA ks n)
theorem dbl_one (b : List B) (hb : b.length = 16) : octet_Double.f 17 (ib b) = some (ib (dblB b)) := by
  rw [CmEval.Double_eq _ (bytes_ib b) 17 (Nat.le_refl _), if_pos (by rw [ib_length, hb]), ib_dblB]
theorem KN.d1 {ks : List (List B)} {n : Nat} : octet_Double.f 17 (ib (encB ks n zB)) = some (ib (mA ks n)) := dbl_one _ (encB_length _ _ _)
theorem KN.d2 {ks : List (List B)} {n : Nat} : octet_Double.f 17 (ib (mA ks n)) = some (ib (mB ks n)) := dbl_one _ (dblB_length _)
theorem pad_over (m : List B) (h : m.length < 16) : (over (List.replicate 16 0) (ib m)).set (ib m).length 128 = ib (padB m) := by
  have e : over (List.replicate 16 0) (ib m) = ib m ++ List.replicate (16 - m.length) 0 := by
    unfold over splice
    rw [List.take_zero, List.nil_append, Nat.zero_add, List.length_replicate, List.take_of_length_le (by rw [ib_length]; omega), List.drop_replicate, ib_length]
  rw [e, List.set_append_right _ _ (Nat.le_refl _), Nat.sub_self, show 16 - m.length = (15 - m.length) + 1 by omega, List.replicate_succ, List.set_cons_zero]
  unfold padB
  rw [ib_append, ib_cons, ib_zeros]
  rfl
theorem Off.len {w : World} {bx : Nat} {A : Option Addr} {l : List Int} {n : Nat} (h : Off w bx A l) (hn : l.length = n) : Kd.C (Kd.int .u8) w A n l := by subst hn; exact Kd.F_now h
theorem Off.below {w w' : World} {bx : Nat} {A : Option Addr} {l : List Int} (h : Off w bx A l) (hb : Below w.heap.size w w') : Off w' bx A l := Kd.F_below h hb
theorem Off.of_mem {w : World} {bx N : Nat} {t : TypeId} {l : List Int} (h : Mem .u8 w N t l) (hl : l.length = 16) (hne : N ≠ bx) : Off w bx (some ⟨N, 0, none⟩) l := by
  have hlt : N < w.heap.size := (Array.getElem?_eq_some_iff.1 h).1
  intro W' hW
  have := mem_row16 (show Mem .u8 W' N t l from (hW N hne hlt).trans h) hl
  rwa [← hl] at this
theorem Off.take {w : World} {bx : Nat} {A : Option Addr} {l : List Int} (h : Off w bx A l) (m : Nat) (hm : m ≤ l.length) : Off w bx A (l.take m) := Kd.F_take h hm
theorem Off.cut {w : World} {bx : Nat} {ad : Addr} {l : List Int} {c : Nat} (h : Off w bx (some ad) l) (m : Nat) (hm : m < l.length) (hc : l.length ≤ c) : Off w bx (some (ad.add m)) (l.drop m) := by
  have := Kd.F_cut h (Nat.le_of_lt hm) hc
  rw [if_neg (by omega)] at this
  rwa [show (Kd.int .u8).sz = 1 from rfl, Nat.mul_one] at this
set_option maxHeartbeats 4000000 in
set_option maxRecDepth 100000 in
theorem last_c (g bx : Nat) (ks : List (List B)) (n : Nat) (K : KN ks n) (A : Option Addr) (c : Nat) (m : List B) (hm : m.length ≤ 16) (hc : m.length ≤ c) (w : World) (hF : Off w bx A (ib m)) (hX : Cph w g bx ks) : Calls Try.prog 82 #[.pointer (some ⟨g, 0, none⟩), .slice A m.length c] w fun e w' => ∃ v, e = .returned v ∧ Kd.R (Kd.int .u8) 5 w' w.heap.size (fun _ => True) v (ib (lastX (mA ks n) (mB ks n) m)) ∧ Cph w' g bx ks ∧ Ch bx w w' := by
  have l1 : (ib (mA ks n)).length = 16 := by rw [ib_length, dblB_length]
  have l2 : (ib (mB ks n)).length = 16 := by rw [ib_length, dblB_length]
  by_cases h : m.length = 16
  · have hm16 : (ib m).length = 16 := by rw [ib_length, h]
    have := last_whole g bx ks n K.len K.each K.few 17 (ib (mA ks n)) (ib (mB ks n)) KN.d1 KN.d2 l1 A c (ib m) hm16 (by rw [ib_length]; exact hc) w hF hX
    rw [h, lastX, if_pos h, ← zipX_ib]
    exact this
  · have hm16 : (ib m).length < 16 := by rw [ib_length]; omega
    have := last_part g bx ks n K.len K.each K.few 17 (ib (mA ks n)) (ib (mB ks n)) KN.d1 KN.d2 l1 l2 A c (ib m) hm16 (by rw [ib_length]; exact hc) w hF hX
    rw [pad_over m (by omega), ib_length] at this
    rw [lastX, if_neg h, ← zipX_ib]
    exact this
theorem xor_b (A1 A2 : Option Addr) (c1 c2 : Nat) (x y : List B) (hx : x.length = 16) (hc1 : 16 ≤ c1) (hy : y.length = 16) (hc2 : 16 ≤ c2) (W : World) (h1 : Kd.C (Kd.int .u8) W A1 16 (ib x)) (h2 : Kd.C (Kd.int .u8) W A2 16 (ib y)) : Calls Try.prog 81 #[.slice A1 16 c1, .slice A2 16 c2] W fun e w' => ∃ g c, e = .returned (.slice (some ⟨g, 0, none⟩) 16 c) ∧ 16 ≤ c ∧ Kd.C (Kd.int .u8) w' (some ⟨g, 0, none⟩) 16 (ib (zipX x y)) ∧ Below W.heap.size W w' := by
  have := Octet.octet_Xor.calls A1 c1 (ib x) A2 c2 (ib y) (ib (zipX x y)) W (by rw [ib_length, hx]; exact h1) (by rw [ib_length, hx]; exact hc1) (by rw [ib_length, hy]; exact h2) (by rw [ib_length, hy]; exact hc2) (by unfold Octet.octet_Xor.f Octet.xorL; rw [zipX_ib, if_pos (by rw [ib_length, ib_length, hx, hy]; decide)])
  rw [ib_length, ib_length, hx, hy] at this
  refine this.mono ?_
  rintro e w' ⟨v, rfl, hv, hb⟩
  have hl : (ib (zipX x y)).length = 16 := by rw [ib_length, zipX_16 hx hy]
  obtain ⟨gv, cap, rfl, _, _, _⟩ := Kd.R_form hv (by rw [hl]; decide)
  obtain ⟨_, hcp, hC⟩ := Kd.R_reads' hv
  rw [hl] at hC hcp ⊢
  exact ⟨gv, cap, rfl, hcp, hC, hb⟩
/-- Numbers of one round: k1 + 1 rounds are left. -/
theorem sumN (k1 L c : Nat) (h1 : L ≤ 16 * (k1 + 1 + 1)) (h2 : 0 < k1 + 1 → 16 * (k1 + 1) < L) (hc : L ≤ c) (hb : L ≤ 140737488351232) : (16 : Int) < (L : Int) ∧ (0 : Int) ≤ (L : Int) ∧ (L : Int) ≤ (c : Int) ∧ (16 : Int) ≤ (c : Int) ∧ (16 : Int) ≤ (L : Int) ∧ L - 16 ≤ 16 * (k1 + 1) ∧ (0 < k1 → 16 * k1 < L - 16) ∧ 16 < L ∧ 16 ≤ c ∧ L - 16 ≤ c - 16 ∧ (c = 16) = False ∧ L - 16 ≤ 140737488351232 := by
  refine ⟨by omega, by omega, by omega, by omega, by omega, by omega, fun h => by omega, by omega, by omega, by omega, ?_, by omega⟩
  apply eq_false; omega
theorem sumZ (L : Nat) (h : L ≤ 16 * (0 + 1)) : ¬ (16 : Int) < (L : Int) ∧ L ≤ 16 := by omega
set_option maxHeartbeats 4000000 in
set_option maxRecDepth 100000 in
theorem sum_c (g bx : Nat) (ks : List (List B)) (n : Nat) (K : KN ks n) (A : Option Addr) (c : Nat) (m : List B) (hml : m.length ≤ 140737488351232) (hc : m.length ≤ c) (w : World) (hF : Off w bx A (ib m)) (hX : Cph w g bx ks) : Calls Try.prog 40 #[.pointer (some ⟨g, 0, none⟩), .slice A m.length c] w fun e w' => ∃ N, e = .returned (.slice (some ⟨N, 0, none⟩) 16 16) ∧ w.heap.size ≤ N ∧ N ≠ bx ∧ Mem .u8 w' N 31 (ib (cmacB (encB ks n) m)) ∧ Cph w' g bx ks ∧ Ch bx w w' := by
  have CM := Aside0.mk (fun (b : List B) (hb : b.length = 16) (ga c : Nat) (W : World) (hC : Kd.C (Kd.int .u8) W (some ⟨ga, 0, none⟩) 16 (ib b)) (hX : Cph W g bx ks) => make1_c b hb g bx ks n K.len K.each K.few ga c W hC hX)
  have CL := Aside0.mk (fun (A : Option Addr) (c : Nat) (m : List B) (hm : m.length ≤ 16) (hc : m.length ≤ c) (W : World) (hF : Off W bx A (ib m)) (hX : Cph W g bx ks) => last_c g bx ks n K A c m hm hc W hF hX)
  have HE := Aside0.mk (fun y => encB_length ks n y)
  have HLL := Aside0.mk (fun (m : List B) (h : m.length ≤ 16) => lastX_length (a := mA ks n) (b := mB ks n) (l := m) (dblB_length _) (dblB_length _) h)
  have HST := Aside0.mk (macB_step (encB ks n) (mA ks n) (mB ks n))
  have HEN := Aside0.mk (macB_end (encB ks n) (mA ks n) (mB ks n))
  obtain ⟨R, hR⟩ : ∃ z, z = cmacB (encB ks n) m := ⟨_, rfl⟩
  have HR := Aside0.mk (show macB (encB ks n) (mA ks n) (mB ks n) zB m = R by rw [hR]; rfl)
  rw [← hR]
  clear hR K
  generalize mA ks n = ma at *
  generalize mB ks n = mb at *
  generalize encB ks n = E at *
  have HB0 := Aside0.mk (below_alloc (Below.refl w.heap.size w) (.cells (cellsOf .u8 z16) 5))
  have HXL := Aside0.mk (show bx < w.heap.size from hX.bound.2.2.2)
  have M0 := Aside0.mk (Mem.new .u8 w 5 z16)
  have O0 := Aside0.mk (show Off _ bx (some ⟨w.heap.size, 0, none⟩) (ib zB) by rw [ib_zB]; exact Off.of_mem M0.out rfl (by have := HXL.out; omega))
  have HX := Aside0.mk (hX.bound.below HB0.out).all
  have HC := Aside0.mk (Ch.of_below (g := bx) HB0.out)
  have HF := Aside0.mk (hF.below HB0.out)
  have hmk : ∀ W : World, (Instr.makeSlice 22 (.int .i64 16) (.int .i64 16)).run Try.prog W = .ok (.slice (some ⟨W.heap.size, 0, none⟩) 16 16) (W.alloc (.cells (cellsOf .u8 z16) 5)) := fun W => by
    have h := print_make (P := Try.prog) 22 5 .u8 1 Try.underlying22 info_u8 (by decide) 16 (by decide) W
    rw [show madeCells #[Value.int .u8 0] 16 = cellsOf .u8 z16 by kernel_rfl] at h
    exact h
  have HML := Aside0.mk hml
  have HCC := Aside0.mk hc
  clear hml hc hF hX
  go_enter Try.func40, Try.ntmps40
  go_wp2
  clear hmk
  go_loopg [1, 5] ((m.length - 1) / 16) (fun kq mv xv w' => ∃ (x l : List B) (A : Option Addr) (c N d : Nat), mv = .slice A l.length c ∧ xv = .slice (some ⟨N, 0, none⟩) 16 d ∧ Aside0 (x.length = 16 ∧ l.length ≤ 16 * (kq + 1) ∧ (0 < kq → 16 * kq < l.length) ∧ l.length ≤ 140737488351232 ∧ l.length ≤ c ∧ 16 ≤ d) ∧ Aside0 (macB E ma mb x l = R) ∧ Aside0 (Off w' bx A (ib l)) ∧ Aside0 (Off w' bx (some ⟨N, 0, none⟩) (ib x)) ∧ Aside0 (Cph w' g bx ks) ∧ Aside0 (Ch bx w w'))
  case atStart => exact ⟨zB, m, A, c, w.heap.size, 16, rfl, rfl, ⟨⟨rfl, by omega, fun _ => by omega, HML.out, HCC.out, by omega⟩⟩, HR, HF, O0, HX, HC⟩
  case round =>
    clear HR HF O0 HX HC M0 HML HCC HB0
    obtain ⟨x, l, A1, c1, N, d, rfl, rfl, HN, HR, HF, HO, HX, HC⟩ := hrel
    have HXC := Aside0.mk (HO.out.len (n := 16) (by rw [ib_length]; exact HN.out.1))
    cases gk with
    | zero =>
      obtain ⟨hnl, hl16⟩ := sumZ l.length HN.out.2.1
      have HL16 := Aside0.mk hl16
      clear hl16
      have HLX := Aside0.mk (HLL.out l HL16.out)
      have HRV := Aside0.mk (show R = E (zipX x (lastX ma mb l)) from HR.out.symm.trans (HEN.out x l HL16.out))
      have HCL := Aside0.mk (CL.out A1 c1 l HL16.out HN.out.2.2.2.2.1 wr HF.out HX.out)
      clear CL HR HF
      obtain ⟨la, hla⟩ : ∃ z, z = lastX ma mb l := ⟨_, rfl⟩
      rw [← hla] at HCL HLX HRV
      clear hla
      go_wp2_with (first
        | (go_at_call 82; go_loud ((refine HCL.out.mono ?_); rintro e w1 ⟨v, rfl, hv, hx, hch⟩; obtain ⟨A2, c2, rfl, hl2, hC2⟩ := Kd.R_reads hv; have e16 : (ib la).length = 16 := (by rw [ib_length, HLX.out]); rw [e16] at hl2 hC2 ⊢; have HCL2 := Aside0.mk hC2; have HL2 := Aside0.mk hl2; have HX := Aside0.mk hx; have HC := Aside0.mk (HC.out.trans hch); have HXC := Aside0.mk ((HO.out.ch hch).len (n := 16) (by rw [ib_length]; exact HN.out.1)); clear hv hx hch hl2 hC2 e16))
        | (go_at_call 81; go_loud ((refine (xor_b _ _ _ _ x la HN.out.1 HN.out.2.2.2.2.2 HLX.out HL2.out _ HXC.out HCL2.out).mono ?_); rintro e w2 ⟨gz, cz, rfl, hcz, hCz, hb⟩; have HCZ := Aside0.mk hCz; have HX := Aside0.mk (HX.out.bound.below hb).all; have HC := Aside0.mk (Ch.step HC.out hb); clear hCz hb hcz))
        | (go_at_call 80; go_loud ((refine (CM.out _ (zipX_16 HN.out.1 HLX.out) _ _ _ HCZ.out HX.out).mono ?_); rintro e w3 ⟨N3, rfl, hN, hne, hM, hx, hc⟩; have HN3 := Aside0.mk (And.intro (Nat.le_trans HC.out.size hN) hne); have M3 := Aside0.mk hM; have HX := Aside0.mk hx; have HC := Aside0.mk (HC.out.trans hc); clear hM hx hc hN hne)))
      go_ret
      exact ⟨_, rfl, HN3.out.1, HN3.out.2, by rw [HRV.out]; exact M3.out, HX.out, HC.out⟩
    | succ k1 =>
      obtain ⟨h1, h2, h3, h4, h5, h6, h7, h8, h9, h10, h11, h12⟩ := sumN k1 l.length c1 HN.out.2.1 HN.out.2.2.1 HN.out.2.2.2.2.1 HN.out.2.2.2.1
      obtain ⟨ad, rfl⟩ : ∃ ad, A1 = some ad := by
        obtain ⟨ad, h, _⟩ := (Kd.F_now HF.out).2.2 (by rw [ib_length]; omega)
        exact ⟨ad, h⟩
      have HT := Aside0.mk (by
        have := (HF.out.take 16 (by rw [ib_length]; omega)).len (n := 16) (by rw [List.length_take, ib_length]; omega)
        rwa [← ib_take] at this)
      have HTL := Aside0.mk (show (l.take 16).length = 16 by rw [List.length_take]; omega)
      have HNX := Aside0.mk (And.intro h6 (And.intro h7 (And.intro h12 (And.intro h9 (And.intro h10 h8)))))
      clear h6 h7 h8 h9 h10 h12
      obtain ⟨tk, htk⟩ : ∃ z, z = l.take 16 := ⟨_, rfl⟩
      have HRS := Aside0.mk (show macB E ma mb (E (zipX x tk)) (l.drop 16) = R by rw [htk, ← HST.out x l HNX.out.2.2.2.2.2]; exact HR.out)
      rw [← htk] at HT HTL
      clear htk HR CL HLL
      go_wp2_with (first
        | (go_at_call 81; go_loud ((refine (xor_b _ _ _ _ x tk HN.out.1 HN.out.2.2.2.2.2 HTL.out (by decide) _ HXC.out HT.out).mono ?_); rintro e w2 ⟨gz, cz, rfl, hcz, hCz, hb⟩; have HCZ := Aside0.mk hCz; have HX := Aside0.mk (HX.out.bound.below hb).all; have HC := Aside0.mk (Ch.step HC.out hb); have HF := Aside0.mk (HF.out.below hb); clear hCz hb hcz))
        | (go_at_call 80; go_loud ((refine (CM.out _ (zipX_16 HN.out.1 HTL.out) _ _ _ HCZ.out HX.out).mono ?_); rintro e w3 ⟨N3, rfl, hN, hne, hM, hx, hc⟩; have HF := Aside0.mk (HF.out.ch hc); have HO3 := Aside0.mk (Off.of_mem hM (by rw [ib_length]; exact HE.out _) hne); have HX := Aside0.mk hx; have HC := Aside0.mk (HC.out.trans hc); clear hM hx hc hN hne)))
      go_roundg k1
      case measure => omega
      case rel => exact ⟨E (zipX x tk), l.drop 16, some (ad.add 16), c1 - 16, N3, 16, by rw [List.length_drop]; rfl, rfl, ⟨⟨HE.out _, by rw [List.length_drop]; exact HNX.out.1, fun h => by rw [List.length_drop]; exact HNX.out.2.1 h, by rw [List.length_drop]; exact HNX.out.2.2.1, by rw [List.length_drop]; exact HNX.out.2.2.2.2.1, by decide⟩⟩, HRS, ⟨by rw [ib_drop]; exact HF.out.cut 16 (by rw [ib_length]; exact HNX.out.2.2.2.2.2) (by rw [ib_length]; exact HN.out.2.2.2.2.1)⟩, HO3, HX, HC⟩
end Go.Proofs.Ytpdikfmdnlhllaa.Aes
namespace Go.Proofs.Ytpdikfmdnlhllaa.Aes
open Go.RowKit Go.Proofs.Ytpdikfmdnlhllaa.PNib Go.Proofs.YtpdikfmdnlhllaaW.PrintWords Go.Proofs.YtpdikfmdnlhllaaW.PrintLast Go.Proofs.YtpdikfmdnlhllaaW.PrintMore Byte Sl Arr Mem Gives ArrEq Mat AesMath AesMov AesLin HandKit Copy
set_option linter.unusedVariables false
set_option linter.unusedSimpArgs false
/-- A row of bytes that a cipher at its work does not touch. -/
abbrev On (W : World) (bx : Nat) (A : Option Addr) (n : Nat) (l : List B) : Prop := Kd.F (Kd.int .u8) W (fun k => k ≠ bx) A n (ib l)
/-- A row of bytes that was made behind block b. -/
abbrev NR (b : Nat) (W : World) (A : Option Addr) (n : Nat) (l : List B) : Prop := Kd.F (Kd.int .u8) W (fun k => b ≤ k) A n (ib l)
/-- A row of bytes that lies ahead of block b. -/
abbrev OR (b : Nat) (W : World) (A : Option Addr) (n : Nat) (l : List B) : Prop := Kd.F (Kd.int .u8) W (fun k => k < b) A n (ib l)
section
variable {W W' : World} {bx b n : Nat} {A : Option Addr} {l : List B}
theorem On.ch (h : On W bx A n l) (hc : Ch bx W W') : On W' bx A n l := Kd.F_grown h hc (fun k hk e => hk (Option.some.inj e))
theorem On.below (h : On W bx A n l) (hb : Below W.heap.size W W') : On W' bx A n l := Kd.F_below h hb
theorem On.C (h : On W bx A n l) : Kd.C (Kd.int .u8) W A n (ib l) := Kd.F_now h
theorem On.len (h : On W bx A n l) : l.length = n := by have := Kd.F_len h; rwa [ib_length] at this
theorem On.off (h : On W bx A n l) : Off W bx A (ib l) := by have e := Kd.F_len h; subst e; exact h
theorem NR.on (h : NR b W A n l) (hb : bx < b) : On W bx A n l := Kd.F_mono h (fun k hk => by omega)
theorem NR.below (h : NR b W A n l) (hb : Below W.heap.size W W') : NR b W' A n l := Kd.F_below h hb
theorem NR.low {b' : Nat} (h : NR b W A n l) (hb : b' ≤ b) : NR b' W A n l := Kd.F_mono h (fun k hk => Nat.le_trans hb hk)
theorem NR.C (h : NR b W A n l) : Kd.C (Kd.int .u8) W A n (ib l) := Kd.F_now h
theorem OR.on (h : OR b W A n l) (hb : b ≤ bx) : On W bx A n l := Kd.F_mono h (fun k hk => by omega)
theorem OR.below (h : OR b W A n l) (hb : Below W.heap.size W W') : OR b W' A n l := Kd.F_below h hb
theorem OR.C (h : OR b W A n l) : Kd.C (Kd.int .u8) W A n (ib l) := Kd.F_now h
theorem OR.of_C (h : Kd.C (Kd.int .u8) W A n (ib l)) : OR W.heap.size W A n l := Kd.C_F (Kd.heap_int .u8) h
theorem On.of_mem {N : Nat} {t : TypeId} (h : Mem .u8 W N t (ib l)) (hl : l.length = 16) (hne : N ≠ bx) : On W bx (some ⟨N, 0, none⟩) 16 l := by
  have hlt : N < W.heap.size := (Array.getElem?_eq_some_iff.1 h).1
  intro W' hW
  exact mem_row16 (show Mem .u8 W' N t (ib l) from (hW N hne hlt).trans h) (by rw [ib_length, hl])
theorem row_new {e base : Nat} {ok : Nat → Prop} {v : Value} (h : Kd.R (Kd.int .u8) e W base ok v (ib l)) (hl : l.length = n) : ∃ A c, v = .slice A n c ∧ n ≤ c ∧ NR base W A n l := by
  subst hl
  obtain ⟨A, c, rfl, hc, _⟩ := Kd.R_reads h
  rw [ib_length] at hc
  refine ⟨A, c, by rw [ib_length], hc, ?_⟩
  have := Kd.F_mono (ok' := fun k => base ≤ k) (Kd.R_F (Kd.R_bound h)) (fun k hk => hk.2.1)
  rwa [ib_length] at this
theorem On.nil (W : World) (bx : Nat) : On W bx none 0 [] := Kd.F_nil (Kd.int .u8) W _
end
theorem rxor_c (x y : List B) (n1 n2 n3 : Nat) (hx : x.length = n1) (hy : y.length = n2) (hz : (zipX x y).length = n3) (h48 : n1 ≤ 140737488351232) (A1 A2 : Option Addr) (c1 c2 : Nat) (hc1 : n1 ≤ c1) (hc2 : n2 ≤ c2) (W : World) (h1 : Kd.C (Kd.int .u8) W A1 n1 (ib x)) (h2 : Kd.C (Kd.int .u8) W A2 n2 (ib y)) :
    Calls Try.prog 39 #[.slice A1 n1 c1, .slice A2 n2 c2] W fun e w' => ∃ A c, e = .returned (.slice A n3 c) ∧ n3 ≤ c ∧ NR W.heap.size w' A n3 (zipX x y) ∧ Below W.heap.size W w' := by
  subst hx hy
  have := visorref01_Xor.calls (x.length + 1) A1 c1 (ib x) A2 c2 (ib y) (ib (zipX x y)) W (by rw [ib_length]; exact h1) (by rw [ib_length]; exact hc1) (by rw [ib_length]; exact h2) (by rw [ib_length]; exact hc2) (by rw [CmEval.RXor_eq _ _ (by rw [ib_length]; exact h48) _ (by rw [ib_length]; omega)]; unfold Octet.xorL; rw [zipX_ib])
  rw [ib_length, ib_length] at this
  refine this.mono ?_
  rintro e w' ⟨v, rfl, hv, hb⟩
  obtain ⟨A, c, rfl, hc, hn⟩ := row_new hv hz
  exact ⟨A, c, rfl, hc, hn, hb⟩
theorem rsame_c (x y : List B) (r : Bool) (hr : decide (x = y) = r) (n1 n2 : Nat) (A1 A2 : Option Addr) (c1 c2 : Nat) (hc1 : n1 ≤ c1) (hc2 : n2 ≤ c2) (W : World) (h1 : Kd.C (Kd.int .u8) W A1 n1 (ib x)) (h2 : Kd.C (Kd.int .u8) W A2 n2 (ib y)) :
    Calls Try.prog 41 #[.slice A1 n1 c1, .slice A2 n2 c2] W fun e w' => e = .returned (.bool r) ∧ Below W.heap.size W w' := by
  have e1 := h1.1
  have e2 := h2.1
  subst e1 e2
  refine (visorref01_Same.calls A1 c1 (ib x) A2 c2 (ib y) r W h1 hc1 h2 hc2 (by rw [← hr]; exact CmEval.RSame_eq x y)).mono ?_
  rintro e w' ⟨rfl, ⟨m, rfl⟩⟩
  exact ⟨rfl, pw_below_drewN (Below.refl _ _) m⟩
theorem psame_c (x y : List B) (r : Bool) (hr : decide (x = y) = r) (n1 n2 : Nat) (A1 A2 : Option Addr) (c1 c2 : Nat) (hc1 : n1 ≤ c1) (hc2 : n2 ≤ c2) (W : World) (h1 : Kd.C (Kd.int .u8) W A1 n1 (ib x)) (h2 : Kd.C (Kd.int .u8) W A2 n2 (ib y)) :
    Calls Try.prog 85 #[.slice A1 n1 c1, .slice A2 n2 c2] W fun e w' => e = .returned (.bool r) ∧ Below W.heap.size W w' := by
  have e1 := h1.1
  have e2 := h2.1
  subst e1 e2
  refine (octet_Same.calls A1 c1 (ib x) A2 c2 (ib y) r W h1 hc1 h2 hc2 (by rw [← hr]; exact CmEval.Same_eq x y)).mono ?_
  rintro e w' ⟨rfl, ⟨m, rfl⟩⟩
  exact ⟨rfl, pw_below_drewN (Below.refl _ _) m⟩
theorem begins_c (x y : List B) (r : Bool) (hr : CmEval.begins x y = r) (n1 n2 : Nat) (A1 A2 : Option Addr) (c1 c2 : Nat) (hc1 : n1 ≤ c1) (hc2 : n2 ≤ c2) (W : World) (h1 : Kd.C (Kd.int .u8) W A1 n1 (ib x)) (h2 : Kd.C (Kd.int .u8) W A2 n2 (ib y)) :
    Calls Try.prog 48 #[.slice A1 n1 c1, .slice A2 n2 c2] W fun e w' => e = .returned (.bool r) ∧ Below W.heap.size W w' := by
  have e1 := h1.1
  have e2 := h2.1
  subst e1 e2
  refine (visorref11_Begins.calls A1 c1 (ib x) A2 c2 (ib y) r W h1 hc1 h2 hc2 (by rw [← hr]; exact CmEval.Begins_eq x y)).mono ?_
  rintro e w' ⟨rfl, ⟨m, rfl⟩⟩
  exact ⟨rfl, pw_below_drewN (Below.refl _ _) m⟩
/-- A message's tag: a row that was made behind the call's begin. -/
theorem sum_n (g bx : Nat) (ks : List (List B)) (n : Nat) (K : KN ks n) (m : List B) (L : Nat) (hL : L ≤ 140737488351232) (A : Option Addr) (c : Nat) (hc : L ≤ c) (W : World) (hF : On W bx A L m) (hX : Cph W g bx ks) : Calls Try.prog 40 #[.pointer (some ⟨g, 0, none⟩), .slice A L c] W fun e w' => ∃ N, e = .returned (.slice (some ⟨N, 0, none⟩) 16 16) ∧ W.heap.size ≤ N ∧ On w' bx (some ⟨N, 0, none⟩) 16 (cmacB (encB ks n) m) ∧ Cph w' g bx ks ∧ Ch bx W w' := by
  have e := hF.len
  subst e
  refine (sum_c g bx ks n K A c m hL hc W hF.off hX).mono ?_
  rintro e w' ⟨N, rfl, hN, hne, hM, hx, hch⟩
  exact ⟨N, rfl, hN, On.of_mem hM (cmacB_length _ _ (fun y => encB_length ks n y)) hne, hx, hch⟩
theorem masks_n (g bx : Nat) (ks : List (List B)) (n : Nat) (K : KN ks n) (W : World) (hX : Cph W g bx ks) : Calls Try.prog 38 #[.pointer (some ⟨g, 0, none⟩)] W fun e w' => ∃ A1 c1 A2 c2, e = .returned (.tuple #[.slice A1 16 c1, .slice A2 16 c2]) ∧ 16 ≤ c1 ∧ 16 ≤ c2 ∧ On w' bx A1 16 (mA ks n) ∧ On w' bx A2 16 (mB ks n) ∧ Cph w' g bx ks ∧ Ch bx W w' := by
  have hbx : bx < W.heap.size := hX.bound.2.2.2
  refine (masks_c g bx ks n K.len K.each K.few 17 (ib (mA ks n)) (ib (mB ks n)) KN.d1 KN.d2 (by rw [ib_length]; exact dblB_length _) W hX).mono ?_
  rintro e w' ⟨v1, v2, rfl, h1, h2, hx, hch⟩
  obtain ⟨A1, c1, rfl, hc1, hn1⟩ := row_new h1 (dblB_length _)
  obtain ⟨A2, c2, rfl, hc2, hn2⟩ := row_new h2 (dblB_length _)
  exact ⟨A1, c1, A2, c2, rfl, hc1, hc2, hn1.on hbx, hn2.on hbx, hx, hch⟩
theorem kn_of (key : List B) (hr : roundsN key.length ≠ 0) : ∃ n, KN (roundKeys key) n := by
  obtain ⟨n, h1, _, h3, h4⟩ := round_keys_len key hr
  exact ⟨n, ⟨h1, h4, h3⟩⟩
theorem kn_at {key : List B} {n m : Nat} (h : KN (roundKeys key) n) (hm : (roundKeys key).length = m + 2) : m = n := by have := h.len; omega
theorem new_n (key : List B) (hr : roundsN key.length ≠ 0) (L : Nat) (hL : key.length = L) (A : Option Addr) (c : Nat) (hc : L ≤ c) (W : World) (hC : Kd.C (Kd.int .u8) W A L (ib key)) : Calls Try.prog 30 #[.slice A L c] W fun e w' => ∃ g bx, e = .returned (.tuple #[.pointer (some ⟨g, 0, none⟩), .int .i64 0]) ∧ Cph w' g bx (roundKeys key) ∧ W.heap.size ≤ bx ∧ Below W.heap.size W w' := by
  subst hL
  refine (new_c key hr A c hc W hC).mono ?_
  rintro e w' ⟨g, bx, rfl, hx, _, hbx, hb⟩
  exact ⟨g, bx, rfl, hx, hbx, hb⟩
theorem cm_begins : CmEval.begins cm1C [187#8, 29#8, 105#8, 41#8] = true := by decide +kernel
theorem kn_cm : KN (roundKeys cmK) 9 := by
  obtain ⟨n, h⟩ := kn_of cmK (by decide)
  obtain rfl := kn_at (m := 9) h (by rw [roundKeys_length]; decide)
  exact h
theorem cm_nil : cmacB (encB (roundKeys cmK) 9) [] = cm1C := cm_mac
theorem mem_row4 {w : World} {g : Nat} {t : TypeId} {l : List Int} (h : Mem .u8 w g t l) (hl : l.length = 4) : Kd.C (Kd.int .u8) w (some ⟨g, 0, none⟩) 4 l := by
  have := mem_C h 4 (by omega) (by decide)
  rwa [show l.take 4 = l by rw [← hl]; exact List.take_length] at this
set_option maxHeartbeats 4000000 in
set_option maxRecDepth 100000 in
theorem cawake_c : GivesB 42 #[] (.bool true) := by
  intro w
  have HB := Aside0.mk (below_alloc (Below.refl w.heap.size w) (.cells (cellsOf .u8 (ib cmK)) 5))
  have M0 := Aside0.mk (mem_row16 (Mem.new .u8 w 5 (ib cmK)) rfl)
  have CN := Aside0.mk (fun A c (hc : 16 ≤ c) W h => new_n cmK (by decide) 16 rfl A c hc W h)
  have CS := Aside0.mk (fun g bx W (h : Cph W g bx (roundKeys cmK)) => sum_n g bx (roundKeys cmK) 9 kn_cm [] 0 (by decide) none 0 (Nat.le_refl _) W (On.nil W bx) h)
  rw [cm_nil] at CS
  have CB := Aside0.mk (fun A1 A2 c1 c2 (hc1 : 16 ≤ c1) (hc2 : 4 ≤ c2) W h1 h2 => begins_c cm1C [187#8, 29#8, 105#8, 41#8] true cm_begins 16 4 A1 A2 c1 c2 hc1 hc2 W h1 h2)
  have M4 := Aside0.mk (fun (W : World) => mem_row4 (Mem.new .u8 W 5 (ib [187#8, 29#8, 105#8, 41#8])) rfl)
  go_enter Try.func42, Try.ntmps42
  go_wp2_with (first
    | (go_at_call 30; go_loud ((refine (CN.out _ _ (by decide) _ M0.out).mono ?_); rintro e w1 ⟨g, bx, rfl, hx, hbx, hb⟩; have HX := Aside0.mk hx; have HBX := Aside0.mk (Nat.le_trans HB.out.size hbx); have HB := Aside0.mk (below_step HB.out hb); have HC := Aside0.mk (Ch.refl (g := bx) w1); clear hx hbx hb))
    | (go_at_call 40; (try (refine gate_guard (by rfl) ?_; dsimp only)); go_loud ((refine (CS.out _ _ _ HX.out).mono ?_); rintro e w2 ⟨N, rfl, hN, hF, hx, hc⟩; have HF := Aside0.mk (hF.below (below_alloc (Below.refl _ _) (.cells (cellsOf .u8 (ib [187#8, 29#8, 105#8, 41#8])) 5))); have HC := Aside0.mk (Ch.step hc (below_alloc (Below.refl _ _) (.cells (cellsOf .u8 (ib [187#8, 29#8, 105#8, 41#8])) 5))); clear hN hx hc hF))
    | (go_at_call 48; (try (refine gate_guard (by rfl) ?_; dsimp only)); go_loud ((refine (CB.out _ _ _ _ (by decide) (by decide) _ HF.out.C (M4.out _)).mono ?_); rintro e w3 ⟨rfl, hb⟩; have HC := Aside0.mk (Ch.step HC.out hb); clear hb)))
  go_ret
  exact ⟨rfl, HC.out.below HB.out HB.out.size HBX.out⟩
end Go.Proofs.Ytpdikfmdnlhllaa.Aes
namespace Go.Proofs.Ytpdikfmdnlhllaa.Aes
open Go.RowKit Go.Proofs.Ytpdikfmdnlhllaa.PNib Go.Proofs.YtpdikfmdnlhllaaW.PrintWords Go.Proofs.YtpdikfmdnlhllaaW.PrintLast Go.Proofs.YtpdikfmdnlhllaaW.PrintMore Byte Sl Arr Mem Gives ArrEq Mat AesMath AesMov AesLin HandKit Copy
set_option linter.unusedVariables false
set_option linter.unusedSimpArgs false
theorem over_all {xs ys : List Int} (h : xs.length = ys.length) : over xs ys = ys := by
  unfold over splice
  rw [List.take_zero, List.nil_append, Nat.zero_add, List.take_of_length_le (by omega), List.drop_eq_nil_of_le (by omega), List.append_nil]
/-- A row of bytes ahead of block lim that a cipher at its work does not touch. -/
abbrev OnL (W : World) (bx lim : Nat) (A : Option Addr) (n : Nat) (l : List B) : Prop := Kd.F (Kd.int .u8) W (fun k => k ≠ bx ∧ k < lim) A n (ib l)
section
variable {W W' : World} {bx lim b n : Nat} {A : Option Addr} {l : List B}
theorem On.bound (h : On W bx A n l) : OnL W bx W.heap.size A n l := Kd.F_bound h
theorem OnL.ch (h : OnL W bx lim A n l) (hc : Ch bx W W') : OnL W' bx lim A n l := Kd.F_grown h hc (fun k hk e => hk.1 (Option.some.inj e))
theorem OnL.below (h : OnL W bx lim A n l) (hb : Below W.heap.size W W') : OnL W' bx lim A n l := Kd.F_below h hb
theorem OnL.row (h : OnL W bx lim A n l) (hb : lim ≤ b) (cs : Array Value) : OnL (W.setRow b cs) bx lim A n l := Kd.F_grown h (grown_setRow W b cs) (fun k hk e => by have := hk.2; have := Option.some.inj e; omega)
theorem OnL.C (h : OnL W bx lim A n l) : Kd.C (Kd.int .u8) W A n (ib l) := Kd.F_now h
theorem OnL.cut {ad : Addr} {c m : Nat} (h : OnL W bx lim (some ad) n l) (hm : m < n) (hc : n ≤ c) : OnL W bx lim (some (ad.add m)) (n - m) (l.drop m) := by
  have e := Kd.F_len h
  subst e
  have := Kd.F_cut h (Nat.le_of_lt hm) hc
  rw [if_neg (by omega)] at this
  rw [show (Kd.int .u8).sz = 1 from rfl, Nat.mul_one] at this
  rw [List.length_drop] at this
  show Kd.F (Kd.int .u8) W (fun k => k ≠ bx ∧ k < lim) _ _ (ib (l.drop m))
  rw [ib_drop]
  exact this
theorem OnL.len (h : OnL W bx lim A n l) : l.length = n := by have := Kd.F_len h; rwa [ib_length] at this
theorem OnL.on (h : OnL W bx lim A n l) : On W bx A n l := Kd.F_mono h (fun k hk => hk.1)
end
set_option maxRecDepth 100000 in
theorem run_copy16 {w : World} {g : Nat} {t : TypeId} {l ys : List Int} {A : Option Addr} {m c : Nat} (dT ty elem : TypeId) (hu : Try.prog.underlying dT = some (.slice elem)) (hsz : (Try.prog.info? elem).map (·.size) = some 1) (M : Mem .u8 w g t l) (hl : l.length = 16) (HC : Kd.C (Kd.int .u8) w A m ys) (h0 : 0 < m) (hm : m ≤ 16) :
    (Builtin.copy_ #[dT, dT] ty #[.slice (some ⟨g, 0, none⟩) 16 16, .slice A m c]).run Try.prog w = .ok (goInt m) (w.setRow g (cellsOf .u8 (over l ys))) := by
  obtain ⟨ad, rfl, hc⟩ := HC.2.2 h0
  have hlen : ys.length = m := HC.1
  have hrun := run_copy_row (P := Try.prog) w dT dT ty elem g 0 16 16 ad m c (cellsOf .u8 l) t (ys.map (Value.int .u8)) hu hsz M (by rw [List.length_map, hlen]; exact (Nat.min_eq_left hm).symm) (fun j v hj => by
    rw [List.getElem?_map, Option.map_eq_some_iff] at hj
    obtain ⟨p, hp, rfl⟩ := hj
    obtain ⟨c', hl', hK, hcell⟩ := hc j p hp
    have hK' : c' = [.int .u8 p] := hK
    subst hK'
    have := hcell 0 _ rfl
    simpa [Kd.int, Kd.scalar] using this) (by rw [List.length_map, hlen, cellsOf_size, hl]; omega) (fun v hv => by
    obtain ⟨x, _, rfl⟩ := List.mem_map.1 hv
    rfl)
  rw [hrun, List.length_map, hlen]
  congr 1
  unfold cellsOf over splice
  simp only [List.toList_toArray, List.take_zero, List.nil_append, Nat.zero_add, List.length_map]
  rw [List.take_of_length_le (show ys.length ≤ l.length by omega), List.map_append, List.map_drop, hlen]
end Go.Proofs.Ytpdikfmdnlhllaa.Aes
namespace Go.Proofs.Ytpdikfmdnlhllaa.Aes
open Go.RowKit Go.Proofs.Ytpdikfmdnlhllaa.PNib Go.Proofs.YtpdikfmdnlhllaaW.PrintWords Go.Proofs.YtpdikfmdnlhllaaW.PrintLast Go.Proofs.YtpdikfmdnlhllaaW.PrintMore Byte Sl Arr Mem Gives ArrEq Mat AesMath AesMov AesLin HandKit Copy
set_option linter.unusedVariables false
set_option linter.unusedSimpArgs false
theorem list_copy16 {ops : Array Oper} {rest : List Oper} {o : Oper} {a : Act} {Q : Exit → Act → World → Prop} {w : World} {g : Nat} {t : TypeId} {l ys : List Int} {A : Option Addr} {m c : Nat} (hgd : o.guard = none) (d s : Operand) (dT : TypeId)
    (ho : o.op = .call { callee := .builtin .copy, args := #[d, s], argTypes := #[dT, dT] }) (elem : TypeId) (hu : Try.prog.underlying dT = some (.slice elem)) (hsz : (Try.prog.info? elem).map (·.size) = some 1)
    (hd : a.eval d = .slice (some ⟨g, 0, none⟩) 16 16) (hs : a.eval s = .slice A m c) (M : Mem .u8 w g t l) (hl : l.length = 16) (HC : Kd.C (Kd.int .u8) w A m ys) (h0 : 0 < m) (hm : m ≤ 16)
    (h : wpList Try.prog ops Q rest (a.put o.dst (goInt m)) (w.setRow g (cellsOf .u8 (over l ys)))) : wpList Try.prog ops Q (o :: rest) a w := by
  refine wpList_plain hgd fun K hK => ?_
  have hrun := run_copy16 (w := w) (c := c) dT o.type elem hu hsz M hl HC h0 hm
  unfold Oper.wp
  simp [execOp, ho, resolve, invoke, builtin, hd, hs, hrun, Result.andThen]
  exact hK _ _ h
theorem nr_mem {W : World} {b N : Nat} {t : TypeId} {l : List B} (h : Mem .u8 W N t (ib l)) (hl : l.length = 16) (hb : b ≤ N) : NR b W (some ⟨N, 0, none⟩) 16 l := by
  have hlt : N < W.heap.size := (Array.getElem?_eq_some_iff.1 h).1
  intro W' hW
  exact mem_row16 (show Mem .u8 W' N t (ib l) from (hW N hb hlt).trans h) (by rw [ib_length, hl])
theorem mem_row1 {w : World} {g : Nat} {t : TypeId} {l : List Int} (h : Mem .u8 w g t l) (hl : l.length = 1) : Kd.C (Kd.int .u8) w (some ⟨g, 0, none⟩) 1 l := by
  have := mem_C h 1 (by omega) (by decide)
  rwa [show l.take 1 = l by rw [← hl]; exact List.take_length] at this
set_option maxHeartbeats 4000000 in
set_option maxRecDepth 100000 in
theorem rblk_c (key : List B) (Lk : Nat) (hLk : key.length = Lk) (hr : roundsN key.length ≠ 0) (n : Nat) (K : KN (roundKeys key) n) (A : Option Addr) (c : Nat) (hc : Lk ≤ c) (b : List B) (hb : b.length = 16) (A2 : Option Addr) (c2 : Nat) (w : World) (hC : Kd.C (Kd.int .u8) w A Lk (ib key)) (hC2 : Kd.C (Kd.int .u8) w A2 16 (ib b)) : Calls Try.prog 84 #[.slice A Lk c, .slice A2 16 c2] w fun e w' => ∃ N, e = .returned (.slice (some ⟨N, 0, none⟩) 16 16) ∧ w.heap.size ≤ N ∧ Mem .u8 w' N 31 (ib (encB (roundKeys key) n b)) ∧ Below w.heap.size w w' := by
  subst hLk
  have CR := Aside0.mk (fun W (h : Kd.C (Kd.int .u8) W A key.length (ib key)) => rblock_c key b hb hr n K.len K.each K.few A c hc W h)
  have HC := Aside0.mk hC
  have E16 := Aside0.mk (show (ib (encB (roundKeys key) n b)).length = 16 by rw [ib_length]; exact encB_length _ _ _)
  generalize encB (roundKeys key) n b = eb at *
  have B16 := Aside0.mk (show (ib b).length = 16 by rw [ib_length]; exact hb)
  have M5 := Aside0.mk (Mem.new .u8 w 31 z16)
  have HB := Aside0.mk (below_alloc (Below.refl w.heap.size w) (.cells (cellsOf .u8 z16) 31))
  have HC2 := Aside0.mk hC2
  clear hC2
  clear hC
  go_enter Try.func84, Try.ntmps84
  go_upto_region 2 with (first
    | ((with_reducible refine gate_dst (N := 6) rfl ?_); refine wpList_build_zero rfl 31 rfl (cellsOf .u8 z16) built16 ?_)
    | ((with_reducible refine gate_store (t := 31) (p := 5) rfl ?_); refine Mem.store (l' := z16) M5.out rfl 31 (.tmp 5) (.tmp 6) rfl rfl rfl (by first | exact info16 | (rw [z16_length]; exact info16)) (by first | rfl | (rw [z16_length]; rfl) | rw [z16_length, z16_length]) ?_))
  generalize hw1 : World.setRow (World.alloc w _) _ _ = w1
  have M5 := Aside0.mk (show Mem .u8 w1 w.heap.size 31 z16 by rw [← hw1]; exact Mem.put M5.out z16)
  have HB := Aside0.mk (show Below w.heap.size w w1 by rw [← hw1]; exact below_setRow HB.out (Nat.le_refl _) _)
  clear hw1
  go_upto_region 3 with (first
    | ((with_reducible refine gate_builtin (b := .copy) (xs := #[.tmp 7, .tmp 8]) rfl ?_); go_loud (refine list_copy16 rfl (.tmp 7) (.tmp 8) 22 (by rfl) 5 Try.underlying22 size_u8 (by rfl) (by rfl) M5.out z16_length (Kd.C_below HC2.out HB.out) (by decide) (by decide) ?_)))
  rw [show over z16 (ib b) = ib b from over_all (by rw [B16.out]; rfl)]
  generalize hw2 : World.setRow w1 _ _ = w2
  have M5 := Aside0.mk (show Mem .u8 w2 w.heap.size 31 (ib b) by rw [← hw2]; exact Mem.put M5.out (ib b))
  have HB := Aside0.mk (show Below w.heap.size w w2 by rw [← hw2]; exact below_setRow HB.out (Nat.le_refl _) _)
  clear hw2
  go_wp2_with (first
    | ((with_reducible refine gate_dst (N := 11) rfl ?_); refine Mem.load M5.out rfl 31 (.tmp 5) rfl rfl Try.underlying31 (by rw [B16.out]; exact info16) ?_)
    | (go_at_call 34; go_loud ((refine (CR.out _ (Kd.C_below HC.out HB.out)).mono ?_); rintro e w3 ⟨rfl, hb⟩; have M5 := Aside0.mk (Mem.below M5.out hb); have HB := Aside0.mk (below_step HB.out hb); clear hb))
    | ((with_reducible refine gate_store (t := 31) (p := 5) rfl ?_); refine Mem.store (l' := ib eb) M5.out rfl 31 (.tmp 5) (.tmp 12) rfl rfl rfl (by first | exact info16 | (rw [E16.out]; exact info16)) (by first | rfl | (rw [E16.out]; rfl) | rw [B16.out, E16.out]) ?_))
  go_ret
  exact ⟨_, rfl, Nat.le_refl _, Mem.put M5.out (ib eb), below_setRow HB.out (Nat.le_refl _) _⟩
set_option maxHeartbeats 4000000 in
set_option maxRecDepth 100000 in
theorem rblk_nil (key : List B) (Lk : Nat) (hLk : key.length = Lk) (hr : roundsN key.length ≠ 0) (n : Nat) (K : KN (roundKeys key) n) (A : Option Addr) (c : Nat) (hc : Lk ≤ c)  (w : World) (hC : Kd.C (Kd.int .u8) w A Lk (ib key))  : Calls Try.prog 84 #[.slice A Lk c, .slice none 0 0] w fun e w' => ∃ N, e = .returned (.slice (some ⟨N, 0, none⟩) 16 16) ∧ w.heap.size ≤ N ∧ Mem .u8 w' N 31 (ib (encB (roundKeys key) n zB)) ∧ Below w.heap.size w w' := by
  subst hLk
  have CR := Aside0.mk (fun W (h : Kd.C (Kd.int .u8) W A key.length (ib key)) => rblock_c key zB zB_length hr n K.len K.each K.few A c hc W h)
  have HC := Aside0.mk hC
  have E16 := Aside0.mk (show (ib (encB (roundKeys key) n zB)).length = 16 by rw [ib_length]; exact encB_length _ _ _)
  generalize encB (roundKeys key) n zB = eb at *
  have B16 := Aside0.mk (show (ib zB).length = 16 by rw [ib_length]; exact zB_length)
  have M5 := Aside0.mk (Mem.new .u8 w 31 z16)
  have HB := Aside0.mk (below_alloc (Below.refl w.heap.size w) (.cells (cellsOf .u8 z16) 31))
  clear hC
  go_enter Try.func84, Try.ntmps84
  go_upto_region 2 with (first
    | ((with_reducible refine gate_dst (N := 6) rfl ?_); refine wpList_build_zero rfl 31 rfl (cellsOf .u8 z16) built16 ?_)
    | ((with_reducible refine gate_store (t := 31) (p := 5) rfl ?_); refine Mem.store (l' := z16) M5.out rfl 31 (.tmp 5) (.tmp 6) rfl rfl rfl (by first | exact info16 | (rw [z16_length]; exact info16)) (by first | rfl | (rw [z16_length]; rfl) | rw [z16_length, z16_length]) ?_))
  generalize hw1 : World.setRow (World.alloc w _) _ _ = w1
  have M5 := Aside0.mk (show Mem .u8 w1 w.heap.size 31 z16 by rw [← hw1]; exact Mem.put M5.out z16)
  have HB := Aside0.mk (show Below w.heap.size w w1 by rw [← hw1]; exact below_setRow HB.out (Nat.le_refl _) _)
  clear hw1
  go_upto_region 3 with (first
    | ((with_reducible refine gate_builtin (b := .copy) (xs := #[.tmp 7, .tmp 8]) rfl ?_); go_loud (refine wpList_copy_nothing rfl (.tmp 7) (.tmp 8) 22 22 (by rfl) 5 Try.underlying22 size_u8 _ _ _ _ _ _ (by rfl) (by rfl) (by rfl) ?_)))
  have M5 := Aside0.mk (show Mem .u8 w1 w.heap.size 31 (ib zB) by rw [ib_zB]; exact M5.out)
  go_wp2_with (first
    | ((with_reducible refine gate_dst (N := 11) rfl ?_); refine Mem.load M5.out rfl 31 (.tmp 5) rfl rfl Try.underlying31 (by rw [B16.out]; exact info16) ?_)
    | (go_at_call 34; go_loud ((refine (CR.out _ (Kd.C_below HC.out HB.out)).mono ?_); rintro e w3 ⟨rfl, hb⟩; have M5 := Aside0.mk (Mem.below M5.out hb); have HB := Aside0.mk (below_step HB.out hb); clear hb))
    | ((with_reducible refine gate_store (t := 31) (p := 5) rfl ?_); refine Mem.store (l' := ib eb) M5.out rfl 31 (.tmp 5) (.tmp 12) rfl rfl rfl (by first | exact info16 | (rw [E16.out]; exact info16)) (by first | rfl | (rw [E16.out]; rfl) | rw [B16.out, E16.out]) ?_))
  go_ret
  exact ⟨_, rfl, Nat.le_refl _, Mem.put M5.out (ib eb), below_setRow HB.out (Nat.le_refl _) _⟩
theorem rdbl_c (x : List B) (hx : x.length = 16) (A : Option Addr) (c : Nat) (hc : 16 ≤ c) (W : World) (h : Kd.C (Kd.int .u8) W A 16 (ib x)) : Calls Try.prog 83 #[.slice A 16 c] W fun e w' => ∃ A2 c2, e = .returned (.slice A2 16 c2) ∧ 16 ≤ c2 ∧ NR W.heap.size w' A2 16 (dblB x) ∧ Below W.heap.size W w' := by
  have hl : (ib x).length = 16 := by rw [ib_length, hx]
  have := visorref01_Double.calls 17 A c (ib x) (ib (dblB x)) W (by rw [hl]; exact h) (by rw [hl]; exact hc) (by rw [CmEval.RDouble_eq _ (bytes_ib x) 17 (Nat.le_refl _), if_pos hl, ib_dblB])
  rw [hl] at this
  refine this.mono ?_
  rintro e w' ⟨v, rfl, hv, hb⟩
  obtain ⟨A2, c2, rfl, hc2, hn⟩ := row_new hv (dblB_length x)
  exact ⟨A2, c2, rfl, hc2, hn, hb⟩
set_option maxHeartbeats 4000000 in
set_option maxRecDepth 100000 in
theorem rmasks_c (key : List B) (Lk : Nat) (hLk : key.length = Lk) (hr : roundsN key.length ≠ 0) (n : Nat) (K : KN (roundKeys key) n) (A : Option Addr) (c : Nat) (hc : Lk ≤ c) (w : World) (hC : Kd.C (Kd.int .u8) w A Lk (ib key)) : Calls Try.prog 43 #[.slice A Lk c] w fun e w' => ∃ A1 c1 A2 c2, e = .returned (.tuple #[.slice A1 16 c1, .slice A2 16 c2]) ∧ 16 ≤ c1 ∧ 16 ≤ c2 ∧ NR w.heap.size w' A1 16 (mA (roundKeys key) n) ∧ NR w.heap.size w' A2 16 (mB (roundKeys key) n) ∧ Below w.heap.size w w' := by
  have CB := Aside0.mk (fun W h => rblk_nil key Lk hLk hr n K A c hc W h)
  have E16 := Aside0.mk (encB_length (roundKeys key) n zB)
  have HC := Aside0.mk hC
  have CD1 := Aside0.mk (rdbl_c (encB (roundKeys key) n zB) E16.out)
  have CD2 := Aside0.mk (rdbl_c (mA (roundKeys key) n) (dblB_length _))
  rw [show dblB (encB (roundKeys key) n zB) = mA (roundKeys key) n from rfl] at CD1
  rw [show dblB (mA (roundKeys key) n) = mB (roundKeys key) n from rfl] at CD2
  have HB := Aside0.mk (Below.refl w.heap.size w)
  have EI := Aside0.mk (show (ib (encB (roundKeys key) n zB)).length = 16 by rw [ib_length]; exact E16.out)
  generalize mB (roundKeys key) n = mb at *
  generalize mA (roundKeys key) n = ma at *
  generalize encB (roundKeys key) n zB = e0 at *
  clear hC K hr hLk hc
  go_enter Try.func43, Try.ntmps43
  go_wp2_with (first
    | (go_at_call 84; go_loud ((refine (CB.out _ HC.out).mono ?_); rintro e w1 ⟨N, rfl, hN, hM, hb⟩; have M1 := Aside0.mk (mem_row16 hM EI.out); have HB := Aside0.mk hb; clear hM hb hN))
    | (go_at_call 83; go_loud (first | ((refine (CD1.out _ _ (by decide) _ M1.out).mono ?_); rintro e w2 ⟨A1, c1, rfl, hc1, hn1, hb⟩; have HN1 := Aside0.mk (hn1.low HB.out.size); have HC1 := Aside0.mk hc1; have HB := Aside0.mk (below_step HB.out hb); clear hn1 hb M1 hc1) | ((refine (CD2.out _ _ HC1.out _ HN1.out.C).mono ?_); rintro e w3 ⟨A2, c2, rfl, hc2, hn2, hb⟩; have HN2 := Aside0.mk (hn2.low HB.out.size); have HN1 := Aside0.mk (HN1.out.below hb); have HC2 := Aside0.mk hc2; have HB := Aside0.mk (below_step HB.out hb); clear hn2 hb hc2))))
  go_ret2
  exact ⟨_, _, _, _, rfl, HC1.out, HC2.out, HN1.out, HN2.out, HB.out⟩
set_option maxHeartbeats 4000000 in
set_option maxRecDepth 100000 in
theorem rsum_c (key : List B) (Lk : Nat) (hLk : key.length = Lk) (hr : roundsN key.length ≠ 0) (n : Nat) (K : KN (roundKeys key) n) (A : Option Addr) (c : Nat) (hc : Lk ≤ c) (m : List B) (Lm : Nat) (hLm : m.length = Lm) (hml : Lm ≤ 140737488351232) (A2 : Option Addr) (c2 : Nat) (hc2 : Lm ≤ c2) (w : World) (hC : Kd.C (Kd.int .u8) w A Lk (ib key)) (hC2 : Kd.C (Kd.int .u8) w A2 Lm (ib m)) : Calls Try.prog 44 #[.slice A Lk c, .slice A2 Lm c2] w fun e w' => ∃ N, e = .returned (.slice (some ⟨N, 0, none⟩) 16 16) ∧ NR w.heap.size w' (some ⟨N, 0, none⟩) 16 (cmacB (encB (roundKeys key) n) m) ∧ Below w.heap.size w w' := by
  subst hLm
  have CM := Aside0.mk (fun W h => rmasks_c key Lk hLk hr n K A c hc W h)
  have CB := Aside0.mk (fun (b : List B) (hb : b.length = 16) (A2 : Option Addr) (c2 : Nat) W h h2 => rblk_c key Lk hLk hr n K A c hc b hb A2 c2 W h h2)
  have HE := Aside0.mk (fun y => encB_length (roundKeys key) n y)
  have HST := Aside0.mk (macB_step (encB (roundKeys key) n) (mA (roundKeys key) n) (mB (roundKeys key) n))
  have HEN := Aside0.mk (macB_end (encB (roundKeys key) n) (mA (roundKeys key) n) (mB (roundKeys key) n))
  have HA16 := Aside0.mk (show (mA (roundKeys key) n).length = 16 from dblB_length _)
  have HB16 := Aside0.mk (show (mB (roundKeys key) n).length = 16 from dblB_length _)
  obtain ⟨R, hR⟩ : ∃ z, z = cmacB (encB (roundKeys key) n) m := ⟨_, rfl⟩
  have HR := Aside0.mk (show macB (encB (roundKeys key) n) (mA (roundKeys key) n) (mB (roundKeys key) n) zB m = R by rw [hR]; rfl)
  rw [← hR]
  clear hR K
  generalize mA (roundKeys key) n = ma at *
  generalize mB (roundKeys key) n = mb at *
  generalize encB (roundKeys key) n = E at *
  have HK := Aside0.mk hC
  have HM := Aside0.mk hC2
  have HB := Aside0.mk (Below.refl w.heap.size w)
  have HML := Aside0.mk (And.intro hml hc2)
  have hmk : ∀ W : World, (Instr.makeSlice 22 (.int .i64 16) (.int .i64 16)).run Try.prog W = .ok (.slice (some ⟨W.heap.size, 0, none⟩) 16 16) (W.alloc (.cells (cellsOf .u8 z16) 5)) := fun W => by
    have h := print_make (P := Try.prog) 22 5 .u8 1 Try.underlying22 info_u8 (by decide) 16 (by decide) W
    rw [show madeCells #[Value.int .u8 0] 16 = cellsOf .u8 z16 by kernel_rfl] at h
    exact h
  clear hC hC2 hr hLk hc hml hc2
  go_enter Try.func44, Try.ntmps44
  go_upto_region 2 with (first
    | (go_at_call 43; go_loud ((refine (CM.out _ HK.out).mono ?_); rintro e w1 ⟨Aa, ca, Ab, cb, rfl, hca, hcb, hna, hnb, hb⟩; have HA := Aside0.mk hna.C; have HBm := Aside0.mk hnb.C; have HCA := Aside0.mk (And.intro hca hcb); have HK := Aside0.mk (Kd.C_below HK.out hb); have HM := Aside0.mk (Kd.C_below HM.out hb); have HB := Aside0.mk hb; clear hna hnb hb hca hcb)))
  have HZ := Aside0.mk (show Kd.C (Kd.int .u8) _ (some ⟨w1.heap.size, 0, none⟩) 16 (ib zB) by rw [ib_zB]; exact mem_row16 (Mem.new .u8 w1 5 z16) rfl)
  have hb2 := below_alloc (Below.refl w1.heap.size w1) (.cells (cellsOf .u8 z16) 5)
  have HA := Aside0.mk (Kd.C_below HA.out hb2)
  have HBm := Aside0.mk (Kd.C_below HBm.out hb2)
  have HK := Aside0.mk (Kd.C_below HK.out hb2)
  have HM := Aside0.mk (Kd.C_below HM.out hb2)
  have HB := Aside0.mk (below_step HB.out hb2)
  clear hb2
  go_wp2
  clear hmk CM
  go_loopg [1, 7] ((m.length - 1) / 16) (fun kq mv xv w' => ∃ (x l : List B) (A0 : Option Addr) (c0 : Nat) (A1 : Option Addr) (d : Nat), mv = .slice A0 l.length c0 ∧ xv = .slice A1 16 d ∧ Aside0 (x.length = 16 ∧ l.length ≤ 16 * (kq + 1) ∧ (0 < kq → 16 * kq < l.length) ∧ l.length ≤ 140737488351232 ∧ l.length ≤ c0 ∧ 16 ≤ d) ∧ Aside0 (macB E ma mb x l = R) ∧ Aside0 (Kd.C (Kd.int .u8) w' A0 l.length (ib l)) ∧ Aside0 (Kd.C (Kd.int .u8) w' A1 16 (ib x)) ∧ Aside0 (Kd.C (Kd.int .u8) w' A Lk (ib key)) ∧ Aside0 (Kd.C (Kd.int .u8) w' Aa 16 (ib ma)) ∧ Aside0 (Kd.C (Kd.int .u8) w' Ab 16 (ib mb)) ∧ Aside0 (Below w.heap.size w w'))
  case atStart => exact ⟨zB, m, A2, c2, _, 16, rfl, rfl, ⟨⟨rfl, by omega, fun _ => by omega, HML.out.1, HML.out.2, by decide⟩⟩, HR, HM, HZ, HK, HA, HBm, HB⟩
  case round =>
    clear HR HM HZ HK HA HBm HB HML
    obtain ⟨x, l, A1, c1, A3, d, rfl, rfl, HN, HR, HM, HX, HK, HA, HBm, HB⟩ := hrel
    cases gk with
    | zero =>
      obtain ⟨hnl, hl16⟩ := sumZ l.length HN.out.2.1
      have HRV := Aside0.mk (show R = E (zipX x (lastX ma mb l)) from HR.out.symm.trans (HEN.out x l hl16))
      obtain ⟨wz, rfl⟩ : ∃ z, z = wr := ⟨_, rfl⟩
      have hbw : w.heap.size ≤ wz.heap.size := HB.out.size
      have HBW := Aside0.mk hbw
      have HBQ := Aside0.mk (Below.refl wz.heap.size wz)
      have LIM1 := Aside0.mk (show ((ib ([] : List B)).length + l.length) * 1 ≤ 140737488355328 by have := HN.out.2.2.2.1; simp only [ib_nil, List.length_nil]; omega)
      clear hbw
      go_upto_region 7 with (first
        | ((with_reducible refine gate_dst (N := 26) rfl ?_); go_loud (refine Kd.R_lit (Kd.int .u8) wz.heap.size 5 ?hg (N := 26) ?hd (w0 := wz) (xs := ([] : List Int)) (inner := []) (ok := fun k => wz.heap.size ≤ k) (okp := fun _ => False) ?hr ?hp (fun _ hk => hk.elim) HBQ.out.size HBQ.out HBQ.out.size (by simp) ?_; (case hd => rfl); (case hg => rfl); (case hr => first | (go_simp; done) | (go_simp; rfl)); (case hp => exact (Reps.none _ _)); intro v5 w5 ho4 hb hg_ hnew_; have HBQ := Aside0.mk hb; have HO := Aside0.mk (show Kd.R (Kd.int .u8) 5 w5 wz.heap.size (fun k => wz.heap.size ≤ k) v5 (ib []) from ho4); clear hb ho4 hg_ hnew_))
        | ((with_reducible refine gate_builtin (b := .append) (xs := #[.tmp 26, .tmp 27]) rfl ?_); go_loud (refine Kd.R_append_rows (Kd.int .u8) (w0 := wz) wz.heap.size rfl (.tmp 26) (.tmp 27) 22 5 (.int .u8 0) 1 rfl Try.underlying22 info_u8 rfl (by decide) (by decide) _ (ib []) (ib l) A1 l.length c1 (fun k => wz.heap.size ≤ k) (fun _ => False) rfl rfl HO.out ((Kd.C_below HM.out HBQ.out)) (fun _ _ h => h) (fun _ h => h.elim) (fun k hk => Nat.le_trans HBQ.out.size hk) HBQ.out HBQ.out.size ?aL ?_; (case aL => exact LIM1.out); intro v6 w6 ho hb hg hat; have HBQ := Aside0.mk hb; have HO := Aside0.mk (show Kd.R (Kd.int .u8) 5 w6 wz.heap.size (fun k => wz.heap.size ≤ k) v6 (ib ([] ++ l)) by rw [ib_append]; exact ho); clear ho hb hg hat)))
      clear LIM1
      rw [List.nil_append] at HO
      obtain ⟨A8, c8, rfl, hc8, hn8⟩ := row_new HO.out rfl
      by_cases h16 : l.length = 16
      · have t1 : ((l.length : Int) == 16) = true := by rw [beq_iff_eq]; omega
        have H8 := Aside0.mk hn8.C
        have HC8 := Aside0.mk hc8
        rw [h16] at H8 HC8 t1 ⊢
        have hbq_ := HBQ.out
        have HX := Aside0.mk (Kd.C_below HX.out hbq_)
        have HA := Aside0.mk (Kd.C_below HA.out hbq_)
        have HK := Aside0.mk (Kd.C_below HK.out hbq_)
        have HB := Aside0.mk (below_step HB.out hbq_)
        have H16 := Aside0.mk h16
        have HRV := Aside0.mk (show R = E (zipX (zipX x l) ma) by rw [HRV.out, lastX, if_pos h16, zipX_assoc])
        have HXL := Aside0.mk (zipX_16 HN.out.1 h16)
        have HXXL := Aside0.mk (zipX_16 (zipX_16 HN.out.1 h16) HA16.out)
        have CX1 := Aside0.mk (fun (A1 A2 : Option Addr) (c1 c2 : Nat) (hc1 : 16 ≤ c1) (hc2 : 16 ≤ c2) W h1 h2 => rxor_c x l 16 16 16 HN.out.1 h16 HXL.out (by decide) A1 A2 c1 c2 hc1 hc2 W h1 h2)
        have CX2 := Aside0.mk (fun (A1 A2 : Option Addr) (c1 c2 : Nat) (hc1 : 16 ≤ c1) (hc2 : 16 ≤ c2) W h1 h2 => rxor_c (zipX x l) ma 16 16 16 HXL.out HA16.out HXXL.out (by decide) A1 A2 c1 c2 hc1 hc2 W h1 h2)
        have CB3 := Aside0.mk (CB.out (zipX (zipX x l) ma) HXXL.out)
        clear h16 hc8 hn8 hbq_ HBQ HO CB HST HEN
        go_wp2_with (first
          | (go_at_call 39; go_loud (first | ((refine (CX1.out _ _ _ _ HN.out.2.2.2.2.2 HC8.out _ HX.out H8.out).mono ?_); rintro e w4 ⟨A9, c9, rfl, hc9, hn9, hb⟩; have H9 := Aside0.mk hn9.C; have HC9 := Aside0.mk hc9; have HA := Aside0.mk (Kd.C_below HA.out hb); have HK := Aside0.mk (Kd.C_below HK.out hb); have HB := Aside0.mk (below_step HB.out hb); clear H8 hb hc9 hn9) | ((refine (CX2.out _ _ _ _ HC9.out HCA.out.1 _ H9.out HA.out).mono ?_); rintro e w5 ⟨A10, c10, rfl, hc10, hn10, hb⟩; have H10 := Aside0.mk hn10.C; have HK := Aside0.mk (Kd.C_below HK.out hb); have HB := Aside0.mk (below_step HB.out hb); clear hb hn10)))
          | (go_at_call 84; go_loud ((refine (CB3.out _ _ _ HK.out H10.out).mono ?_); rintro e w6 ⟨N, rfl, hN, hM, hb⟩; have HR6 := Aside0.mk (And.intro (Nat.le_trans HB.out.size hN) hM); have HB := Aside0.mk (below_step HB.out hb); clear hN hM hb)))
        go_ret
        exact ⟨_, rfl, by rw [HRV.out]; exact nr_mem HR6.out.2 (HE.out _) HR6.out.1, HB.out⟩
      · have t1 : ((l.length : Int) == 16) = false := by rw [beq_eq_false_iff_ne]; omega
        have t2 : ((l.length : Int) = 16) = False := by apply eq_false; omega
        have HLT := Aside0.mk (show l.length < 16 by omega)
        have HXP := Aside0.mk (zipX_16 HN.out.1 (padB_length (show l.length < 16 from HLT.out)))
        have HXXP := Aside0.mk (zipX_16 HXP.out HB16.out)
        have HRV := Aside0.mk (show R = E (zipX (zipX x (padB l)) mb) by rw [HRV.out, lastX, if_neg h16, zipX_assoc])
        have CX1 := Aside0.mk (fun (A1 A2 : Option Addr) (c1 c2 : Nat) (hc1 : 16 ≤ c1) (hc2 : 16 ≤ c2) W h1 h2 => rxor_c x (padB l) 16 16 16 HN.out.1 (padB_length (show l.length < 16 from HLT.out)) HXP.out (by decide) A1 A2 c1 c2 hc1 hc2 W h1 h2)
        have CX2 := Aside0.mk (fun (A1 A2 : Option Addr) (c1 c2 : Nat) (hc1 : 16 ≤ c1) (hc2 : 16 ≤ c2) W h1 h2 => rxor_c (zipX x (padB l)) mb 16 16 16 HXP.out HB16.out HXXP.out (by decide) A1 A2 c1 c2 hc1 hc2 W h1 h2)
        have CB3 := Aside0.mk (CB.out (zipX (zipX x (padB l)) mb) HXXP.out)
        have S128 := Aside0.mk (mem_row1 (Mem.new .u8 w6 5 (ib [128#8])) rfl)
        have HO := Aside0.mk (Kd.R_alloc HO.out (.cells (cellsOf .u8 (ib [128#8])) 5))
        have HBQ := Aside0.mk (below_alloc HBQ.out (.cells (cellsOf .u8 (ib [128#8])) 5))
        have LIM2 := Aside0.mk (show ((ib l).length + 1) * 1 ≤ 140737488355328 by rw [ib_length]; have := HLT.out; omega)
        have HPE := Aside0.mk (show l ++ [128#8] ++ List.replicate (15 - l.length) 0#8 = padB l by rw [List.append_assoc]; rfl)
        clear h16 hc8 hn8 CB HST HEN
        go_wp2_with (first
          | ((with_reducible refine gate_builtin (b := .append) (xs := #[.tmp 39, .tmp 40]) rfl ?_); go_loud (refine Kd.R_append_rows (Kd.int .u8) (w0 := wz) wz.heap.size rfl (.tmp 39) (.tmp 40) 22 5 (.int .u8 0) 1 rfl Try.underlying22 info_u8 rfl (by decide) (by decide) _ (ib l) (ib [128#8]) (some ⟨w6.heap.size, 0, none⟩) 1 1 (fun k => wz.heap.size ≤ k) (fun _ => False) rfl rfl HO.out (S128.out) (fun _ _ h => h) (fun _ h => h.elim) (fun k hk => Nat.le_trans HBQ.out.size hk) HBQ.out HBQ.out.size ?aL ?_; (case aL => exact LIM2.out); intro v6 w6 ho hb hg hat; have HBQ := Aside0.mk hb; have HO := Aside0.mk (show Kd.R (Kd.int .u8) 5 w6 wz.heap.size (fun k => wz.heap.size ≤ k) v6 (ib (l ++ [128#8])) by rw [ib_append]; exact ho); clear ho hb hg hat)))
        clear LIM2 S128
        go_loopg [8] (15 - l.length) (fun kq v w' => ∃ j : Nat, j + kq = 15 - l.length ∧ Aside0 (Kd.R (Kd.int .u8) 5 w' wz.heap.size (fun k => wz.heap.size ≤ k) v (ib (l ++ [128#8] ++ List.replicate j 0#8))) ∧ Aside0 (Below wz.heap.size wz w'))
        case atStart => exact ⟨0, by omega, by rw [List.replicate_zero, List.append_nil]; exact HO, HBQ⟩
        case round =>
          clear HO HBQ
          obtain ⟨j, hj, HO, HBQ⟩ := hrel
          obtain ⟨p, hp⟩ : ∃ p, p = l.length + 1 + j := ⟨_, rfl⟩
          have HPL := Aside0.mk (show (l ++ [128#8] ++ List.replicate j 0#8).length = p by rw [hp, List.length_append, List.length_append, List.length_replicate]; rfl)
          obtain ⟨A8, c8, rfl, hc8, hn8⟩ := row_new HO.out HPL.out
          cases gk with
          | zero =>
            have HLT2 := HLT.out
            obtain rfl : j = 15 - l.length := by omega
            have t3 : ¬ (p : Int) < 16 := by omega
            obtain rfl : p = 16 := by omega
            have H8 := Aside0.mk (show Kd.C (Kd.int .u8) wr A8 16 (ib (padB l)) by rw [← HPE.out]; exact hn8.C)
            have HC8 := Aside0.mk hc8
            have hbq_ := HBQ.out
            have HX := Aside0.mk (Kd.C_below HX.out hbq_)
            have HBm := Aside0.mk (Kd.C_below HBm.out hbq_)
            have HK := Aside0.mk (Kd.C_below HK.out hbq_)
            have HB := Aside0.mk (below_step HB.out hbq_)
            clear hbq_ HBQ HO hc8 hn8 hj hp HPL HLT2
            go_wp2_with (first
              | (go_at_call 39; go_loud (first | ((refine (CX1.out _ _ _ _ HN.out.2.2.2.2.2 HC8.out _ HX.out H8.out).mono ?_); rintro e w4 ⟨A9, c9, rfl, hc9, hn9, hb⟩; have H9 := Aside0.mk hn9.C; have HC9 := Aside0.mk hc9; have HBm := Aside0.mk (Kd.C_below HBm.out hb); have HK := Aside0.mk (Kd.C_below HK.out hb); have HB := Aside0.mk (below_step HB.out hb); clear H8 hb hc9 hn9) | ((refine (CX2.out _ _ _ _ HC9.out HCA.out.2 _ H9.out HBm.out).mono ?_); rintro e w5 ⟨A10, c10, rfl, hc10, hn10, hb⟩; have H10 := Aside0.mk hn10.C; have HK := Aside0.mk (Kd.C_below HK.out hb); have HB := Aside0.mk (below_step HB.out hb); clear hb hn10)))
              | (go_at_call 84; go_loud ((refine (CB3.out _ _ _ HK.out H10.out).mono ?_); rintro e w6 ⟨N, rfl, hN, hM, hb⟩; have HR6 := Aside0.mk (And.intro (Nat.le_trans HB.out.size hN) hM); have HB := Aside0.mk (below_step HB.out hb); clear hN hM hb)))
            go_ret
            exact ⟨_, rfl, by rw [HRV.out]; exact nr_mem HR6.out.2 (HE.out _) HR6.out.1, HB.out⟩
          | succ k2 =>
            have HLT2 := HLT.out
            have t3 : (p : Int) < 16 := by omega
            have HJ := Aside0.mk (show j + 1 + k2 = 15 - l.length by omega)
            have S0 := Aside0.mk (mem_row1 (Mem.new .u8 wr 5 (ib [0#8])) rfl)
            have HO := Aside0.mk (Kd.R_alloc HO.out (.cells (cellsOf .u8 (ib [0#8])) 5))
            have HBQ := Aside0.mk (below_alloc HBQ.out (.cells (cellsOf .u8 (ib [0#8])) 5))
            have LIM3 := Aside0.mk (show ((ib (l ++ [128#8] ++ List.replicate j 0#8)).length + 1) * 1 ≤ 140737488355328 by rw [ib_length, HPL.out]; omega)
            clear hc8 hn8 hj hp HLT2
            go_wp2_with (first
              | ((with_reducible refine gate_builtin (b := .append) (xs := #[.tmp 45, .tmp 46]) rfl ?_); go_loud (refine Kd.R_append_rows (Kd.int .u8) (w0 := wz) wz.heap.size rfl (.tmp 45) (.tmp 46) 22 5 (.int .u8 0) 1 rfl Try.underlying22 info_u8 rfl (by decide) (by decide) _ (ib (l ++ [128#8] ++ List.replicate j 0#8)) (ib [0#8]) (some ⟨wr.heap.size, 0, none⟩) 1 1 (fun k => wz.heap.size ≤ k) (fun _ => False) rfl rfl HO.out (S0.out) (fun _ _ h => h) (fun _ h => h.elim) (fun k hk => Nat.le_trans HBQ.out.size hk) HBQ.out HBQ.out.size ?aL ?_; (case aL => exact LIM3.out); intro v6 w6 ho hb hg hat; have HBQ := Aside0.mk hb; have HO := Aside0.mk (show Kd.R (Kd.int .u8) 5 w6 wz.heap.size (fun k => wz.heap.size ≤ k) v6 (ib ((l ++ [128#8] ++ List.replicate j 0#8) ++ [0#8])) by rw [ib_append]; exact ho); clear ho hb hg hat)))
            go_roundg k2
            case measure => omega
            case rel => exact ⟨j + 1, HJ.out, ⟨by rw [List.replicate_succ', ← List.append_assoc]; exact HO.out⟩, HBQ⟩
    | succ k1 =>
      obtain ⟨h1, h2, h3, h4, h5, h6, h7, h8, h9, h10, h11, h12⟩ := sumN k1 l.length c1 HN.out.2.1 HN.out.2.2.1 HN.out.2.2.2.2.1 HN.out.2.2.2.1
      obtain ⟨ad, rfl⟩ : ∃ ad, A1 = some ad := by
        obtain ⟨ad, h, _⟩ := HM.out.2.2 (by omega)
        exact ⟨ad, h⟩
      have HT := Aside0.mk (show Kd.C (Kd.int .u8) wr (some ad) 16 (ib (l.take 16)) by
        have := Kd.C_take (m := 16) (show Kd.C (Kd.int .u8) wr (some ad) (ib l).length (ib l) by rw [ib_length]; exact HM.out) (by rw [ib_length]; omega)
        rw [ib_take]
        rw [show ((ib l).take 16).length = 16 by rw [List.length_take, ib_length]; omega] at this
        exact this)
      have HTL := Aside0.mk (show (l.take 16).length = 16 by rw [List.length_take]; omega)
      have HDR := Aside0.mk (show Kd.C (Kd.int .u8) wr (some (ad.add 16)) (l.drop 16).length (ib (l.drop 16)) by
        have := Kd.C_drop (m := 16) (c := c1) (show Kd.C (Kd.int .u8) wr (some ad) (ib l).length (ib l) by rw [ib_length]; exact HM.out) (by rw [ib_length]; omega) (by rw [ib_length]; omega)
        rw [if_neg (by omega)] at this
        rw [show (Kd.int .u8).sz = 1 from rfl, Nat.mul_one] at this
        rw [ib_drop, ← ib_length, ib_drop]
        exact this)
      have HNX := Aside0.mk (And.intro h6 (And.intro h7 (And.intro h12 (And.intro h9 (And.intro h10 h8)))))
      clear h6 h7 h8 h9 h10 h12
      obtain ⟨tk, htk⟩ : ∃ z, z = l.take 16 := ⟨_, rfl⟩
      have HRS := Aside0.mk (show macB E ma mb (E (zipX x tk)) (l.drop 16) = R by rw [htk, ← HST.out x l HNX.out.2.2.2.2.2]; exact HR.out)
      rw [← htk] at HT HTL
      have HXT := Aside0.mk (zipX_16 HN.out.1 HTL.out)
      have CX1 := Aside0.mk (fun (A1 A2 : Option Addr) (c1 c2 : Nat) (hc1 : 16 ≤ c1) (hc2 : 16 ≤ c2) W h1 h2 => rxor_c x tk 16 16 16 HN.out.1 HTL.out HXT.out (by decide) A1 A2 c1 c2 hc1 hc2 W h1 h2)
      have CB3 := Aside0.mk (CB.out (zipX x tk) HXT.out)
      clear htk HR CB
      go_wp2_with (first
        | (go_at_call 39; go_loud ((refine (CX1.out _ _ _ _ HN.out.2.2.2.2.2 HNX.out.2.2.2.1 _ HX.out HT.out).mono ?_); rintro e w4 ⟨A9, c9, rfl, hc9, hn9, hb⟩; have H9 := Aside0.mk hn9.C; have HDR := Aside0.mk (Kd.C_below HDR.out hb); have HK := Aside0.mk (Kd.C_below HK.out hb); have HA := Aside0.mk (Kd.C_below HA.out hb); have HBm := Aside0.mk (Kd.C_below HBm.out hb); have HB := Aside0.mk (below_step HB.out hb); clear hb hc9 hn9))
        | (go_at_call 84; go_loud ((refine (CB3.out _ _ _ HK.out H9.out).mono ?_); rintro e w6 ⟨N, rfl, hN, hM, hb⟩; have HX6 := Aside0.mk (mem_row16 hM (by rw [ib_length]; exact HE.out _)); have HDR := Aside0.mk (Kd.C_below HDR.out hb); have HK := Aside0.mk (Kd.C_below HK.out hb); have HA := Aside0.mk (Kd.C_below HA.out hb); have HBm := Aside0.mk (Kd.C_below HBm.out hb); have HB := Aside0.mk (below_step HB.out hb); clear hN hM hb)))
      go_roundg k1
      case measure => omega
      case rel => exact ⟨E (zipX x tk), l.drop 16, some (ad.add 16), c1 - 16, some ⟨N, 0, none⟩, 16, by rw [List.length_drop]; rfl, rfl, ⟨⟨HE.out _, by rw [List.length_drop]; exact HNX.out.1, fun h => by rw [List.length_drop]; exact HNX.out.2.1 h, by rw [List.length_drop]; exact HNX.out.2.2.1, by rw [List.length_drop]; exact HNX.out.2.2.2.2.1, by decide⟩⟩, HRS, HDR, HX6, HK, HA, HBm, HB⟩
end Go.Proofs.Ytpdikfmdnlhllaa.Aes
namespace Go.Proofs.Ytpdikfmdnlhllaa.Aes
open Go.RowKit Go.Proofs.Ytpdikfmdnlhllaa.PNib Go.Proofs.YtpdikfmdnlhllaaW.PrintWords Go.Proofs.YtpdikfmdnlhllaaW.PrintLast Go.Proofs.YtpdikfmdnlhllaaW.PrintMore Byte Sl Arr Mem Gives ArrEq Mat AesMath AesMov AesLin HandKit Copy
set_option linter.unusedVariables false
set_option linter.unusedSimpArgs false
/-- A message with a name ahead of it. -/
def namedB (t : B) (m : List B) : List B := List.replicate 15 0#8 ++ [t] ++ m
theorem namedB_length (t : B) (m : List B) : (namedB t m).length = 16 + m.length := by unfold namedB; simp; omega
theorem set15 (t : B) : (ib (List.replicate 16 0#8)).set 15 (I8 t) = ib (List.replicate 15 0#8 ++ [t]) := by
  rw [ib_zeros, ib_append, ib_zeros]
  rfl
set_option maxRecDepth 100000 in
theorem mk_cap (n c : Nat) (hnc : n ≤ c) (hc : c ≤ 281474976710656) (W : World) : (Instr.makeSlice 22 (.int .i64 (n : Int)) (.int .i64 (c : Int))).run Try.prog W = .ok (.slice (some ⟨W.heap.size, 0, none⟩) n c) (W.alloc (.cells (cellsOf .u8 (List.replicate c 0)) 5)) := by
  obtain ⟨i, hi, h2⟩ := Option.map_eq_some_iff.1 info_u8
  simp only [Prod.mk.injEq] at h2
  obtain ⟨hz, hs, hb⟩ := h2
  have hr := run_make (P := Try.prog) W 22 5 i (.int .u8 0) Try.underlying22 hi hz .i64 .i64 (n : Int) (c : Int) (by omega) (by omega) (by rw [hb]; omega) (by omega)
  rw [Int.toNat_natCast, Int.toNat_natCast, hs, Nat.mul_one] at hr
  rw [hr]
  congr 2
  unfold madeCells cellsOf
  congr 1
  apply Array.ext
  · simp
  · intro j h1 h2
    simp [Value.cells, Nat.mod_one]
theorem cap_R {w : World} {g n c base : Nat} (h : w.heap[g]? = some (.cells (cellsOf .u8 (List.replicate c 0)) 5 (0, 0))) (hn : n ≤ c) (hc : c ≤ 281474976710656) (hb : base ≤ g) : Kd.R (Kd.int .u8) 5 w base (fun k => base ≤ k) (.slice (some ⟨g, 0, none⟩) n c) (ib (List.replicate n 0#8)) := by
  refine ⟨fun k hk => Nat.le_trans hb (Nat.le_of_eq (by simpa [Value.ownBlock] using hk)), (ib (List.replicate n 0#8)).map (Value.int .u8), ⟨by simp [ib_length, show (Kd.int .u8).sz = 1 from rfl], .inr ⟨g, c, cellsOf .u8 (List.replicate c 0), by rw [ib_length, List.length_replicate], hb, h, by rw [ib_length, List.length_replicate]; exact hn, by unfold maxLen; omega, ?_, ?_⟩⟩, reps_of (k := .u8) (R := (Kd.int .u8).M w base _) (fun x => rfl) _⟩
  · rw [cellsOf_size, List.length_replicate]; show c = c * 1; omega
  · rw [ib_length, List.length_replicate]
    show List.take (n * 1) _ = _
    unfold cellsOf
    rw [Nat.mul_one, List.toList_toArray, ← List.map_take, List.take_replicate, Nat.min_eq_left hn, ib_zeros]
set_option maxHeartbeats 4000000 in
set_option maxRecDepth 100000 in
theorem pnamed_c (g bx : Nat) (ks : List (List B)) (n : Nat) (K : KN ks n) (t : B) (m : List B) (Lm : Nat) (hml : Lm ≤ 1000000) (A : Option Addr) (c : Nat) (hc : Lm ≤ c) (w : World) (hF : On w bx A Lm m) (hX : Cph w g bx ks) : Calls Try.prog 45 #[.pointer (some ⟨g, 0, none⟩), .int .u8 (I8 t), .slice A Lm c] w fun e w' => ∃ N, e = .returned (.slice (some ⟨N, 0, none⟩) 16 16) ∧ w.heap.size ≤ N ∧ On w' bx (some ⟨N, 0, none⟩) 16 (cmacB (encB ks n) (namedB t m)) ∧ Cph w' g bx ks ∧ Ch bx w w' := by
  have CS := Aside0.mk (fun m L hL A c hc W hF (h : Cph W g bx ks) => sum_n g bx ks n K m L hL A c hc W hF h)
  have hlm := hF.len
  have HF := Aside0.mk hF
  have HX := Aside0.mk hX
  have HC := Aside0.mk hc
  have HLM := Aside0.mk (And.intro hlm hml)
  have HBX := Aside0.mk (show bx < w.heap.size from hX.bound.2.2.2)
  obtain ⟨L2, hL2⟩ : ∃ z, z = 16 + Lm := ⟨_, rfl⟩
  have i1 : wrap64 (16 + (Lm : Int)) = (L2 : Int) := by unfold wrap64; omega
  have i4 : wrap64 (L2 : Int) = (L2 : Int) := by unfold wrap64; omega
  have hmk := fun W => mk_cap 16 L2 (by omega) (by omega) W
  have hmk2 : ∀ W : World, (Instr.makeSlice 22 (.int .i64 16) (.int .i64 (L2 : Int))).run Try.prog W = .ok (.slice (some ⟨W.heap.size, 0, none⟩) 16 L2) (W.alloc (.cells (cellsOf .u8 (List.replicate L2 0)) 5)) := hmk
  have HL2 := Aside0.mk (show 16 ≤ L2 ∧ L2 ≤ 1000016 ∧ L2 = 16 + Lm by omega)
  have HR0 := Aside0.mk (cap_R (w := w.alloc (.cells (cellsOf .u8 (List.replicate L2 0)) 5)) (g := w.heap.size) (n := 16) (c := L2) (base := w.heap.size) (heap_alloc_new w _) (by omega) (by omega) (Nat.le_refl _))
  have HB0 := Aside0.mk (below_alloc (Below.refl w.heap.size w) (.cells (cellsOf .u8 (List.replicate L2 0)) 5))
  obtain ⟨cz, hcz⟩ : ∃ z, z = cellsOf .u8 (List.replicate L2 0) := ⟨_, rfl⟩
  rw [← hcz] at hmk2 HR0 HB0
  clear hmk hL2 hF hX hc hml hlm hcz
  go_enter Try.func45, Try.ntmps45
  go_upto_region 2 with (fail)
  generalize hw1 : World.alloc w _ = w1 at HR0 HB0 ⊢
  obtain ⟨g0, hg0⟩ : ∃ z, z = w.heap.size := ⟨_, rfl⟩
  rw [← hg0]
  have hO := show Kd.R (Kd.int .u8) 5 w1 w.heap.size (fun k => w.heap.size ≤ k) (.slice (some ⟨g0, 0, none⟩) 16 L2) (ib (List.replicate 16 0#8)) by rw [hg0]; exact HR0.out
  have HG := Aside0.mk (show w.heap.size ≤ g0 by omega)
  clear hw1 hg0 HR0
  obtain ⟨hx0, hf⟩ := Kd.R_celln (0 : Int) hO (15 : Int) (by decide) (by decide)
  rw [show (15 : Int).toNat = 15 from rfl] at hx0 hf
  have hxx := show w1.cell? ⟨g0, 15, none⟩ = some (.int .u8 0) from hx0
  have h3 := (Kd.R_putg hO (15 : Int) (I8 t)).1
  rw [show (15 : Int).toNat = 15 from rfl, set15] at h3
  have HO := Aside0.mk (show Kd.R (Kd.int .u8) 5 _ w.heap.size (fun k => w.heap.size ≤ k) _ (ib (List.replicate 15 0#8 ++ [t])) from h3)
  have HB := Aside0.mk (below_set (j := 15) (v := Value.int .u8 (I8 t)) HB0.out HG.out)
  clear h3 hx0 hO HB0
  go_upto_region 3 with (fail)
  clear hxx hf hmk2
  generalize hwx : World.setCell w1 _ _ = wx at *
  clear hwx
  have HBQ := HB
  have LIM := Aside0.mk (show ((ib (List.replicate 15 0#8 ++ [t])).length + Lm) * 1 ≤ 140737488355328 by rw [ib_length, List.length_append, List.length_replicate]; have := HLM.out.2; simp only [List.length_cons, List.length_nil]; omega)
  go_wp2_with (first
    | ((with_reducible refine gate_builtin (b := .append) (xs := #[.tmp 16, .tmp 17]) rfl ?_); go_loud (refine Kd.R_append_rows (Kd.int .u8) (w0 := w) w.heap.size rfl (.tmp 16) (.tmp 17) 22 5 (.int .u8 0) 1 rfl Try.underlying22 info_u8 rfl (by decide) (by decide) _ (ib (List.replicate 15 0#8 ++ [t])) (ib m) A Lm c (fun k => w.heap.size ≤ k) (fun _ => False) rfl rfl HO.out ((HF.out.below HBQ.out).C) (fun _ _ h => h) (fun _ h => h.elim) (fun k hk => Nat.le_trans HBQ.out.size hk) HBQ.out HBQ.out.size ?aL ?_; (case aL => exact LIM.out); intro v6 w6 ho hb hg hat; have HBQ := Aside0.mk hb; have HO := Aside0.mk (show Kd.R (Kd.int .u8) 5 w6 w.heap.size (fun k => w.heap.size ≤ k) v6 (ib ((List.replicate 15 0#8 ++ [t]) ++ m)) by rw [ib_append]; exact ho); clear ho hb hg hat))
    | (go_at_call 40; go_loud (have hbq_ := HBQ.out; have HX := Aside0.mk (HX.out.bound.below hbq_).all; have hro_ := row_new HO.out (n := L2) (by have h1 := HL2.out.2.2; have h2 := HLM.out.1; rw [List.length_append, List.length_append, List.length_replicate, h2]; simp only [List.length_cons, List.length_nil]; omega); obtain ⟨Aq, cq, rfl, hcq, hnr⟩ := hro_; (refine (CS.out (namedB t m) L2 (by have := HL2.out.2.1; omega) Aq cq hcq _ (hnr.on HBX.out) HX.out).mono ?_); rintro e w5 ⟨N, rfl, hN, hR, hx, hch⟩; have HR5 := Aside0.mk hR; have HN5 := Aside0.mk (Nat.le_trans hbq_.size hN); have HX := Aside0.mk hx; have HC5 := Aside0.mk ((Ch.of_below (g := bx) hbq_).trans hch); clear hN hR hx hch hbq_ hnr hcq)))
  go_ret
  exact ⟨_, rfl, HN5.out, HR5.out, HX.out, HC5.out⟩
set_option maxHeartbeats 4000000 in
set_option maxRecDepth 100000 in
theorem says_bad (g bx : Nat) (Lt : Nat) (h : Lt < 1 ∨ 16 < Lt) (A1 A2 : Option Addr) (L1 c1 c2 : Nat) : GivesB 47 #[.pointer (some ⟨g, 0, none⟩), .slice A1 L1 c1, .slice A2 Lt c2] (.bool false) := by
  intro w
  rcases h with h | h
  · have t1 : (Lt : Int) < 1 := by omega
    have t2 : Lt = 0 := by omega
    subst t2
    clear h
    go_enter Try.func47, Try.ntmps47
    go_wp2
    go_ret
    exact ⟨rfl, Below.refl _ _⟩
  · have t1 : ¬ (Lt : Int) < 1 := by omega
    have t2 : (16 : Int) < (Lt : Int) := by omega
    clear h
    go_enter Try.func47, Try.ntmps47
    go_wp2
    go_ret
    exact ⟨rfl, Below.refl _ _⟩
set_option maxHeartbeats 4000000 in
set_option maxRecDepth 100000 in
theorem says_ok (g bx : Nat) (ks : List (List B)) (n : Nat) (K : KN ks n) (m : List B) (L : Nat) (hL : L ≤ 140737488351232) (A : Option Addr) (c : Nat) (hc : L ≤ c) (tg : List B) (Lt : Nat) (h1 : 1 ≤ Lt) (h16 : Lt ≤ 16) (A2 : Option Addr) (c2 : Nat) (hc2 : Lt ≤ c2) (w : World) (hF : On w bx A L m) (hT : On w bx A2 Lt tg) (hX : Cph w g bx ks) (r : Bool) (hr : CmEval.begins (cmacB (encB ks n) m) tg = r) : Calls Try.prog 47 #[.pointer (some ⟨g, 0, none⟩), .slice A L c, .slice A2 Lt c2] w fun e w' => e = .returned (.bool r) ∧ Cph w' g bx ks ∧ Ch bx w w' := by
  have hlt := hT.len
  have E16 := cmacB_length (encB ks n) m (fun y => encB_length ks n y)
  have CS := Aside0.mk (sum_n g bx ks n K m L hL A c hc w hF hX)
  have hr2 : decide ((cmacB (encB ks n) m).take Lt = tg) = r := by
    rw [← hr]
    unfold CmEval.begins
    rw [hlt, E16]
    by_cases h : (cmacB (encB ks n) m).take Lt = tg
    · rw [decide_eq_true h, decide_eq_true ⟨h1, h16, h⟩]
    · rw [decide_eq_false h, decide_eq_false (fun h2 => h h2.2.2)]
  have HTK := Aside0.mk (show ((ib (cmacB (encB ks n) m)).take Lt).length = Lt by rw [List.length_take, ib_length, E16]; omega)
  have EI := Aside0.mk (show (ib (cmacB (encB ks n) m)).length = 16 by rw [ib_length, E16])
  have CSM := Aside0.mk (fun (A1 A2 : Option Addr) (c1 c2 : Nat) (hc1 : Lt ≤ c1) (hc2 : Lt ≤ c2) W hh1 hh2 => psame_c ((cmacB (encB ks n) m).take Lt) tg r hr2 Lt Lt A1 A2 c1 c2 hc1 hc2 W hh1 hh2)
  generalize cmacB (encB ks n) m = cm at *
  have HT := Aside0.mk hT
  have HC2 := Aside0.mk hc2
  have H16 := Aside0.mk h16
  have t1 : ¬ (Lt : Int) < 1 := by omega
  have t2 : ¬ (16 : Int) < (Lt : Int) := by omega
  have t3 : (0 : Int) ≤ (Lt : Int) := by omega
  have t4 : (Lt : Int) ≤ 16 := by omega
  clear hlt hr hr2 hF hT hX K hL hc hc2 h1 h16 E16
  go_enter Try.func47, Try.ntmps47
  go_wp2_with (first
    | (go_at_call 40; go_loud ((refine CS.out.mono ?_); rintro e w1 ⟨N, rfl, hN, hR, hx, hch⟩; have HT := Aside0.mk (HT.out.ch hch); have HX := Aside0.mk hx; have HC := Aside0.mk hch; have HR := Aside0.mk (show Kd.C (Kd.int .u8) w1 (some ⟨N, 0, none⟩) Lt (ib (cm.take Lt)) by (have h_ := Kd.C_take (m := Lt) (show Kd.C (Kd.int .u8) w1 (some ⟨N, 0, none⟩) (ib cm).length (ib cm) by rw [EI.out]; exact hR.C) (by rw [EI.out]; exact H16.out); rw [ib_take]; rw [HTK.out] at h_; exact h_)); clear hN hR hx hch))
    | (go_at_call 85; go_loud ((refine (CSM.out _ _ _ _ H16.out HC2.out _ HR.out HT.out.C).mono ?_); rintro e w2 ⟨rfl, hb⟩; have HX := Aside0.mk (HX.out.bound.below hb).all; have HC := Aside0.mk (Ch.step HC.out hb); clear hb)))
  go_ret
  exact ⟨rfl, HX.out, HC.out⟩
theorem says_c (g bx : Nat) (ks : List (List B)) (n : Nat) (K : KN ks n) (m : List B) (L : Nat) (hL : L ≤ 140737488351232) (A : Option Addr) (c : Nat) (hc : L ≤ c) (tg : List B) (Lt : Nat) (A2 : Option Addr) (c2 : Nat) (hc2 : Lt ≤ c2) (w : World) (hF : On w bx A L m) (hT : On w bx A2 Lt tg) (hX : Cph w g bx ks) (r : Bool) (hr : CmEval.begins (cmacB (encB ks n) m) tg = r) : Calls Try.prog 47 #[.pointer (some ⟨g, 0, none⟩), .slice A L c, .slice A2 Lt c2] w fun e w' => e = .returned (.bool r) ∧ Cph w' g bx ks ∧ Ch bx w w' := by
  by_cases h1 : 1 ≤ Lt
  · by_cases h2 : Lt ≤ 16
    · exact says_ok g bx ks n K m L hL A c hc tg Lt h1 h2 A2 c2 hc2 w hF hT hX r hr
    · have hr2 : r = false := by
        rw [← hr]
        unfold CmEval.begins
        rw [hT.len, cmacB_length (encB ks n) m (fun y => encB_length ks n y)]
        exact decide_eq_false (fun h => h2 h.2.1)
      subst hr2
      exact (says_bad g bx Lt (.inr (by omega)) A A2 L c c2 w).mono fun _ _ ⟨a, b⟩ => ⟨a, (hX.bound.below b).all, Ch.of_below b⟩
  · have hr2 : r = false := by
      rw [← hr]
      unfold CmEval.begins
      rw [hT.len]
      exact decide_eq_false (fun h => h1 h.1)
    subst hr2
    exact (says_bad g bx Lt (.inl (by omega)) A A2 L c c2 w).mono fun _ _ ⟨a, b⟩ => ⟨a, (hX.bound.below b).all, Ch.of_below b⟩
end Go.Proofs.Ytpdikfmdnlhllaa.Aes
namespace Go.Proofs.Ytpdikfmdnlhllaa.Aes
open Go.RowKit Go.Proofs.Ytpdikfmdnlhllaa.PNib Go.Proofs.YtpdikfmdnlhllaaW.PrintWords Go.Proofs.YtpdikfmdnlhllaaW.PrintLast Go.Proofs.YtpdikfmdnlhllaaW.PrintMore Byte Sl Arr Mem Gives ArrEq Mat AesMath AesMov AesLin HandKit Copy
set_option linter.unusedVariables false
set_option linter.unusedSimpArgs false
set_option maxHeartbeats 4000000 in
set_option maxRecDepth 100000 in
theorem rnamed_c (key : List B) (Lk : Nat) (hLk : key.length = Lk) (hr : roundsN key.length ≠ 0) (n : Nat) (K : KN (roundKeys key) n) (A : Option Addr) (c : Nat) (hc : Lk ≤ c) (t : B) (m : List B) (Lm : Nat) (hLm : m.length = Lm) (hml : Lm ≤ 1000000) (A2 : Option Addr) (c2 : Nat) (hc2 : Lm ≤ c2) (w : World) (hC : Kd.C (Kd.int .u8) w A Lk (ib key)) (hC2 : Kd.C (Kd.int .u8) w A2 Lm (ib m)) : Calls Try.prog 46 #[.slice A Lk c, .int .u8 (I8 t), .slice A2 Lm c2] w fun e w' => ∃ N, e = .returned (.slice (some ⟨N, 0, none⟩) 16 16) ∧ NR w.heap.size w' (some ⟨N, 0, none⟩) 16 (cmacB (encB (roundKeys key) n) (namedB t m)) ∧ Below w.heap.size w w' := by
  obtain ⟨L2, hL2⟩ : ∃ z, z = 16 + Lm := ⟨_, rfl⟩
  have CS := Aside0.mk (fun A2 c2 (hc2 : L2 ≤ c2) W h1 h2 => rsum_c key Lk hLk hr n K A c hc (namedB t m) L2 (by rw [namedB_length, hLm, hL2]) (by omega) A2 c2 hc2 W h1 h2)
  have HK := Aside0.mk hC
  have HM := Aside0.mk hC2
  have HBQ := Aside0.mk (Below.refl w.heap.size w)
  have HL2 := Aside0.mk (show L2 = 16 + Lm ∧ Lm ≤ 1000000 ∧ m.length = Lm from ⟨hL2, hml, hLm⟩)
  have HC2 := Aside0.mk hc2
  clear hC hC2 hr hLk hc hml hc2 hLm hL2 K
  have LIM1 := Aside0.mk (show ((ib (List.replicate 15 0#8)).length + 1) * 1 ≤ 140737488355328 by decide)
  have LIM2 := Aside0.mk (show ((ib (List.replicate 15 0#8 ++ [t])).length + Lm) * 1 ≤ 140737488355328 by rw [ib_length, List.length_append, List.length_replicate]; have := HL2.out.2.1; simp only [List.length_cons, List.length_nil]; omega)
  go_enter Try.func46, Try.ntmps46
  go_upto_region 2 with (first
    | ((with_reducible refine gate_dst (N := 8) rfl ?_); go_loud (refine Kd.R_make (Kd.int .u8) w.heap.size 5 rfl (N := 8) rfl 22 _ _ rfl 15 rfl rfl Try.underlying22 (.int .u8 0) 1 info_u8 rfl (by decide) (by decide) 0 (ok := fun k => w.heap.size ≤ k) (okp := fun _ => False) rfl (fun _ hk => hk.elim) HBQ.out.size (by decide) (by decide) HBQ.out (Nat.le_refl _) ?_; intro v5 w5 ho hb hg_ hnew_; have HBQ := Aside0.mk (below_alloc hb (.cells (cellsOf .u8 (ib [t])) 5)); have HO := Aside0.mk (Kd.R_alloc (show Kd.R (Kd.int .u8) 5 w5 w.heap.size (fun k => w.heap.size ≤ k) v5 (ib (List.replicate 15 0#8)) by rw [ib_zeros]; exact ho) (.cells (cellsOf .u8 (ib [t])) 5)); have S1 := Aside0.mk (mem_row1 (Mem.new .u8 w5 5 (ib [t])) rfl); clear ho hb hg_ hnew_))
    | ((with_reducible refine gate_builtin (b := .append) (xs := #[.tmp 8, .tmp 10]) rfl ?_); go_loud (refine Kd.R_append_rows (Kd.int .u8) (w0 := w) w.heap.size rfl (.tmp 8) (.tmp 10) 22 5 (.int .u8 0) 1 rfl Try.underlying22 info_u8 rfl (by decide) (by decide) _ (ib (List.replicate 15 0#8)) (ib [t]) (some ⟨w5.heap.size, 0, none⟩) 1 1 (fun k => w.heap.size ≤ k) (fun _ => False) rfl rfl HO.out (S1.out) (fun _ _ h => h) (fun _ h => h.elim) (fun k hk => Nat.le_trans HBQ.out.size hk) HBQ.out HBQ.out.size ?aL ?_; (case aL => exact LIM1.out); intro v6 w6 ho hb hg hat; have HBQ := Aside0.mk hb; have HO := Aside0.mk (show Kd.R (Kd.int .u8) 5 w6 w.heap.size (fun k => w.heap.size ≤ k) v6 (ib ((List.replicate 15 0#8) ++ [t])) by rw [ib_append]; exact ho); clear ho hb hg hat)))
  clear S1 LIM1
  go_wp2_with (first
    | ((with_reducible refine gate_builtin (b := .append) (xs := #[.tmp 13, .tmp 14]) rfl ?_); go_loud (refine Kd.R_append_rows (Kd.int .u8) (w0 := w) w.heap.size rfl (.tmp 13) (.tmp 14) 22 5 (.int .u8 0) 1 rfl Try.underlying22 info_u8 rfl (by decide) (by decide) _ (ib (List.replicate 15 0#8 ++ [t])) (ib m) A2 Lm c2 (fun k => w.heap.size ≤ k) (fun _ => False) rfl rfl HO.out ((Kd.C_below HM.out HBQ.out)) (fun _ _ h => h) (fun _ h => h.elim) (fun k hk => Nat.le_trans HBQ.out.size hk) HBQ.out HBQ.out.size ?aL ?_; (case aL => exact LIM2.out); intro v6 w6 ho hb hg hat; have HBQ := Aside0.mk hb; have HO := Aside0.mk (show Kd.R (Kd.int .u8) 5 w6 w.heap.size (fun k => w.heap.size ≤ k) v6 (ib ((List.replicate 15 0#8 ++ [t]) ++ m)) by rw [ib_append]; exact ho); clear ho hb hg hat))
    | (go_at_call 44; go_loud (have hbq_ := HBQ.out; have hro_ := row_new HO.out (n := L2) (by have h1 := HL2.out.1; have h2 := HL2.out.2.2; rw [List.length_append, List.length_append, List.length_replicate, h2]; simp only [List.length_cons, List.length_nil]; omega); obtain ⟨Aq, cq, rfl, hcq, hnr⟩ := hro_; (refine (CS.out Aq cq hcq _ (Kd.C_below HK.out hbq_) hnr.C).mono ?_); rintro e w7 ⟨N, rfl, hN, hb⟩; have HN := Aside0.mk (hN.low hbq_.size); have HB := Aside0.mk (below_step hbq_ hb); clear hN hb hbq_ hnr hcq)))
  go_ret
  exact ⟨_, rfl, HN.out, HB.out⟩
end Go.Proofs.Ytpdikfmdnlhllaa.Aes
namespace Go.Proofs.Ytpdikfmdnlhllaa.Aes
open Go.RowKit Go.Proofs.Ytpdikfmdnlhllaa.PNib Go.Proofs.YtpdikfmdnlhllaaW.PrintWords Go.Proofs.YtpdikfmdnlhllaaW.PrintLast Go.Proofs.YtpdikfmdnlhllaaW.PrintMore Byte Sl Arr Mem Gives ArrEq Mat AesMath AesMov AesLin HandKit Copy
set_option linter.unusedVariables false
set_option linter.unusedSimpArgs false
theorem begins_take (l : List B) (hl : l.length = 16) (k : Nat) (hk : k ≤ 16) : CmEval.begins l (l.take k) = decide (0 < k) := by
  unfold CmEval.begins
  rw [List.length_take, hl, Nat.min_eq_left hk]
  by_cases h : 0 < k
  · rw [decide_eq_true h, decide_eq_true ⟨h, hk, rfl⟩]
  · rw [decide_eq_false h, decide_eq_false (fun h2 => h h2.1)]
set_option maxHeartbeats 4000000 in
set_option maxRecDepth 100000 in
theorem ctells_skip (L0 L1 : Nat) (r : Int) (hr : roundsI (L0 : Int) = r) (h : r = 0 ∨ (r ≠ 0 ∧ 1000 < L1)) (A0 A1 A2 : Option Addr) (c0 c1 L2 c2 : Nat) (t : B) (w : World) : Calls Try.prog 8 #[.slice A0 L0 c0, .slice A1 L1 c1, .slice A2 L2 c2, .int .u8 (I8 t)] w fun e w' => e = .returned (.bool true) ∧ Below w.heap.size w w' := by
  have CR := Aside0.mk (rrounds_c (L0 : Int) r hr)
  have CA := Aside0.mk (fun W => cawake_c W)
  clear hr
  rcases h with h | ⟨h1, h2⟩
  · subst h
    go_enter Try.func8, Try.ntmps8
    go_wp2_with (first
      | (go_at_call 15; go_loud ((with_reducible refine (CR.out.q _).mono ?_); rintro e w1 ⟨rfl, hb⟩; have HB := Aside0.mk hb; clear hb))
      | (go_at_call 42; go_loud ((with_reducible refine (CA.out _).mono ?_); rintro e w2 ⟨rfl, hb⟩; have HB := Aside0.mk (below_step HB.out hb); clear hb)))
    go_ret
    exact ⟨rfl, HB.out⟩
  · have t1 : (r == 0) = false := by rw [beq_eq_false_iff_ne]; exact h1
    have t2 : (1000 : Int) < (L1 : Int) := by omega
    have H1 := Aside0.mk h1
    clear h1 h2
    go_enter Try.func8, Try.ntmps8
    go_wp2_with (first
      | (go_at_call 15; go_loud ((with_reducible refine (CR.out.q _).mono ?_); rintro e w1 ⟨rfl, hb⟩; have HB := Aside0.mk hb; clear hb))
      | (go_at_call 42; go_loud ((with_reducible refine (CA.out _).mono ?_); rintro e w2 ⟨rfl, hb⟩; have HB := Aside0.mk (below_step HB.out hb); clear hb)))
    go_ret
    exact ⟨rfl, HB.out⟩
set_option maxHeartbeats 4000000 in
set_option maxRecDepth 100000 in
theorem ctells_ok (key m tg : List B) (L0 L1 L2 : Nat) (h0 : key.length = L0) (hr : roundsN key.length ≠ 0) (hm : L1 ≤ 1000) (A0 A1 A2 : Option Addr) (c0 c1 c2 : Nat) (hc0 : L0 ≤ c0) (hc1 : L1 ≤ c1) (hc2 : L2 ≤ c2) (t : B) (w : World) (hC0 : Kd.C (Kd.int .u8) w A0 L0 (ib key)) (hC1 : Kd.C (Kd.int .u8) w A1 L1 (ib m)) (hC2 : Kd.C (Kd.int .u8) w A2 L2 (ib tg)) : Calls Try.prog 8 #[.slice A0 L0 c0, .slice A1 L1 c1, .slice A2 L2 c2, .int .u8 (I8 t)] w fun e w' => e = .returned (.bool true) ∧ Below w.heap.size w w' := by
  obtain ⟨n, K⟩ := kn_of key hr
  have hlm : m.length = L1 := by have := hC1.1; rwa [ib_length] at this
  obtain ⟨ri, hri⟩ : ∃ z, z = roundsI (L0 : Int) := ⟨_, rfl⟩
  have CR := Aside0.mk (rrounds_c (L0 : Int) ri hri.symm)
  have CA := Aside0.mk (fun W => cawake_c W)
  have hri0 : ri ≠ 0 := by rw [hri, roundsI_nat, ← h0]; intro h; exact hr (by omega)
  have t1 : (ri == 0) = false := by rw [beq_eq_false_iff_ne]; exact hri0
  have t2 : ¬ (1000 : Int) < (L1 : Int) := by omega
  have CN := Aside0.mk (fun W h => new_n key hr L0 h0 A0 c0 hc0 W h)
  have CM := Aside0.mk (fun g bx W h => masks_n g bx (roundKeys key) n K W h)
  have RM := Aside0.mk (fun W h => rmasks_c key L0 h0 hr n K A0 c0 hc0 W h)
  have CS := Aside0.mk (fun g bx W hF h => sum_n g bx (roundKeys key) n K m L1 (by omega) A1 c1 hc1 W hF h)
  have RS := Aside0.mk (fun W h1 h2 => rsum_c key L0 h0 hr n K A0 c0 hc0 m L1 hlm (by omega) A1 c1 hc1 W h1 h2)
  have CD := Aside0.mk (fun g bx W hF h => pnamed_c g bx (roundKeys key) n K t m L1 (by omega) A1 c1 hc1 W hF h)
  have RD := Aside0.mk (fun W h1 h2 => rnamed_c key L0 h0 hr n K A0 c0 hc0 t m L1 hlm (by omega) A1 c1 hc1 W h1 h2)
  have CY := Aside0.mk (fun g bx tg Lt A2 c2 hc2 W hF hT hX r hr2 => says_c g bx (roundKeys key) n K m L1 (by omega) A1 c1 hc1 tg Lt A2 c2 hc2 W hF hT hX r hr2)
  have E16 := Aside0.mk (cmacB_length (encB (roundKeys key) n) m (fun y => encB_length (roundKeys key) n y))
  generalize mA (roundKeys key) n = ma at *
  generalize mB (roundKeys key) n = mb at *
  generalize cmacB (encB (roundKeys key) n) m = cm at *
  generalize cmacB (encB (roundKeys key) n) (namedB t m) = cn at *
  obtain ⟨k, hk⟩ : ∃ z : Nat, z = t.toNat % 17 := ⟨_, rfl⟩
  have hk16 : k ≤ 16 := by omega
  have f1 : IntKind.i64.wrap (I8 t) = I8 t := by have := I8_lo t; have := I8_hi t; rw [IntKind.wrap_i64]; omega
  have f2 : wrap64 (I8 t) = I8 t := by have := I8_lo t; have := I8_hi t; unfold wrap64; omega
  have f3 : Int.tmod (I8 t) 17 = (k : Int) := by
    rw [Int.tmod_eq_emod_of_nonneg (I8_lo t)]; unfold I8; omega
  have f4 : (I8 t) % 17 = (k : Int) := by unfold I8; omega
  have O0 := Aside0.mk (OR.of_C hC0)
  have O1 := Aside0.mk (OR.of_C hC1)
  have O2 := Aside0.mk (OR.of_C hC2)
  have HK16 := Aside0.mk hk16
  have HCC := Aside0.mk (And.intro hc0 (And.intro hc1 hc2))
  have HBG := Aside0.mk (fun k hk => begins_take cm E16.out k hk)
  obtain ⟨bt, hbt⟩ : ∃ z, z = CmEval.begins cm tg := ⟨_, rfl⟩
  have HBT := Aside0.mk hbt.symm
  have EI := Aside0.mk (show (ib cm).length = 16 by rw [ib_length, E16.out])
  have HTL := Aside0.mk (show tg.length = L2 by have := hC2.1; rwa [ib_length] at this)
  clear hC0 hC1 hC2 h0 hr hm hlm hri hri0 hc0 hc1 hc2 hk hk16 K hbt
  go_enter Try.func8, Try.ntmps8
  go_upto_region 4 with (first
    | (go_at_call 15; go_loud ((with_reducible refine (CR.out.q _).mono ?_); rintro e w1 ⟨rfl, hb⟩; have HB := Aside0.mk hb; have O0 := Aside0.mk (O0.out.below hb); have O1 := Aside0.mk (O1.out.below hb); have O2 := Aside0.mk (O2.out.below hb); clear hb))
    | (go_at_call 30; go_loud ((with_reducible refine (CN.out _ O0.out.C).mono ?_); rintro e w2 ⟨g, bx, rfl, hx, hbx, hb⟩; have HX := Aside0.mk hx; have HBX := Aside0.mk (Nat.le_trans HB.out.size hbx); have OK := Aside0.mk ((O0.out.below hb).on HBX.out); have OM := Aside0.mk ((O1.out.below hb).on HBX.out); have OT := Aside0.mk ((O2.out.below hb).on HBX.out); have HB := Aside0.mk (below_step HB.out hb); have HC := Aside0.mk (Ch.refl (g := bx) w2); clear hx hbx hb)))
  clear O0 O1 O2 CN CR t1 t2
  go_upto_region 6 with (first
    | (go_at_call 38; go_loud ((with_reducible refine (CM.out _ _ _ HX.out).mono ?_); rintro e w3 ⟨Aa, ca, Ab, cb, rfl, hca, hcb, hna, hnb, hx, hc⟩; (try have OK := Aside0.mk (OK.out.ch hc)); (try have OM := Aside0.mk (OM.out.ch hc)); (try have OT := Aside0.mk (OT.out.ch hc)); (try have OA := Aside0.mk (OA.out.ch hc)); (try have OB := Aside0.mk (OB.out.ch hc)); (try have OX := Aside0.mk (OX.out.ch hc)); (try have OY := Aside0.mk (OY.out.ch hc)); (try have OS1 := Aside0.mk (OS1.out.ch hc)); (try have OS2 := Aside0.mk (OS2.out.ch hc)); have HX := Aside0.mk hx; have HC := Aside0.mk (HC.out.trans hc); have OA := Aside0.mk hna; have OB := Aside0.mk hnb; have HCA := Aside0.mk (And.intro hca hcb); clear hna hnb hx hc hca hcb))
    | (go_at_call 43; go_loud (have hs_ := HX.out.bound.2.2.2; ((with_reducible refine (RM.out _ OK.out.C).mono ?_); rintro e w4 ⟨Ax, cx, Ay, cy, rfl, hcx, hcy, hnx, hny, hb⟩; (try have OK := Aside0.mk (OK.out.below hb)); (try have OM := Aside0.mk (OM.out.below hb)); (try have OT := Aside0.mk (OT.out.below hb)); (try have OA := Aside0.mk (OA.out.below hb)); (try have OB := Aside0.mk (OB.out.below hb)); (try have OX := Aside0.mk (OX.out.below hb)); (try have OY := Aside0.mk (OY.out.below hb)); (try have OS1 := Aside0.mk (OS1.out.below hb)); (try have OS2 := Aside0.mk (OS2.out.below hb)); have HX := Aside0.mk (HX.out.bound.below hb).all; have HC := Aside0.mk (Ch.step HC.out hb); have OX := Aside0.mk (hnx.on hs_); have OY := Aside0.mk (hny.on hs_); have HCX := Aside0.mk (And.intro hcx hcy); clear hnx hny hb hcx hcy hs_))))
  clear CM RM
  go_upto_region 8 with (first
    | (go_at_call 41; (try (refine gate_guard (by rfl) ?_; dsimp only)); go_loud (first | ((with_reducible refine (rsame_c ma ma true (decide_eq_true rfl) 16 16 Aa Ax ca cx HCA.out.1 HCX.out.1 _ OA.out.C OX.out.C).mono ?_); rintro e ws ⟨rfl, hb⟩; (try have OK := Aside0.mk (OK.out.below hb)); (try have OM := Aside0.mk (OM.out.below hb)); (try have OT := Aside0.mk (OT.out.below hb)); (try have OA := Aside0.mk (OA.out.below hb)); (try have OB := Aside0.mk (OB.out.below hb)); (try have OX := Aside0.mk (OX.out.below hb)); (try have OY := Aside0.mk (OY.out.below hb)); (try have OS1 := Aside0.mk (OS1.out.below hb)); (try have OS2 := Aside0.mk (OS2.out.below hb)); have HX := Aside0.mk (HX.out.bound.below hb).all; have HC := Aside0.mk (Ch.step HC.out hb); clear hb OA OX) | ((with_reducible refine (rsame_c mb mb true (decide_eq_true rfl) 16 16 Ab Ay cb cy HCA.out.2 HCX.out.2 _ OB.out.C OY.out.C).mono ?_); rintro e ws ⟨rfl, hb⟩; (try have OK := Aside0.mk (OK.out.below hb)); (try have OM := Aside0.mk (OM.out.below hb)); (try have OT := Aside0.mk (OT.out.below hb)); (try have OA := Aside0.mk (OA.out.below hb)); (try have OB := Aside0.mk (OB.out.below hb)); (try have OX := Aside0.mk (OX.out.below hb)); (try have OY := Aside0.mk (OY.out.below hb)); (try have OS1 := Aside0.mk (OS1.out.below hb)); (try have OS2 := Aside0.mk (OS2.out.below hb)); have HX := Aside0.mk (HX.out.bound.below hb).all; have HC := Aside0.mk (Ch.step HC.out hb); clear hb OB OY) | ((with_reducible refine (rsame_c _ _ true (decide_eq_true rfl) 16 16 _ _ 16 16 (by decide) (by decide) _ OS1.out.C OS2.out.C).mono ?_); rintro e ws ⟨rfl, hb⟩; (try have OK := Aside0.mk (OK.out.below hb)); (try have OM := Aside0.mk (OM.out.below hb)); (try have OT := Aside0.mk (OT.out.below hb)); (try have OA := Aside0.mk (OA.out.below hb)); (try have OB := Aside0.mk (OB.out.below hb)); (try have OX := Aside0.mk (OX.out.below hb)); (try have OY := Aside0.mk (OY.out.below hb)); (try have OS1 := Aside0.mk (OS1.out.below hb)); (try have OS2 := Aside0.mk (OS2.out.below hb)); have HX := Aside0.mk (HX.out.bound.below hb).all; have HC := Aside0.mk (Ch.step HC.out hb); clear hb OS1 OS2)))
    | (go_at_call 40; (try (refine gate_guard (by rfl) ?_; dsimp only)); go_loud ((with_reducible refine (CS.out _ _ _ OM.out HX.out).mono ?_); rintro e w5 ⟨N1, rfl, _, hF, hx, hc⟩; (try have OK := Aside0.mk (OK.out.ch hc)); (try have OM := Aside0.mk (OM.out.ch hc)); (try have OT := Aside0.mk (OT.out.ch hc)); (try have OA := Aside0.mk (OA.out.ch hc)); (try have OB := Aside0.mk (OB.out.ch hc)); (try have OX := Aside0.mk (OX.out.ch hc)); (try have OY := Aside0.mk (OY.out.ch hc)); (try have OS1 := Aside0.mk (OS1.out.ch hc)); (try have OS2 := Aside0.mk (OS2.out.ch hc)); have HX := Aside0.mk hx; have HC := Aside0.mk (HC.out.trans hc); have OS1 := Aside0.mk (show On w5 bx (some ⟨N1, 0, none⟩) 16 cm from hF); clear hF hx hc))
    | (go_at_call 44; (try (refine gate_guard (by rfl) ?_; dsimp only)); go_loud (have hs_ := HX.out.bound.2.2.2; ((with_reducible refine (RS.out _ OK.out.C OM.out.C).mono ?_); rintro e w6 ⟨N2, rfl, hF, hb⟩; (try have OK := Aside0.mk (OK.out.below hb)); (try have OM := Aside0.mk (OM.out.below hb)); (try have OT := Aside0.mk (OT.out.below hb)); (try have OA := Aside0.mk (OA.out.below hb)); (try have OB := Aside0.mk (OB.out.below hb)); (try have OX := Aside0.mk (OX.out.below hb)); (try have OY := Aside0.mk (OY.out.below hb)); (try have OS1 := Aside0.mk (OS1.out.below hb)); (try have OS2 := Aside0.mk (OS2.out.below hb)); have HX := Aside0.mk (HX.out.bound.below hb).all; have HC := Aside0.mk (Ch.step HC.out hb); have OS2 := Aside0.mk (show On w6 bx (some ⟨N2, 0, none⟩) 16 cm from hF.on hs_); clear hF hb hs_)))
    | (go_at_call 45; (try (refine gate_guard (by rfl) ?_; dsimp only)); go_loud ((with_reducible refine (CD.out _ _ _ OM.out HX.out).mono ?_); rintro e w7 ⟨N3, rfl, _, hF, hx, hc⟩; (try have OK := Aside0.mk (OK.out.ch hc)); (try have OM := Aside0.mk (OM.out.ch hc)); (try have OT := Aside0.mk (OT.out.ch hc)); (try have OA := Aside0.mk (OA.out.ch hc)); (try have OB := Aside0.mk (OB.out.ch hc)); (try have OX := Aside0.mk (OX.out.ch hc)); (try have OY := Aside0.mk (OY.out.ch hc)); (try have OS1 := Aside0.mk (OS1.out.ch hc)); (try have OS2 := Aside0.mk (OS2.out.ch hc)); have HX := Aside0.mk hx; have HC := Aside0.mk (HC.out.trans hc); have OS1 := Aside0.mk (show On w7 bx (some ⟨N3, 0, none⟩) 16 cn from hF); clear hF hx hc))
    | (go_at_call 46; (try (refine gate_guard (by rfl) ?_; dsimp only)); go_loud (have hs_ := HX.out.bound.2.2.2; ((with_reducible refine (RD.out _ OK.out.C OM.out.C).mono ?_); rintro e w8 ⟨N4, rfl, hF, hb⟩; (try have OK := Aside0.mk (OK.out.below hb)); (try have OM := Aside0.mk (OM.out.below hb)); (try have OT := Aside0.mk (OT.out.below hb)); (try have OA := Aside0.mk (OA.out.below hb)); (try have OB := Aside0.mk (OB.out.below hb)); (try have OX := Aside0.mk (OX.out.below hb)); (try have OY := Aside0.mk (OY.out.below hb)); (try have OS1 := Aside0.mk (OS1.out.below hb)); (try have OS2 := Aside0.mk (OS2.out.below hb)); have HX := Aside0.mk (HX.out.bound.below hb).all; have HC := Aside0.mk (Ch.step HC.out hb); have OS2 := Aside0.mk (show On w8 bx (some ⟨N4, 0, none⟩) 16 cn from hF.on hs_); clear hF hb hs_))))
  clear CS CD RD
  go_upto_region 10 with (first
    | (go_at_call 44; go_loud (have hs_ := HX.out.bound.2.2.2; ((with_reducible refine (RS.out _ OK.out.C OM.out.C).mono ?_); rintro e w9 ⟨N5, rfl, hF, hb⟩; (try have OK := Aside0.mk (OK.out.below hb)); (try have OM := Aside0.mk (OM.out.below hb)); (try have OT := Aside0.mk (OT.out.below hb)); (try have OA := Aside0.mk (OA.out.below hb)); (try have OB := Aside0.mk (OB.out.below hb)); (try have OX := Aside0.mk (OX.out.below hb)); (try have OY := Aside0.mk (OY.out.below hb)); (try have OS1 := Aside0.mk (OS1.out.below hb)); (try have OS2 := Aside0.mk (OS2.out.below hb)); have HX := Aside0.mk (HX.out.bound.below hb).all; have HC := Aside0.mk (Ch.step HC.out hb); have OS1 := Aside0.mk (show On w9 bx (some ⟨N5, 0, none⟩) 16 cm from hF.on hs_); clear hF hb hs_))))
  clear RS f1 f2 f3 f4
  have k0 : (0 : Int) ≤ (k : Int) := by omega
  have k16 : (k : Int) ≤ 16 := by have := HK16.out; omega
  have HBK := Aside0.mk (HBG.out k HK16.out)
  have OSK := Aside0.mk (show On w9 bx (some ⟨N5, 0, none⟩) k (cm.take k) by
    have h_ := Kd.F_take (m := k) (show Kd.F (Kd.int .u8) w9 (fun k => k ≠ bx) (some ⟨N5, 0, none⟩) (ib cm).length (ib cm) by rw [EI.out]; exact OS1.out) (by rw [EI.out]; exact HK16.out)
    rw [List.length_take, EI.out, Nat.min_eq_left HK16.out, ← ib_take] at h_
    exact h_)
  have CBG := Aside0.mk (fun A2 c2 (hc2 : L2 ≤ c2) W h1 h2 => begins_c cm tg bt HBT.out 16 L2 (some ⟨N5, 0, none⟩) A2 16 c2 (by decide) hc2 W h1 h2)
  rcases Nat.eq_zero_or_pos k with hk0 | hk0
  case' inl =>
    have j1 : ¬ (0 : Int) < (k : Int) := by omega
    have j2 : decide ((0 : Int) < (k : Int)) = false := decide_eq_false j1
    have j3 : decide (0 < k) = false := by rw [decide_eq_false_iff_not]; omega
    have j4 : (0 < k) = False := by apply eq_false; omega
    rw [j3] at HBK
  case' inr =>
    have j1 : (0 : Int) < (k : Int) := by omega
    have j2 : decide ((0 : Int) < (k : Int)) = true := decide_eq_true j1
    have j3 : decide (0 < k) = true := by rw [decide_eq_true_iff]; omega
    have j4 : (0 < k) = True := by apply eq_true; omega
    rw [j3] at HBK
  all_goals
    clear hk0
    cases bt
    all_goals
      go_wp2_with (first
        | (go_at_call 47; (try (refine gate_guard (by rfl) ?_; dsimp only)); go_loud (first | ((with_reducible refine (CY.out _ _ tg L2 _ _ HCC.out.2.2 _ OM.out OT.out HX.out _ HBT.out).mono ?_); rintro e w10 ⟨rfl, hx, hc⟩; have OM := Aside0.mk (OM.out.ch hc); have OT := Aside0.mk (OT.out.ch hc); have OS1 := Aside0.mk (OS1.out.ch hc); have OSK := Aside0.mk (OSK.out.ch hc); have HX := Aside0.mk hx; have HC := Aside0.mk (HC.out.trans hc); clear hx hc) | ((with_reducible refine (CY.out _ _ (cm.take k) k _ _ HK16.out _ OM.out OSK.out HX.out _ HBK.out).mono ?_); rintro e w11 ⟨rfl, hx, hc⟩; have OM := Aside0.mk (OM.out.ch hc); have OT := Aside0.mk (OT.out.ch hc); have OS1 := Aside0.mk (OS1.out.ch hc); have OSK := Aside0.mk (OSK.out.ch hc); have HX := Aside0.mk hx; have HC := Aside0.mk (HC.out.trans hc); clear hx hc)))
        | (go_at_call 48; go_loud ((with_reducible refine (CBG.out _ _ HCC.out.2.2 _ OS1.out.C OT.out.C).mono ?_); rintro e w12 ⟨rfl, hb⟩; have OM := Aside0.mk (OM.out.below hb); have OT := Aside0.mk (OT.out.below hb); have OS1 := Aside0.mk (OS1.out.below hb); have OSK := Aside0.mk (OSK.out.below hb); have HX := Aside0.mk (HX.out.bound.below hb).all; have HC := Aside0.mk (Ch.step HC.out hb); clear hb))
        | (go_at_call 42; (try (refine gate_guard (by rfl) ?_; dsimp only)); go_loud ((with_reducible refine (CA.out _).mono ?_); rintro e w13 ⟨rfl, hb⟩; have OM := Aside0.mk (OM.out.below hb); have OT := Aside0.mk (OT.out.below hb); have OS1 := Aside0.mk (OS1.out.below hb); have OSK := Aside0.mk (OSK.out.below hb); have HX := Aside0.mk (HX.out.bound.below hb).all; have HC := Aside0.mk (Ch.step HC.out hb); clear hb)))
      go_ret
      exact ⟨rfl, HC.out.below HB.out HB.out.size HBX.out⟩
theorem row_at {k : IntKind} {w : World} {a : Option Addr} {len cap : Nat} {z : List Int} (h : Slices.IsRow .u8 w a len cap z) : ∃ b : List B, b.length = len ∧ len ≤ cap ∧ Kd.C (Kd.int .u8) w a len (ib b) := by
  obtain ⟨hsl, hlen, hwf⟩ := h.sl
  obtain ⟨A, c, hv, hc, hC⟩ := hsl
  injection hv with e1 e2 e3
  subst e1
  subst e3
  obtain ⟨b, hb⟩ := ib_of (fun x hx => wf_u8 (hwf x hx))
  rw [hb, ib_length] at hlen
  rw [hb, ib_length] at hC hc
  subst hlen
  exact ⟨b, rfl, hc, hC⟩
theorem ctells_walk (a0 : Option Addr) (len0 cap0 : Nat) (z0 : List Int) (a1 : Option Addr) (len1 cap1 : Nat) (z1 : List Int) (a2 : Option Addr) (len2 cap2 : Nat) (z2 : List Int) (a3 : Int) (w : World) (w0 : Slices.IsRow .u8 w a0 len0 cap0 z0) (y0 : len0 * 1 ≤ 140737488351232) (w1 : Slices.IsRow .u8 w a1 len1 cap1 z1) (y1 : len1 * 1 ≤ 140737488351232) (w2 : Slices.IsRow .u8 w a2 len2 cap2 z2) (y2 : len2 * 1 ≤ 140737488351232) (w3 : (Lit.int .u8 a3).wf = true) :
    Calls Try.prog 8 #[.slice a0 len0 cap0, .slice a1 len1 cap1, .slice a2 len2 cap2, .int .u8 a3] w fun e w' => e = .returned (.bool true) ∧ Below w.heap.size w w' := by
  obtain ⟨key, h0, hc0, hC0⟩ := row_at (k := .u8) w0
  obtain ⟨m, h1, hc1, hC1⟩ := row_at (k := .u8) w1
  obtain ⟨tg, h2, hc2, hC2⟩ := row_at (k := .u8) w2
  obtain ⟨t, rfl⟩ := byte_of w3
  by_cases hr : roundsN key.length = 0
  · exact ctells_skip len0 len1 0 (by rw [roundsI_nat, ← h0, hr]; rfl) (.inl rfl) a0 a1 a2 cap0 cap1 len2 cap2 t w
  · by_cases hm : len1 ≤ 1000
    · exact ctells_ok key m tg len0 len1 len2 h0 hr hm a0 a1 a2 cap0 cap1 cap2 hc0 hc1 hc2 t w hC0 hC1 hC2
    · exact ctells_skip len0 len1 _ rfl (.inr ⟨by rw [roundsI_nat, ← h0]; intro h; exact hr (by omega), by omega⟩) a0 a1 a2 cap0 cap1 len2 cap2 t w
end Go.Proofs.Ytpdikfmdnlhllaa.Aes
