/-
  Strings that are put, in plain lists of numbers: digits, what stands ahead, and what is taken. No Go, no condition.
-/
import Derived.Test.YthijjpiddelefaaKit
import Derived.Lib.Bytes
namespace Go.Proofs.Ythijjpiddelefaa.CodeMath
open Go.RowKit
set_option linter.unusedVariables false
def IsB (l : List Int) : Prop := ∀ x ∈ l, 0 ≤ x ∧ x < 256
theorem IsB.nil : IsB [] := fun _ h => by cases h
theorem IsB.append {a b : List Int} (ha : IsB a) (hb : IsB b) : IsB (a ++ b) := fun x hx => (List.mem_append.1 hx).elim (ha x) (hb x)
theorem IsB.take {a : List Int} (ha : IsB a) (n : Nat) : IsB (a.take n) := fun x hx => ha x (List.mem_of_mem_take hx)
theorem IsB.drop {a : List Int} (ha : IsB a) (n : Nat) : IsB (a.drop n) := fun x hx => ha x (List.mem_of_mem_drop hx)
theorem IsB.cons {x : Int} {a : List Int} (h0 : 0 ≤ x) (h1 : x < 256) (ha : IsB a) : IsB (x :: a) := fun y hy => by
  rcases List.mem_cons.1 hy with rfl | h
  · exact ⟨h0, h1⟩
  · exact ha y h
theorem IsB.of_wf {l : List Int} (h : ∀ x ∈ l, (Lit.int .u8 x).wf = true) : IsB l := fun x hx => Byte.wf_u8 (h x hx)
theorem IsB.getD {a : List Int} (ha : IsB a) (i : Nat) : 0 ≤ a.getD i 0 ∧ a.getD i 0 < 256 := by
  rw [List.getD_eq_getElem?_getD]
  rcases Nat.lt_or_ge i a.length with h | h
  · rw [List.getElem?_eq_getElem h]; exact ha _ (List.getElem_mem h)
  · rw [List.getElem?_eq_none h]; exact ⟨by decide, by decide⟩
theorem IsB.zeros (n : Nat) : IsB (List.replicate n 0) := fun x hx => by
  rw [(List.mem_replicate.1 hx).2]; exact ⟨by decide, by decide⟩
theorem str_eq (a b : List Int) (ha : IsB a) (hb : IsB b) : ((strOfNums a).toList = (strOfNums b).toList) ↔ a = b := by
  constructor
  · intro h
    rw [Go.Lib.strOfNums_toList, Go.Lib.strOfNums_toList] at h
    unfold Go.Lib.bytesOf at h
    have hlen : a.length = b.length := by have := congrArg List.length h; simpa using this
    refine List.ext_getElem hlen fun i h1 h2 => ?_
    have := congrArg (fun l => l[i]?) h
    simp only [List.getElem?_map, List.getElem?_eq_getElem h1, List.getElem?_eq_getElem h2, Option.map_some, Option.some.injEq] at this
    have h3 := congrArg UInt8.toNat this
    have ka := ha _ (List.getElem_mem h1)
    have kb := hb _ (List.getElem_mem h2)
    simp only [UInt8.toNat_ofNat'] at h3
    omega
  · rintro rfl; rfl
/-! ### digits -/
/-- The digits behind the lowest one, lowest first. -/
def tl (n : Nat) : List Int := if h : n = 0 then [] else ((n % 256 : Nat) : Int) :: tl (n / 256)
termination_by n
decreasing_by omega
theorem tl_zero : tl 0 = [] := by rw [tl]; rfl
theorem tl_pos {n : Nat} (h : 0 < n) : tl n = ((n % 256 : Nat) : Int) :: tl (n / 256) := by rw [tl, dif_neg (by omega)]
def digs (n : Nat) : List Int := (tl (n / 256)).reverse ++ [((n % 256 : Nat) : Int)]
theorem digs_small {n : Nat} (h : n < 256) : digs n = [(n : Int)] := by
  unfold digs
  rw [show n / 256 = 0 by omega, tl_zero, show n % 256 = n by omega]; rfl
theorem digs_step {n : Nat} (h : 256 ≤ n) : digs n = digs (n / 256) ++ [((n % 256 : Nat) : Int)] := by
  unfold digs
  rw [tl_pos (show 0 < n / 256 by omega), List.reverse_cons]
theorem tl_len : ∀ k n, n < 256 ^ k → (tl n).length ≤ k
  | 0, n, h => by
    obtain rfl : n = 0 := by simpa using h
    rw [tl_zero]; exact Nat.le_refl _
  | k + 1, n, h => by
    rcases Nat.eq_zero_or_pos n with rfl | hp
    · rw [tl_zero]; exact Nat.zero_le _
    · rw [tl_pos hp, List.length_cons]
      have := tl_len k (n / 256) (by rw [Nat.pow_succ] at h; omega)
      omega
theorem digs_len (k n : Nat) (h : n < 256 ^ (k + 1)) : (digs n).length ≤ k + 1 := by
  unfold digs
  have := tl_len k (n / 256) (by rw [Nat.pow_succ] at h; omega)
  simp; omega
theorem digs_pos (n : Nat) : 0 < (digs n).length := by unfold digs; simp
theorem tl_b : ∀ n, IsB (tl n) := by
  intro n
  induction n using Nat.strongRecOn with
  | _ n ih =>
    rcases Nat.eq_zero_or_pos n with rfl | hp
    · rw [tl_zero]; exact IsB.nil
    · rw [tl_pos hp]
      exact IsB.cons (by omega) (by omega) (ih _ (by omega))
theorem digs_b (n : Nat) : IsB (digs n) := by
  unfold digs
  refine IsB.append (fun x hx => tl_b _ x (List.mem_reverse.1 hx)) (IsB.cons (by omega) (by omega) IsB.nil)
def val (l : List Int) : Nat := l.foldl (fun a x => a * 256 + x.toNat) 0
theorem val_snoc (l : List Int) (x : Int) : val (l ++ [x]) = val l * 256 + x.toNat := by unfold val; rw [List.foldl_append]; rfl
theorem val_digs : ∀ n, val (digs n) = n := by
  intro n
  induction n using Nat.strongRecOn with
  | _ n ih =>
    rcases Nat.lt_or_ge n 256 with h | h
    · rw [digs_small h]; unfold val; simp
    · rw [digs_step h, val_snoc, ih _ (by omega)]; omega
theorem fold_ge (l : List Int) : ∀ a, a ≤ l.foldl (fun a x => a * 256 + x.toNat) a := by
  induction l with
  | nil => intro a; rw [List.foldl_nil]; exact Nat.le_refl _
  | cons x l ih =>
    intro a
    rw [List.foldl_cons]
    have h1 := ih (a * 256 + x.toNat)
    have h2 : a ≤ a * 256 + x.toNat := by omega
    exact Nat.le_trans h2 h1
theorem val_pos {l : List Int} (hb : IsB l) (h0 : 0 < l.length) (h : l.getD 0 0 ≠ 0) : 0 < val l := by
  cases l with
  | nil => simp at h0
  | cons x l =>
    have hx : x ≠ 0 := h
    have hx0 := (hb x (List.mem_cons_self ..)).1
    have h2 : 0 < x.toNat := by clear h hb h0; omega
    unfold val
    rw [List.foldl_cons, Nat.zero_mul, Nat.zero_add]
    exact Nat.lt_of_lt_of_le h2 (fold_ge l x.toNat)
theorem snoc_of {l : List Int} (h : 0 < l.length) : ∃ a x, l = a ++ [x] := ⟨l.dropLast, l.getLast (by intro h'; rw [h'] at h; simp at h), (List.dropLast_concat_getLast _).symm⟩
/-- Digits without a 0 ahead are those of their number. -/
theorem digs_val : ∀ n (l : List Int), l.length = n → 0 < n → IsB l → (1 < l.length → l.getD 0 0 ≠ 0) → digs (val l) = l := by
  intro n
  induction n with
  | zero => intro l _ h; omega
  | succ n ih =>
    intro l hl _ hb hm
    obtain ⟨a, x, rfl⟩ := snoc_of (by omega : 0 < l.length)
    have hx := hb x (by simp)
    have ha : IsB a := fun y hy => hb y (by simp [hy])
    rw [val_snoc]
    rcases Nat.eq_zero_or_pos a.length with h0 | h0
    · have : a = [] := List.eq_nil_of_length_eq_zero h0
      subst this
      have e : val [] = 0 := rfl
      rw [e, Nat.zero_mul, Nat.zero_add, digs_small (by omega)]
      simp; omega
    · have hlen : 1 < (a ++ [x]).length := by simp; omega
      have hm' := hm hlen
      have e0 : (a ++ [x]).getD 0 0 = a.getD 0 0 := by
        rw [List.getD_eq_getElem?_getD, List.getElem?_append_left h0, List.getD_eq_getElem?_getD]
      rw [e0] at hm'
      have hp := val_pos ha h0 hm'
      have key := ih a (by simp at hl; omega) (by simp at hl; omega) ha (fun _ => hm')
      have e2 : (val a * 256 + x.toNat) / 256 = val a := by omega
      have e3 : (val a * 256 + x.toNat) % 256 = x.toNat := by omega
      rw [digs_step (by omega), e2, e3, key]
      congr 2
      omega
theorem digs_head {n : Nat} (h : 256 ≤ n) : (digs n).getD 0 0 ≠ 0 := by
  induction n using Nat.strongRecOn with
  | _ n ih =>
    rw [digs_step h]
    have h0 := digs_pos (n / 256)
    rw [List.getD_eq_getElem?_getD, List.getElem?_append_left h0, ← List.getD_eq_getElem?_getD]
    rcases Nat.lt_or_ge (n / 256) 256 with h2 | h2
    · rw [digs_small h2]
      show ((n / 256 : Nat) : Int) ≠ 0
      omega
    · exact ih _ (by omega) h2
theorem digs_min (n : Nat) (h : 1 < (digs n).length) : (digs n).getD 0 0 ≠ 0 := by
  rcases Nat.lt_or_ge n 256 with h2 | h2
  · rw [digs_small h2] at h; simp at h
  · exact digs_head h2
/-! ### what stands ahead -/
def leftL (n : Nat) : List Int := ((digs n).length : Int) :: digs n
def rightL (n : Nat) : List Int := digs n ++ [((digs n).length : Int)]
def strL (l : List Int) : List Int := leftL (8 * l.length) ++ l
theorem leftL_len (n : Nat) : (leftL n).length = (digs n).length + 1 := by simp [leftL]
theorem leftL_b {n : Nat} (h : n < 256 ^ 9) : IsB (leftL n) := by
  have := digs_len 8 n h
  exact IsB.cons (by omega) (by omega) (digs_b n)
theorem rightL_b {n : Nat} (h : n < 256 ^ 9) : IsB (rightL n) := by
  have := digs_len 8 n h
  exact IsB.append (digs_b n) (IsB.cons (by omega) (by omega) IsB.nil)
theorem leftL_inj {a b : Nat} (h : leftL a = leftL b) : a = b := by
  unfold leftL at h
  rw [List.cons.injEq] at h
  rw [← val_digs a, ← val_digs b, h.2]
/-- Does l begin with a string of n bytes, that is put? -/
def Puts (l : List Int) (n : Nat) : Prop := (leftL (8 * n)).length ≤ 5 ∧ n + (leftL (8 * n)).length ≤ l.length ∧ l.take (leftL (8 * n)).length = leftL (8 * n)
instance (l : List Int) (n : Nat) : Decidable (Puts l n) := by unfold Puts; infer_instance
theorem Puts.head {l : List Int} {n : Nat} (h : Puts l n) : l.getD 0 0 = ((digs (8 * n)).length : Int) ∧ (l.drop 1).take (digs (8 * n)).length = digs (8 * n) := by
  obtain ⟨h1, h2, h3⟩ := h
  rw [leftL_len] at h1 h2 h3
  cases l with
  | nil => simp at h2
  | cons x l =>
    rw [List.take_succ_cons] at h3
    unfold leftL at h3
    rw [List.cons.injEq] at h3
    exact ⟨h3.1, h3.2⟩
theorem Puts.uniq {l : List Int} {n m : Nat} (hn : Puts l n) (hm : Puts l m) : n = m := by
  have h1 := hn.head
  have h2 := hm.head
  have e : (digs (8 * n)).length = (digs (8 * m)).length := by omega
  have e2 : digs (8 * n) = digs (8 * m) := by rw [← h1.2, ← h2.2, e]
  have := congrArg val e2
  rw [val_digs, val_digs] at this
  omega
/-- What a Take hands back: the string's bytes, how many bytes it is put in, and whether there is one. -/
def takeN (l : List Int) : Option Nat := (List.range (l.length + 1)).find? fun n => decide (Puts l n)
def takeRes (l : List Int) : List Int × Int × Bool := match takeN l with
  | some n => ((l.drop (leftL (8 * n)).length).take n, (((leftL (8 * n)).length + n : Nat) : Int), true)
  | none => ([], 0, false)
theorem takeN_of {l : List Int} {n : Nat} (h : Puts l n) : takeN l = some n := by
  unfold takeN
  rw [List.find?_eq_some_iff_append]
  refine ⟨by simpa using h, List.range n, (List.range' (n + 1) (l.length - n)), ?_, fun m hm => ?_⟩
  · have := h.2.1
    rw [List.range_eq_range', List.range_eq_range', show l.length + 1 = n + (1 + (l.length - n)) by omega, ← List.range'_append_1, Nat.zero_add, ← List.range'_append_1]
    rfl
  · rw [List.mem_range] at hm
    simp only [Bool.not_eq_true', decide_eq_false_iff_not]
    intro h2
    have := h.uniq h2
    omega
theorem takeN_none {l : List Int} (h : ∀ n, ¬ Puts l n) : takeN l = none := by
  unfold takeN
  rw [List.find?_eq_none]
  intro n _
  simpa using h n
theorem takeN_some {l : List Int} {n : Nat} (h : takeN l = some n) : Puts l n := by
  unfold takeN at h
  have := List.find?_some h
  simpa using this
theorem takeRes_of {l : List Int} {n : Nat} (h : Puts l n) : takeRes l = ((l.drop (leftL (8 * n)).length).take n, (((leftL (8 * n)).length + n : Nat) : Int), true) := by
  unfold takeRes
  rw [takeN_of h]
theorem takeRes_none {l : List Int} (h : ∀ n, ¬ Puts l n) : takeRes l = ([], 0, false) := by
  unfold takeRes
  rw [takeN_none h]
theorem digs_len4 {n : Nat} (h : n < 4294967296) : (digs n).length ≤ 4 := digs_len 3 n (by simpa using h)
theorem puts_str (a d : List Int) (h : a.length ≤ 500000000) : Puts (strL a ++ d) a.length := by
  unfold strL
  have := digs_len4 (n := 8 * a.length) (by omega)
  refine ⟨by rw [leftL_len]; omega, by simp; omega, ?_⟩
  rw [List.append_assoc, List.take_left']
  rfl
theorem take_str (a d : List Int) (h : a.length ≤ 500000000) : takeRes (strL a ++ d) = (a, ((strL a).length : Int), true) := by
  rw [takeRes_of (puts_str a d h)]
  unfold strL
  rw [List.append_assoc, List.drop_left', List.take_left']
  · simp
  · rfl
  · rfl
theorem str_apart {a b c d : List Int} (ha : a.length ≤ 500000000) (hc : c.length ≤ 500000000) (h : strL a ++ b = strL c ++ d) : a = c ∧ b = d := by
  have h1 := take_str a b ha
  have h2 := take_str c d hc
  rw [h, h2] at h1
  injection h1 with e1 e2
  subst e1
  exact ⟨rfl, List.append_cancel_left h⟩
/-- What was taken, put again, is what stood there. -/
theorem puts_back {l : List Int} {n : Nat} (h : Puts l n) : l = strL ((l.drop (leftL (8 * n)).length).take n) ++ l.drop ((leftL (8 * n)).length + n) := by
  have hl : ((l.drop (leftL (8 * n)).length).take n).length = n := by have := h.2.1; simp; omega
  unfold strL
  rw [hl, ← List.drop_drop, List.append_assoc, List.take_append_drop]
  conv => lhs; rw [← List.take_append_drop (leftL (8 * n)).length l, h.2.2]
/-! ### what is padded -/
def padN (n w : Nat) : Nat := if n % w = 0 then 0 else w - n % w
def padL (l : List Int) (w : Nat) : List Int := (leftL w ++ l) ++ List.replicate (padN (leftL w ++ l).length w) 0
theorem padN_lt (n w : Nat) (h : 0 < w) : padN n w < w := by
  unfold padN
  have := Nat.mod_lt n h
  split <;> omega
theorem padN_mod (n w : Nat) (h : 0 < w) : (n + padN n w) % w = 0 := by
  unfold padN
  have hlt := Nat.mod_lt n h
  split
  · simpa
  · have e : n + (w - n % w) = w * (n / w + 1) := by
      have := Nat.div_add_mod n w
      rw [Nat.mul_add]
      omega
    rw [e, Nat.mul_mod_right]
end Go.Proofs.Ythijjpiddelefaa.CodeMath
