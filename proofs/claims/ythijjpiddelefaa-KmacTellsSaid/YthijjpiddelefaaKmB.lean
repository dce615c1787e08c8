/-
  Merged texts, what is reached of them: PureSpongeTells, CodeSp, SpNamed, PureKm: walks and plain lemmas; no condition.
-/
import Derived.Test.YthijjpiddelefaaPSk4
import Derived.Test.YthijjpiddelefaaSpBase
import Derived.Test.YthijjpiddelefaaKmDef
namespace Go.Proofs.Ythijjpiddelefaa.Pure
open Go.Proofs.Ythijjpiddelefaa Go.RowKit Go.Proofs.Ythijjpiddelefaa.SpSum Go.Proofs.Ythijjpiddelefaa.Sponge Go.Proofs.Ythijjpiddelefaa.PSp Go.Proofs.YthijjpiddelefaaW.PrintWords Go.Proofs.YthijjpiddelefaaW.PrintLast CodeMath SpMath
set_option linter.unusedVariables false
theorem sum_eq (m : List Int) (rate mark n : Int) (h : Rateds rate) (hm : m.length ≤ 1000000000) (hb : IsB m) (hk : 0 ≤ mark ∧ mark < 256) (hn : 0 ≤ n ∧ n ≤ 65536) : sponge_Sum.f m rate mark n = some (sumL m rate.toNat mark n.toNat, 0) := by
  unfold sponge_Sum.f
  rw [if_pos h, if_pos ⟨hm, (allB_iff m).2 hb, hk⟩, if_pos hn]
theorem sum_big (m : List Int) (rate mark n : Int) (h : Rateds rate) (hm : m.length ≤ 1000000000) (hb : IsB m) (hk : 0 ≤ mark ∧ mark < 256) (hn : ¬ (0 ≤ n ∧ n ≤ 65536)) : sponge_Sum.f m rate mark n = some ([], 1) := by
  unfold sponge_Sum.f
  rw [if_pos h, if_pos ⟨hm, (allB_iff m).2 hb, hk⟩, if_neg hn]
theorem rsum_eq (m : List Int) (rate mark n : Int) (h : Rateds rate) (hm : m.length ≤ 1000000000) (hb : IsB m) (hk : 0 ≤ mark ∧ mark < 256) (hn : 0 ≤ n ∧ n ≤ 65536) : visorref15_Sum.f m rate mark n = some (sumL m rate.toNat mark n.toNat) := by
  unfold visorref15_Sum.f
  rw [if_pos ⟨hm, h.1, h.2.1, h.2.2, hn.1, by omega, (allB_iff m).2 hb, hk.1, hk.2⟩]
theorem rrate_eq (x : Int) : PKec.visorref15_Rate.f x = PKec.sponge_Rate.f x := rfl
end Go.Proofs.Ythijjpiddelefaa.Pure
namespace Go.Proofs.Ythijjpiddelefaa.CodeSp
open Go.RowKit Go.Proofs.Ythijjpiddelefaa.PSp Go.Proofs.YthijjpiddelefaaW.PrintWords Go.Proofs.YthijjpiddelefaaW.PrintLast Go.Proofs.YthijjpiddelefaaW.PrintMore Byte CodeMath Concat
set_option linter.unusedVariables false
theorem Ev.map {α β : Type} {g : Nat → Option α} {r : α} (h : Ev g r) (f : α → Option β) {q : β} (hf : f r = some q) : Ev (fun n => (g n).bind f) q := Ev.bind h ⟨0, fun _ _ => hf⟩
theorem rev_l0 (l : List Int) (n : Nat) (hl : l.length = n) (hb : n ≤ 1099511627776) : ∀ d k (x : List Int) (i : Nat), x.length = n → (∀ p, p < n → x.getD p 0 = if p < i ∨ n ≤ p + i then l.getD (n - 1 - p) 0 else l.getD p 0) → 2 * i ≤ n + 1 → n - 2 * i ≤ 2 * d + 1 → d < k →
    slices_Reverse_byte_byte.l0 k x (i : Int) ((n : Int) - 1 - i) = some l.reverse := by
  intro d
  induction d with
  | zero =>
    intro k x i hx hp hi hd hk
    obtain ⟨k, rfl⟩ : ∃ m, k = m + 1 := ⟨k - 1, by omega⟩
    simp only [slices_Reverse_byte_byte.l0]
    rw [if_neg (by omega)]
    congr 1
    refine List.ext_getElem (by simp; omega) fun p h1 h2 => ?_
    have h3 : p < n := by omega
    have := hp p h3
    rw [List.getD_eq_getElem?_getD, List.getElem?_eq_getElem h1] at this
    rw [List.getElem_reverse]
    have e : (if p < i ∨ n ≤ p + i then l.getD (n - 1 - p) 0 else l.getD p 0) = l.getD (n - 1 - p) 0 := by
      by_cases h : p < i ∨ n ≤ p + i
      · rw [if_pos h]
      · rw [if_neg h]
        congr 1
        omega
    rw [e, List.getD_eq_getElem?_getD, List.getElem?_eq_getElem (by omega)] at this
    simp only [Option.getD_some] at this
    rw [this]
    congr 1
    omega
  | succ d ih =>
    intro k x i hx hp hi hd hk
    by_cases hlt : 2 * i + 1 < n
    · obtain ⟨k, rfl⟩ : ∃ m, k = m + 1 := ⟨k - 1, by omega⟩
      simp only [slices_Reverse_byte_byte.l0]
      rw [if_pos (by omega), if_pos (by omega), if_pos (by omega), if_pos (by omega), if_pos (by omega), w64 (by omega) (by omega), w64 (by omega) (by omega)]
      have ej : ((n : Int) - 1 - i).toNat = n - 1 - i := by omega
      have er : ∀ (j : Nat), rd x (j : Int) = x.getD j 0 := fun j => by unfold rd; rw [Int.toNat_natCast]
      have er2 : rd x ((n : Int) - 1 - i) = x.getD (n - 1 - i) 0 := by unfold rd; rw [ej]
      rw [Int.toNat_natCast, ej, er, er2, hp i (by omega), hp (n - 1 - i) (by omega), if_neg (by omega), if_neg (by omega)]
      have e2 : (n : Int) - 1 - i - 1 = (n : Int) - 1 - ((i + 1 : Nat) : Int) := by omega
      rw [e2]
      refine ih k _ (i + 1) (by simp [hx]) (fun p hpn => ?_) (by omega) (by omega) (by omega)
      have hpx := hp p hpn
      rw [List.getD_eq_getElem?_getD] at hpx
      rw [List.getD_eq_getElem?_getD, List.getElem?_set, List.length_set, List.getElem?_set]
      by_cases h1 : n - 1 - i = p
      · rw [if_pos h1, if_pos (by omega), if_pos (Or.inr (by omega))]
        simp only [Option.getD_some]
        congr 1; omega
      · rw [if_neg h1]
        by_cases h2 : i = p
        · rw [if_pos h2, if_pos (by omega), if_pos (Or.inl (by omega))]
          simp only [Option.getD_some]
          congr 1; omega
        · rw [if_neg h2, hpx]
          by_cases h3 : p < i ∨ n ≤ p + i
          · rw [if_pos h3, if_pos (by omega)]
          · rw [if_neg h3, if_neg (by omega)]
    · exact ih k x i hx hp hi (by omega) (by omega)
theorem rev_ev (l : List Int) (hb : l.length ≤ 1099511627776) : Ev (fun k => slices_Reverse_byte_byte.f k l) l.reverse := by
  refine ⟨l.length + 1, fun k hk => ?_⟩
  show slices_Reverse_byte_byte.f k l = _
  unfold slices_Reverse_byte_byte.f
  rw [w64 (by omega) (by omega)]
  have := rev_l0 l l.length rfl hb l.length k l 0 rfl (fun p hp => by rw [if_neg (by omega)]) (by omega) (by omega) (by omega)
  have e : ((l.length : Int) - 1 - ((0 : Nat) : Int)) = (l.length : Int) - 1 := by omega
  rw [e] at this
  exact this
theorem digits_l0 : ∀ n : Nat, ∀ acc : List Int, acc.length + (tl n).length ≤ 1000 → Ev (fun k => code_digits.l0 k (n : Int) acc) (acc ++ tl n).reverse := by
  intro n
  induction n using Nat.strongRecOn with
  | _ n ih =>
    intro acc hl
    rcases Nat.eq_zero_or_pos n with rfl | hp
    · rw [tl_zero, List.append_nil]
      refine Ev.step (f := fun k => (slices_Reverse_byte_byte.f k acc).bind fun t => some t) (fun k => ?_) ?_
      · simp only [code_digits.l0]
        rw [if_neg (by decide)]
      · exact Ev.map (rev_ev acc (by omega)) _ rfl
    · rw [tl_pos hp, List.length_cons] at hl
      refine Ev.step (f := fun k => code_digits.l0 k ((n / 256 : Nat) : Int) (acc ++ [((n % 256 : Nat) : Int)])) (fun k => ?_) ?_
      · simp only [code_digits.l0]
        rw [if_pos (by omega), if_pos (by omega)]
        congr 1
      · have := ih (n / 256) (by omega) (acc ++ [((n % 256 : Nat) : Int)]) (by simp; omega)
        rw [tl_pos hp]
        simpa using this
theorem digits_ev (n : Nat) (h : n < 18446744073709551616) : Ev (fun k => code_digits.f k (n : Int)) (digs n) := by
  have hl := tl_len 8 (n / 256) (Nat.lt_of_le_of_lt (Nat.div_le_self _ _) (by simpa using h))
  have := digits_l0 (n / 256) [((n % 256 : Nat) : Int)] (by simp; omega)
  unfold digs
  have e : ([((n % 256 : Nat) : Int)] ++ tl (n / 256)).reverse = (tl (n / 256)).reverse ++ [((n % 256 : Nat) : Int)] := by simp
  rw [e] at this
  exact this
theorem concat2 (a b : List Int) (h : a.length + b.length < 140737488355328) : slices_Concat_byte_byte.f [a, b] = some (a ++ b) := by
  unfold slices_Concat_byte_byte.f total
  rw [if_pos (by simpa using h)]
  simp
theorem join2 (a b : List Int) (h : a.length + b.length < 140737488355328) : code_join.f [a, b] = some (a ++ b) := by
  unfold code_join.f
  rw [concat2 a b h]; rfl
theorem digs_le9 {n : Nat} (h : n < 18446744073709551616) : (digs n).length ≤ 8 := digs_len 7 n (by simpa using h)
theorem left_ev (n : Nat) (h : n < 18446744073709551616) : Ev (fun k => code_Left.f k (n : Int)) (leftL n) := by
  have hd := digs_le9 h
  refine Ev.congr (f := fun k => (code_digits.f k (n : Int)).bind fun t115 => ((code_join.f (([(([((t115.length : Int)) % 256] : List Int)), t115] : List (List Int)))).bind fun t124 => (some t124))) (fun k => ?_) ?_
  · unfold code_Left.f
    rw [if_neg (by omega)]
  · refine Ev.map (digits_ev n h) _ ?_
    rw [join2 _ _ (by simp; omega)]
    simp only [Option.bind_some]
    have : ((digs n).length : Int) % 256 = (digs n).length := by omega
    rw [this]; rfl
theorem right_ev (n : Nat) (h : n < 18446744073709551616) : Ev (fun k => code_Right.f k (n : Int)) (rightL n) := by
  have hd := digs_le9 h
  refine Ev.congr (f := fun k => (code_digits.f k (n : Int)).bind fun t127 => ((code_join.f (([t127, (([((t127.length : Int)) % 256] : List Int))] : List (List Int)))).bind fun t136 => (some t136))) (fun k => ?_) ?_
  · unfold code_Right.f
    rw [if_neg (by omega)]
  · refine Ev.map (digits_ev n h) _ ?_
    rw [join2 _ _ (by simp; omega)]
    simp only [Option.bind_some]
    have : ((digs n).length : Int) % 256 = (digs n).length := by omega
    rw [this]; rfl
theorem leftL_le {n : Nat} (h : n < 18446744073709551616) : (leftL n).length ≤ 9 := by
  have := digs_le9 h
  rw [leftL_len]; omega
theorem str_ev (l : List Int) (h : l.length ≤ 140737488351232) : Ev (fun k => code_Str.f k l) (strL l) := by
  have h2 := leftL_le (n := 8 * l.length) (by omega)
  refine Ev.congr (f := fun k => (code_Left.f k ((8 * l.length : Nat) : Int)).bind fun t145 => ((code_join.f (([t145, l] : List (List Int)))).bind fun t151 => (some t151))) (fun k => ?_) ?_
  · unfold code_Str.f
    rw [w64 (by omega) (by omega)]
    congr 2
  · refine Ev.map (left_ev _ (by omega)) _ ?_
    rw [join2 _ _ (by omega)]; rfl
theorem rdigits_ev : ∀ n : Nat, n < 9223372036854775808 → Ev (fun k => visorref14_Digits.f k (n : Int)) (digs n) := by
  intro n
  induction n using Nat.strongRecOn with
  | _ n ih =>
    intro h
    rcases Nat.lt_or_ge n 256 with h2 | h2
    · refine ⟨1, fun k hk => ?_⟩
      obtain ⟨k, rfl⟩ : ∃ m, k = m + 1 := ⟨k - 1, by omega⟩
      simp only [visorref14_Digits.f]
      rw [if_pos (by omega), digs_small h2]
      have : (n : Int) % 256 = n := by omega
      rw [this]
    · have hd := digs_le9 (n := n / 256) (by omega)
      refine Ev.step (f := fun k => (visorref14_Digits.f k ((n / 256 : Nat) : Int)).bind fun t => if t.length < 140737488355328 then some (t ++ [((n % 256 : Nat) : Int)]) else none) (fun k => ?_) ?_
      · simp only [visorref14_Digits.f]
        rw [if_neg (by omega)]
        have e1 : wrap64 (Int.tdiv (n : Int) 256) = ((n / 256 : Nat) : Int) := by
          rw [Int.tdiv_eq_ediv_of_nonneg (by omega), w64 (by omega) (by omega)]; omega
        have e2 : (Int.tmod (n : Int) 256) % 256 = ((n % 256 : Nat) : Int) := by
          rw [Int.tmod_eq_emod_of_nonneg (by omega)]; omega
        rw [e1, e2]
      · refine Ev.map (ih (n / 256) (by omega) (by omega)) _ ?_
        rw [if_pos (by omega), ← digs_step h2]
theorem rleft_ev (n : Nat) (h : n < 9223372036854775808) : Ev (fun k => visorref14_Left.f k (n : Int)) (leftL n) := by
  have hd := digs_le9 (n := n) (by omega)
  refine Ev.congr (f := fun k => (visorref14_Digits.f k (n : Int)).bind fun t209 => ((some (([((t209.length : Int)) % 256] : List Int) : List Int)).bind fun y212 => (if y212.length + t209.length < 140737488355328 then (some (y212 ++ t209)) else (none)))) (fun k => ?_) ?_
  · unfold visorref14_Left.f
    rw [if_neg (by omega)]
  · refine Ev.map (rdigits_ev n h) _ ?_
    simp only [Option.bind_some]
    rw [if_pos (by simp; omega)]
    have : ((digs n).length : Int) % 256 = (digs n).length := by omega
    rw [this]; rfl
theorem rright_ev (n : Nat) (h : n < 9223372036854775808) : Ev (fun k => visorref14_Right.f k (n : Int)) (rightL n) := by
  have hd := digs_le9 (n := n) (by omega)
  refine Ev.congr (f := fun k => (visorref14_Digits.f k (n : Int)).bind fun t238 => (if t238.length < 140737488355328 then (some (t238 ++ [((t238.length : Int)) % 256])) else (none))) (fun k => ?_) ?_
  · unfold visorref14_Right.f
    rw [if_neg (by omega)]
  · refine Ev.map (rdigits_ev n h) _ ?_
    rw [if_pos (by omega)]
    have : ((digs n).length : Int) % 256 = (digs n).length := by omega
    rw [this]; rfl
theorem rstr_ev (l : List Int) (h : l.length ≤ 140737488351232) : Ev (fun k => visorref14_Str.f k l) (strL l) := by
  have h2 := leftL_le (n := 8 * l.length) (by omega)
  refine Ev.congr (f := fun k => (visorref14_Left.f k ((8 * l.length : Nat) : Int)).bind fun t244 => (if t244.length + l.length < 140737488355328 then (some (t244 ++ l)) else (none))) (fun k => ?_) ?_
  · unfold visorref14_Str.f
    rw [w64 (by omega) (by omega)]
    congr 2
  · refine Ev.map (rleft_ev _ (by omega)) _ ?_
    rw [if_pos (by omega)]; rfl
theorem pad_ev (l : List Int) (w : Nat) (hw : 0 < w) (hw2 : w ≤ 1000) (h : l.length ≤ 140737488351232) : Ev (fun k => code_Pad.f k l (w : Int)) (padL l w, 0) := by
  have h2 := leftL_le (n := w) (by omega)
  have hp := padN_lt (leftL w ++ l).length w hw
  refine Ev.congr (f := fun k => code_Pad.j0 k l (w : Int) false) (fun k => ?_) ?_
  · unfold code_Pad.f
    rw [if_neg (by omega)]
    congr 1
    exact decide_eq_false (by omega)
  · refine Ev.step (f := fun k => ((code_Left.f k (w : Int)).bind fun t188 => ((code_join.f (([t188, l] : List (List Int)))).bind fun t194 => (if (w : Int) = 0 then (none) else (if ((t194.length : Int) % (w : Int)) > 0 then (if 0 ≤ (wrap64 ((w : Int) - ((t194.length : Int) % (w : Int)))) then (if t194.length + (wrap64 ((w : Int) - ((t194.length : Int) % (w : Int))) : Int).toNat < 140737488355328 then (some ((t194 ++ List.replicate (wrap64 ((w : Int) - ((t194.length : Int) % (w : Int))) : Int).toNat 0), 0)) else (none)) else (none)) else (some (t194, 0))))))) (fun k => ?_) ?_
    · simp only [code_Pad.j0]
      rw [if_neg (by decide)]
    · refine Ev.map (left_ev w (by omega)) _ ?_
      rw [join2 _ _ (by omega)]
      simp only [Option.bind_some]
      rw [if_neg (by omega)]
      unfold padL
      generalize hx : leftL w ++ l = x at *
      have hxl : x.length ≤ 140737488351232 + 9 := by rw [← hx, List.length_append]; omega
      have em : (x.length : Int) % (w : Int) = ((x.length % w : Nat) : Int) := by omega
      rw [em]
      by_cases h0 : x.length % w = 0
      · rw [if_neg (by omega)]
        unfold padN
        rw [if_pos h0]
        simp
      · have hlt := Nat.mod_lt x.length hw
        have e1 : wrap64 ((w : Int) - ((x.length % w : Nat) : Int)) = ((w - x.length % w : Nat) : Int) := by rw [w64 (by omega) (by omega)]; omega
        rw [if_pos (by omega), e1, if_pos (by omega), Int.toNat_natCast, if_pos (by omega)]
        unfold padN
        rw [if_neg h0]
theorem rpad_l0 (w : Nat) (hw : 0 < w) : ∀ d (x : List Int), padN x.length w = d → x.length + d < 140737488355328 → Ev (fun k => visorref14_Pad.l0 k (w : Int) x) (x ++ List.replicate d 0, 0) := by
  intro d
  induction d with
  | zero =>
    intro x hd hl
    refine Ev.step (f := fun k => some (x, 0)) (fun k => ?_) ⟨0, fun _ _ => by simp⟩
    simp only [visorref14_Pad.l0]
    have h0 : x.length % w = 0 := by
      unfold padN at hd
      have := Nat.mod_lt x.length hw
      split at hd
      · assumption
      · omega
    rw [if_neg (by omega), if_pos (by omega)]
  | succ d ih =>
    intro x hd hl
    have hlt := Nat.mod_lt x.length hw
    have h0 : x.length % w ≠ 0 ∧ w - x.length % w = d + 1 := by
      unfold padN at hd
      split at hd
      · omega
      · exact ⟨by assumption, hd⟩
    refine Ev.step (f := fun k => visorref14_Pad.l0 k (w : Int) (x ++ [0])) (fun k => ?_) ?_
    · simp only [visorref14_Pad.l0]
      rw [if_neg (by omega), if_neg (by omega), if_pos (by omega)]
    · have hn : padN (x ++ [0]).length w = d := by
        have e : (x ++ [0]).length = x.length + 1 := by simp
        rw [e]
        unfold padN
        have hdm := Nat.div_add_mod x.length w
        rcases Nat.eq_zero_or_pos d with hz | hz
        · have : (x.length + 1) % w = 0 := by
            have e3 : x.length + 1 = w * (x.length / w + 1) := by rw [Nat.mul_add]; omega
            rw [e3, Nat.mul_mod_right]
          rw [if_pos this]; omega
        · have : (x.length + 1) % w = x.length % w + 1 := by
            have e3 : x.length + 1 = (x.length % w + 1) + w * (x.length / w) := by omega
            rw [e3, Nat.add_mul_mod_self_left, Nat.mod_eq_of_lt (by omega)]
          rw [this, if_neg (by omega)]; omega
      have := ih (x ++ [0]) hn (by simp; omega)
      rw [List.append_assoc] at this
      exact this
theorem rpad_ev (l : List Int) (w : Nat) (hw : 0 < w) (hw2 : w ≤ 1000) (h : l.length ≤ 140737488351232) : Ev (fun k => visorref14_Pad.f k l (w : Int)) (padL l w, 0) := by
  have h2 := leftL_le (n := w) (by omega)
  have hp := padN_lt (leftL w ++ l).length w hw
  refine Ev.congr (f := fun k => visorref14_Pad.j0 k l (w : Int) false) (fun k => ?_) ?_
  · unfold visorref14_Pad.f
    rw [if_neg (by omega)]
    congr 1
    exact decide_eq_false (by omega)
  · refine Ev.step (f := fun k => ((visorref14_Left.f k (w : Int)).bind fun t218 => (if t218.length + l.length < 140737488355328 then (visorref14_Pad.l0 k (w : Int) (t218 ++ l)) else (none)))) (fun k => ?_) ?_
    · simp only [visorref14_Pad.j0]
      rw [if_neg (by decide)]
    · refine Ev.bind (rleft_ev w (by omega)) ?_
      refine Ev.congr (f := fun k => visorref14_Pad.l0 k (w : Int) (leftL w ++ l)) (fun k => if_pos (by omega)) ?_
      exact rpad_l0 w hw _ _ rfl (by rw [List.length_append] at hp ⊢; omega)
end Go.Proofs.Ythijjpiddelefaa.CodeSp
namespace Go.Proofs.Ythijjpiddelefaa.SpNamed
open Go.Proofs.Ythijjpiddelefaa Go.RowKit Go.Proofs.Ythijjpiddelefaa.SpSum Go.Proofs.Ythijjpiddelefaa.Sponge Go.Proofs.Ythijjpiddelefaa.PSp Go.Proofs.YthijjpiddelefaaW.PrintWords Go.Proofs.YthijjpiddelefaaW.PrintLast CodeMath SpMath CodeSp Go.Proofs.Ythijjpiddelefaa.Pure Concat
set_option linter.unusedVariables false
/-- Of which numbers there are hashes of any length. -/
def Bits (b : Int) : Prop := b = 128 ∨ b = 256
instance (b : Int) : Decidable (Bits b) := by unfold Bits; infer_instance
def rateN (b : Int) : Nat := if b = 128 then 168 else 136
theorem rate_bits {b : Int} (h : Bits b) : PKec.sponge_Rate.f b = some (rateN b : Int) := by
  rcases h with rfl | rfl <;> decide +kernel
theorem long_bits {b : Int} (h : Bits b) : sponge_long.f b = some (rateN b : Int) := by
  rcases h with rfl | rfl <;> decide +kernel
theorem rateN_cases (b : Int) : rateN b = 168 ∨ rateN b = 136 := by unfold rateN; split <;> simp
theorem rateN_ok (b : Int) : Rateds (rateN b : Int) := by
  rcases rateN_cases b with h | h <;> rw [h] <;> decide
/-- What is told, with a name. -/
def namedL (b : Int) (name custom m : List Int) (n : Nat) : List Int :=
  if name.length = 0 ∧ custom.length = 0 then sumL m (rateN b) 31 n else sumL (padL (strL name ++ strL custom) (rateN b) ++ m) (rateN b) 4 n
theorem shake_ok {b : Int} (hb : Bits b) (m : List Int) (n : Int) (hm : m.length ≤ 1000000000) (hmb : IsB m) (hn : 0 ≤ n ∧ n ≤ 65536) : sponge_Shake.f b m n = some (sumL m (rateN b) 31 n.toNat, 0) := by
  unfold sponge_Shake.f
  rw [long_bits hb]
  simp only [Option.bind_some]
  rw [sum_eq m _ 31 n (rateN_ok b) hm hmb (by decide) hn]
  rw [Int.toNat_natCast]; rfl
theorem shake_big {b : Int} (hb : Bits b) (m : List Int) (n : Int) (hm : m.length ≤ 1000000000) (hmb : IsB m) (hn : ¬ (0 ≤ n ∧ n ≤ 65536)) : sponge_Shake.f b m n = some ([], 1) := by
  unfold sponge_Shake.f
  rw [long_bits hb]
  simp only [Option.bind_some]
  rw [sum_big m _ 31 n (rateN_ok b) hm hmb (by decide) hn]
  rfl
theorem strL_len (l : List Int) (h : l.length ≤ 1000000) : (strL l).length ≤ l.length + 9 := by
  unfold strL
  rw [List.length_append]
  have := leftL_le (n := 8 * l.length) (by omega)
  omega
theorem lt9 {n : Nat} (h : n < 16777216) : n < 256 ^ 9 := Nat.lt_of_lt_of_le (show n < 256 ^ 3 by rw [show (256 : Nat) ^ 3 = 16777216 by decide]; exact h) (Nat.pow_le_pow_right (by decide) (by decide))
theorem strL_b (l : List Int) (h : l.length ≤ 1000000) (hb : IsB l) : IsB (strL l) := IsB.append (leftL_b (lt9 (by omega))) hb
theorem padL_len (l : List Int) (w : Nat) (hw : 0 < w) (hw2 : w ≤ 1000) : (padL l w).length ≤ l.length + 9 + w := by
  unfold padL
  rw [List.length_append, List.length_replicate]
  have h1 := padN_lt (leftL w ++ l).length w hw
  have h2 := leftL_le (n := w) (by omega)
  rw [List.length_append] at h1 ⊢
  omega
theorem padL_b (l : List Int) (w : Nat) (hw2 : w ≤ 1000) (hb : IsB l) : IsB (padL l w) := IsB.append (IsB.append (leftL_b (lt9 (by omega))) hb) (IsB.zeros _)
section
variable {b : Int} {x0 x1 m : List Int}
theorem head_len (h0 : x0.length ≤ 1000000) (h1 : x1.length ≤ 1000000) : (padL (strL x0 ++ strL x1) (rateN b)).length ≤ 3000000 := by
  have hr := rateN_cases b
  have h2 := padL_len (strL x0 ++ strL x1) (rateN b) (by omega) (by omega)
  have h3 := strL_len x0 h0
  have h4 := strL_len x1 h1
  rw [List.length_append] at h2
  omega
theorem head_b (h0 : x0.length ≤ 1000000) (h1 : x1.length ≤ 1000000) (b0 : IsB x0) (b1 : IsB x1) : IsB (padL (strL x0 ++ strL x1) (rateN b)) :=
  padL_b _ _ (by have := rateN_cases b; omega) (IsB.append (strL_b x0 h0 b0) (strL_b x1 h1 b1))
theorem named_ev (hb : Bits b) (h0 : x0.length ≤ 1000000) (h1 : x1.length ≤ 1000000) (hm : m.length ≤ 500000000) (b0 : IsB x0) (b1 : IsB x1) (bm : IsB m) (n : Int) (hn : 0 ≤ n ∧ n ≤ 65536) : Ev (fun k => sponge_Named.f k b x0 x1 m n) (namedL b x0 x1 m n.toNat, 0) := by
  by_cases hz : x0.length = 0 ∧ x1.length = 0
  · refine ⟨1, fun k hk => ?_⟩
    obtain ⟨k, rfl⟩ : ∃ z, k = z + 1 := ⟨k - 1, by omega⟩
    show sponge_Named.f (k + 1) b x0 x1 m n = _
    unfold sponge_Named.f namedL
    rw [if_pos (by omega), if_pos hz]
    simp only [sponge_Named.j0]
    rw [if_pos (by simp [hz.2]), shake_ok hb m n (by omega) bm hn]
    rfl
  · obtain ⟨K0, e0⟩ := str_ev x0 (by omega)
    obtain ⟨K1, e1⟩ := str_ev x1 (by omega)
    have l0 := strL_len x0 h0
    have l1 := strL_len x1 h1
    have hr := rateN_cases b
    obtain ⟨K2, e2⟩ := pad_ev (strL x0 ++ strL x1) (rateN b) (by omega) (by omega) (by rw [List.length_append]; omega)
    have hh := head_len (b := b) h0 h1
    have hcat : (padL (strL x0 ++ strL x1) (rateN b)).length + m.length < 140737488355328 := by clear e0 e1 e2; omega
    have hsum : (padL (strL x0 ++ strL x1) (rateN b) ++ m).length ≤ 1000000000 := by rw [List.length_append]; clear e0 e1 e2 hcat; omega
    have hstr : (strL x0).length + (strL x1).length < 140737488355328 := by clear e0 e1 e2 hcat hsum; omega
    refine ⟨K0 + K1 + K2 + 1, fun k hk => ?_⟩
    obtain ⟨k, rfl⟩ : ∃ z, k = z + 1 := ⟨k - 1, by omega⟩
    show sponge_Named.f (k + 1) b x0 x1 m n = _
    have e : sponge_Named.f (k + 1) b x0 x1 m n = sponge_Named.j0 (k + 1) b x0 x1 m n false := by
      unfold sponge_Named.f
      by_cases hz0 : x0.length = 0
      · rw [if_pos (by omega), show ((x1.length : Int) == 0) = false by rw [beq_eq_false_iff_ne]; omega]
      · rw [if_neg (by omega)]
    rw [e]
    simp only [sponge_Named.j0]
    rw [if_neg (by decide)]
    have f0 := e0 k (by omega)
    have f1 := e1 k (by omega)
    have f2 := e2 k (by omega)
    simp only at f0 f1 f2
    rw [f0, Option.bind_some]
    rw [f1, Option.bind_some]
    rw [concat2 _ _ hstr, Option.bind_some]
    rw [long_bits hb, Option.bind_some]
    rw [f2, Option.bind_some, if_pos rfl]
    rw [concat2 (padL (strL x0 ++ strL x1) (rateN b)) m hcat, Option.bind_some]
    try rw [Option.bind_some]
    rw [sum_eq _ _ 4 n (rateN_ok b) hsum (IsB.append (head_b h0 h1 b0 b1) bm) (by decide) hn]
    rw [Option.bind_some, Int.toNat_natCast]
    unfold namedL
    rw [if_neg hz]
theorem named_big (hb : Bits b) (h0 : x0.length ≤ 1000000) (h1 : x1.length ≤ 1000000) (hm : m.length ≤ 500000000) (b0 : IsB x0) (b1 : IsB x1) (bm : IsB m) (n : Int) (hn : ¬ (0 ≤ n ∧ n ≤ 65536)) : Ev (fun k => sponge_Named.f k b x0 x1 m n) ([], 1) := by
  by_cases hz : x0.length = 0 ∧ x1.length = 0
  · refine ⟨1, fun k hk => ?_⟩
    obtain ⟨k, rfl⟩ : ∃ z, k = z + 1 := ⟨k - 1, by omega⟩
    show sponge_Named.f (k + 1) b x0 x1 m n = _
    unfold sponge_Named.f
    rw [if_pos (by omega)]
    simp only [sponge_Named.j0]
    rw [if_pos (by simp [hz.2]), shake_big hb m n (by omega) bm hn]
    rfl
  · obtain ⟨K0, e0⟩ := str_ev x0 (by omega)
    obtain ⟨K1, e1⟩ := str_ev x1 (by omega)
    have l0 := strL_len x0 h0
    have l1 := strL_len x1 h1
    have hr := rateN_cases b
    obtain ⟨K2, e2⟩ := pad_ev (strL x0 ++ strL x1) (rateN b) (by omega) (by omega) (by rw [List.length_append]; omega)
    have hh := head_len (b := b) h0 h1
    have hcat : (padL (strL x0 ++ strL x1) (rateN b)).length + m.length < 140737488355328 := by clear e0 e1 e2; omega
    have hsum : (padL (strL x0 ++ strL x1) (rateN b) ++ m).length ≤ 1000000000 := by rw [List.length_append]; clear e0 e1 e2 hcat; omega
    have hstr : (strL x0).length + (strL x1).length < 140737488355328 := by clear e0 e1 e2 hcat hsum; omega
    refine ⟨K0 + K1 + K2 + 1, fun k hk => ?_⟩
    obtain ⟨k, rfl⟩ : ∃ z, k = z + 1 := ⟨k - 1, by omega⟩
    show sponge_Named.f (k + 1) b x0 x1 m n = _
    have e : sponge_Named.f (k + 1) b x0 x1 m n = sponge_Named.j0 (k + 1) b x0 x1 m n false := by
      unfold sponge_Named.f
      by_cases hz0 : x0.length = 0
      · rw [if_pos (by omega), show ((x1.length : Int) == 0) = false by rw [beq_eq_false_iff_ne]; omega]
      · rw [if_neg (by omega)]
    rw [e]
    simp only [sponge_Named.j0]
    rw [if_neg (by decide)]
    have f0 := e0 k (by omega)
    have f1 := e1 k (by omega)
    have f2 := e2 k (by omega)
    simp only at f0 f1 f2
    rw [f0, Option.bind_some]
    rw [f1, Option.bind_some]
    rw [concat2 _ _ hstr, Option.bind_some]
    rw [long_bits hb, Option.bind_some]
    rw [f2, Option.bind_some, if_pos rfl]
    rw [concat2 (padL (strL x0 ++ strL x1) (rateN b)) m hcat, Option.bind_some]
    try rw [Option.bind_some]
    rw [sum_big _ _ 4 n (rateN_ok b) hsum (IsB.append (head_b h0 h1 b0 b1) bm) (by decide) hn]
    rfl
theorem rnamed_ev (hb : Bits b) (h0 : x0.length ≤ 1000000) (h1 : x1.length ≤ 1000000) (hm : m.length ≤ 500000000) (b0 : IsB x0) (b1 : IsB x1) (bm : IsB m) (n : Int) (hn : 0 ≤ n ∧ n ≤ 65536) : Ev (fun k => visorref15_Named.f k b x0 x1 m n) (namedL b x0 x1 m n.toNat) := by
  have hrr : PKec.visorref15_Rate.f b = some (rateN b : Int) := (rrate_eq b).trans (rate_bits hb)
  by_cases hz : x0.length = 0 ∧ x1.length = 0
  · refine ⟨1, fun k hk => ?_⟩
    obtain ⟨k, rfl⟩ : ∃ z, k = z + 1 := ⟨k - 1, by omega⟩
    show visorref15_Named.f (k + 1) b x0 x1 m n = _
    unfold visorref15_Named.f namedL
    rw [if_pos (by omega), if_pos hz]
    simp only [visorref15_Named.j0]
    rw [if_pos (by simp [hz.2]), hrr]
    simp only [Option.bind_some]
    rw [rsum_eq m _ 31 n (rateN_ok b) (by omega) bm (by decide) hn, Int.toNat_natCast]
    rfl
  · obtain ⟨K0, e0⟩ := rstr_ev x0 (by omega)
    obtain ⟨K1, e1⟩ := rstr_ev x1 (by omega)
    have l0 := strL_len x0 h0
    have l1 := strL_len x1 h1
    have hr := rateN_cases b
    obtain ⟨K2, e2⟩ := rpad_ev (strL x0 ++ strL x1) (rateN b) (by omega) (by omega) (by rw [List.length_append]; omega)
    have hh := head_len (b := b) h0 h1
    have hcat : (padL (strL x0 ++ strL x1) (rateN b)).length + m.length < 140737488355328 := by clear e0 e1 e2; omega
    have hsum : (padL (strL x0 ++ strL x1) (rateN b) ++ m).length ≤ 1000000000 := by rw [List.length_append]; clear e0 e1 e2 hcat; omega
    have hstr : (strL x0).length + (strL x1).length < 140737488355328 := by clear e0 e1 e2 hcat hsum; omega
    refine ⟨K0 + K1 + K2 + 1, fun k hk => ?_⟩
    obtain ⟨k, rfl⟩ : ∃ z, k = z + 1 := ⟨k - 1, by omega⟩
    show visorref15_Named.f (k + 1) b x0 x1 m n = _
    have e : visorref15_Named.f (k + 1) b x0 x1 m n = visorref15_Named.j0 (k + 1) b x0 x1 m n false := by
      unfold visorref15_Named.f
      by_cases hz0 : x0.length = 0
      · rw [if_pos (by omega), show ((x1.length : Int) == 0) = false by rw [beq_eq_false_iff_ne]; omega]
      · rw [if_neg (by omega)]
    rw [e]
    simp only [visorref15_Named.j0]
    rw [if_neg (by decide)]
    have f0 := e0 k (by omega)
    have f1 := e1 k (by omega)
    have f2 := e2 k (by omega)
    simp only at f0 f1 f2
    rw [f0, Option.bind_some]
    rw [f1, Option.bind_some]
    rw [if_pos hstr, hrr, Option.bind_some]
    rw [f2, Option.bind_some]
    try rw [Option.bind_some]
    rw [if_pos hcat]
    try rw [Option.bind_some]
    rw [rsum_eq _ _ 4 n (rateN_ok b) hsum (IsB.append (head_b h0 h1 b0 b1) bm) (by decide) hn]
    rw [Option.bind_some, Int.toNat_natCast]
    unfold namedL
    rw [if_neg hz]
end
end Go.Proofs.Ythijjpiddelefaa.SpNamed
namespace Go.Proofs.Ythijjpiddelefaa.PureKm
open Go.Proofs.Ythijjpiddelefaa Go.RowKit Go.Proofs.Ythijjpiddelefaa.SpSum Go.Proofs.Ythijjpiddelefaa.Sponge Go.Proofs.Ythijjpiddelefaa.PSp Go.Proofs.YthijjpiddelefaaW.PrintWords Go.Proofs.YthijjpiddelefaaW.PrintLast CodeMath SpMath CodeSp Go.Proofs.Ythijjpiddelefaa.Pure Concat SpNamed KmSum
set_option linter.unusedVariables false
def headL (b : Int) (key : List Int) : List Int := padL (strL key) (rateN b)
def kmacL (b : Int) (key m cu : List Int) (n : Int) (fr : Bool) : List Int := namedL b nameL cu (headL b key ++ m ++ rightL (longN n fr).toNat) n.toNat
theorem right_yes {b : Int} (h : Bits b) : kmac_right.f b = some true := by
  rcases h with rfl | rfl <;> rfl
theorem right_no {b : Int} (h : ¬ Bits b) : kmac_right.f b = some false := by
  unfold Bits at h
  unfold kmac_right.f
  rw [if_neg (fun e => h (Or.inl e)), show (b == 256) = false by rw [beq_eq_false_iff_ne]; exact fun e => h (Or.inr e)]
section
variable {b : Int} {key m cu : List Int}
theorem head_ev (hb : Bits b) (hk : key.length ≤ 1000000) : Ev (fun k => kmac_Head.f k b key) (headL b key, 0) := by
  obtain ⟨K0, e0⟩ := str_ev key (by omega)
  have l0 := strL_len key hk
  have hr := rateN_cases b
  obtain ⟨K1, e1⟩ := pad_ev (strL key) (rateN b) (by omega) (by omega) (by omega)
  refine ⟨K0 + K1, fun k hk => ?_⟩
  show kmac_Head.f k b key = _
  have f0 := e0 k (by omega)
  have f1 := e1 k (by omega)
  simp only at f0 f1
  unfold kmac_Head.f
  rw [right_yes hb, Option.bind_some, if_pos rfl]
  rw [f0, Option.bind_some]
  rw [rate_bits hb, Option.bind_some]
  rw [f1, Option.bind_some]
  rfl
theorem head_no (hb : ¬ Bits b) (k : Nat) : kmac_Head.f k b key = some ([], 1) := by
  unfold kmac_Head.f
  rw [right_no hb, Option.bind_some, if_neg (by decide)]
theorem rhead_ev (hb : Bits b) (hk : key.length ≤ 1000000) : Ev (fun k => visorref16_Head.f k b key) (headL b key) := by
  obtain ⟨K0, e0⟩ := rstr_ev key (by omega)
  have l0 := strL_len key hk
  have hr := rateN_cases b
  have hrr : PKec.visorref15_Rate.f b = some (rateN b : Int) := (rrate_eq b).trans (rate_bits hb)
  obtain ⟨K1, e1⟩ := rpad_ev (strL key) (rateN b) (by omega) (by omega) (by omega)
  refine ⟨K0 + K1, fun k hk => ?_⟩
  show visorref16_Head.f k b key = _
  have f0 := e0 k (by omega)
  have f1 := e1 k (by omega)
  simp only at f0 f1
  unfold visorref16_Head.f
  rw [f0, Option.bind_some]
  rw [hrr, Option.bind_some]
  rw [f1, Option.bind_some]
  rfl
theorem headL_le (hk : key.length ≤ 1000000) : (headL b key).length ≤ 3000000 := by
  have hr := rateN_cases b
  have h2 := padL_len (strL key) (rateN b) (by omega) (by omega)
  have h3 := strL_len key hk
  unfold headL
  omega
theorem headL_b (hk : key.length ≤ 1000000) (bk : IsB key) : IsB (headL b key) := padL_b _ _ (by have := rateN_cases b; omega) (strL_b key hk bk)
theorem nameL_b : IsB nameL := by unfold nameL; exact IsB.cons (by decide) (by decide) (IsB.cons (by decide) (by decide) (IsB.cons (by decide) (by decide) (IsB.cons (by decide) (by decide) IsB.nil)))
theorem join3 (x y z : List Int) (h : x.length + y.length + z.length < 140737488355328) : kmac_join.f [x, y, z] = some (x ++ y ++ z) := by
  unfold kmac_join.f slices_Concat_byte_byte.f total
  rw [if_pos (by simp; omega)]
  simp
theorem longN_ok (n : Int) (fr : Bool) (h : 0 ≤ n) : 0 ≤ longN n fr ∧ longN n fr ≤ 8388608 := by
  unfold longN
  split <;> (try split) <;> omega
theorem rightL_le {x : Nat} (h : x ≤ 8388608) : (rightL x).length ≤ 9 := by
  unfold rightL
  have := digs_le9 (n := x) (by omega)
  simp
  omega
theorem sum_parts (hb : Bits b) (hk : key.length ≤ 1000000) (hm : m.length ≤ 100000000) (n : Int) (fr : Bool) (hn : 0 ≤ n) (r : List Int × Int) (hN : Ev (fun k => sponge_Named.f k b nameL cu (headL b key ++ m ++ rightL (longN n fr).toNat) n) r) : Ev (fun k => kmac_Sum.f k b key m cu n fr) r := by
  obtain ⟨K0, e0⟩ := head_ev (b := b) hb hk
  have hl := longN_ok n fr hn
  obtain ⟨K1, e1⟩ := right_ev (longN n fr).toNat (by omega)
  obtain ⟨K2, e2⟩ := hN
  have h1 := headL_le (b := b) hk
  have h2 := rightL_le (x := (longN n fr).toNat) (by omega)
  refine ⟨K0 + K1 + K2, fun k hk => ?_⟩
  show kmac_Sum.f k b key m cu n fr = _
  have f0 := e0 k (by omega)
  have f1 := e1 k (by omega)
  have f2 := e2 k (by omega)
  simp only at f0 f1 f2
  rw [Int.toNat_of_nonneg hl.1] at f1
  unfold kmac_Sum.f
  rw [f0, Option.bind_some, if_pos rfl, if_neg (by omega)]
  rw [f1, Option.bind_some]
  rw [show ((headL b key, (0 : Int)).1) = headL b key from rfl, join3 (headL b key) m _ (by omega), Option.bind_some]
  exact f2
theorem catB (hk : key.length ≤ 1000000) (bk : IsB key) (bm : IsB m) {x : Nat} (hx : x ≤ 8388608) : IsB (headL b key ++ m ++ rightL x) := IsB.append (IsB.append (headL_b hk bk) bm) (rightL_b (lt9 (by omega)))
theorem cat_le (hk : key.length ≤ 1000000) (hm : m.length ≤ 100000000) {x : Nat} (hx : x ≤ 8388608) : (headL b key ++ m ++ rightL x).length ≤ 500000000 := by
  have h1 := headL_le (b := b) hk
  have h2 := rightL_le hx
  rw [List.length_append, List.length_append]
  omega
theorem sum_ev (hb : Bits b) (hk : key.length ≤ 1000000) (hm : m.length ≤ 100000000) (hc : cu.length ≤ 1000000) (bk : IsB key) (bm : IsB m) (bc : IsB cu) (n : Int) (fr : Bool) (hn : 0 ≤ n ∧ n ≤ 65536) : Ev (fun k => kmac_Sum.f k b key m cu n fr) (kmacL b key m cu n fr, 0) := by
  have hl := longN_ok n fr hn.1
  exact sum_parts hb hk hm n fr hn.1 _ (named_ev hb (by decide) hc (cat_le hk hm (by omega)) nameL_b bc (catB hk bk bm (by omega)) n hn)
theorem sum_over (hb : Bits b) (hk : key.length ≤ 1000000) (hm : m.length ≤ 100000000) (hc : cu.length ≤ 1000000) (bk : IsB key) (bm : IsB m) (bc : IsB cu) (n : Int) (fr : Bool) (hn : 65536 < n) : Ev (fun k => kmac_Sum.f k b key m cu n fr) ([], 1) := by
  have hl := longN_ok n fr (by omega)
  exact sum_parts hb hk hm n fr (by omega) _ (named_big hb (by decide) hc (cat_le hk hm (by omega)) nameL_b bc (catB hk bk bm (by omega)) n (by omega))
theorem sum_neg (hb : Bits b) (hk : key.length ≤ 1000000) (n : Int) (fr : Bool) (hn : n < 0) : Ev (fun k => kmac_Sum.f k b key m cu n fr) ([], 1) := by
  obtain ⟨K0, e0⟩ := head_ev (b := b) hb hk
  refine ⟨K0, fun k hk => ?_⟩
  show kmac_Sum.f k b key m cu n fr = _
  have f0 := e0 k (by omega)
  simp only at f0
  unfold kmac_Sum.f
  rw [f0, Option.bind_some, if_pos rfl, if_pos hn]
theorem sum_bad (hb : ¬ Bits b) (n : Int) (fr : Bool) : Ev (fun k => kmac_Sum.f k b key m cu n fr) ([], 1) := by
  refine ⟨0, fun k hk => ?_⟩
  show kmac_Sum.f k b key m cu n fr = _
  unfold kmac_Sum.f
  rw [head_no hb, Option.bind_some, if_neg (by decide), if_pos rfl]
theorem rksum_ev (hb : Bits b) (hk : key.length ≤ 1000000) (hm : m.length ≤ 100000000) (hc : cu.length ≤ 1000000) (bk : IsB key) (bm : IsB m) (bc : IsB cu) (n : Int) (fr : Bool) (hn : 0 ≤ n ∧ n ≤ 65536) : Ev (fun k => visorref16_Sum.f k b key m cu n fr) (kmacL b key m cu n fr) := by
  have hl := longN_ok n fr hn.1
  have hlong : (if fr = true then (0 : Int) else 8 * n) = longN n fr := by
    unfold longN
    split
    · rfl
    · rw [if_neg (by omega)]
  obtain ⟨K0, e0⟩ := rhead_ev (b := b) hb hk
  obtain ⟨K1, e1⟩ := rright_ev (longN n fr).toNat (by omega)
  obtain ⟨K2, e2⟩ := rnamed_ev hb (by decide) hc (cat_le hk hm (x := (longN n fr).toNat) (by omega)) nameL_b bc (catB hk bk bm (by omega)) n hn
  have h1 := headL_le (b := b) hk
  have h2 := rightL_le (x := (longN n fr).toNat) (by omega)
  refine ⟨K0 + K1 + K2, fun k hk => ?_⟩
  show visorref16_Sum.f k b key m cu n fr = _
  have f0 := e0 k (by omega)
  have f1 := e1 k (by omega)
  have f2 := e2 k (by omega)
  simp only at f0 f1 f2
  rw [Int.toNat_of_nonneg hl.1] at f1
  unfold visorref16_Sum.f
  rw [if_pos hn, f0, Option.bind_some, hlong]
  rw [f1, Option.bind_some, if_pos (by omega)]
  exact f2
end
end Go.Proofs.Ythijjpiddelefaa.PureKm
