/-
  What the printed functions of code and of its reference come to, in terms of CodeMath: for all bytes and numbers.
-/
import Derived.Test.YthijjpiddelefaaCodeMath
import Derived.Test.YthijjpiddelefaaPCodex3
import Derived.Test.YthijjpiddelefaaPCodex5
namespace Go.Proofs.Ythijjpiddelefaa.CodeEval
open Go.RowKit Go.Proofs.Ythijjpiddelefaa.PCode Go.Proofs.YthijjpiddelefaaW.PrintWords Go.Proofs.YthijjpiddelefaaW.PrintLast Go.Proofs.YthijjpiddelefaaW.PrintMore Byte CodeMath Concat
set_option linter.unusedVariables false
theorem Ev.map {α β : Type} {g : Nat → Option α} {r : α} (h : Ev g r) (f : α → Option β) {q : β} (hf : f r = some q) : Ev (fun n => (g n).bind f) q := Ev.bind h ⟨0, fun _ _ => hf⟩
theorem rev_l0 (l : List Int) (n : Nat) (hl : l.length = n) (hb : n ≤ 1099511627776) : ∀ d k (x : List Int) (i : Nat), x.length = n → (∀ p, p < n → x.getD p 0 = if p < i ∨ n ≤ p + i then l.getD (n - 1 - p) 0 else l.getD p 0) → 2 * i ≤ n + 1 → n - 2 * i ≤ 2 * d + 1 → d < k →
    slices_Reverse_byte_byte.l0 k x (i : Int) ((n : Int) - 1 - i) = some l.reverse := by
  intro d
  induction d with
  | zero =>
    intro k x i hx hp hi hd hk
    obtain ⟨k, rfl⟩ : ∃ m, k = m + 1 := ⟨k - 1, by omega⟩
    simp only [slices_Reverse_byte_byte.l0]
    rw [if_neg (by omega)]
    congr 1
    refine List.ext_getElem (by simp; omega) fun p h1 h2 => ?_
    have h3 : p < n := by omega
    have := hp p h3
    rw [List.getD_eq_getElem?_getD, List.getElem?_eq_getElem h1] at this
    rw [List.getElem_reverse]
    have e : (if p < i ∨ n ≤ p + i then l.getD (n - 1 - p) 0 else l.getD p 0) = l.getD (n - 1 - p) 0 := by
      by_cases h : p < i ∨ n ≤ p + i
      · rw [if_pos h]
      · rw [if_neg h]
        congr 1
        omega
    rw [e, List.getD_eq_getElem?_getD, List.getElem?_eq_getElem (by omega)] at this
    simp only [Option.getD_some] at this
    rw [this]
    congr 1
    omega
  | succ d ih =>
    intro k x i hx hp hi hd hk
    by_cases hlt : 2 * i + 1 < n
    · obtain ⟨k, rfl⟩ : ∃ m, k = m + 1 := ⟨k - 1, by omega⟩
      simp only [slices_Reverse_byte_byte.l0]
      rw [if_pos (by omega), if_pos (by omega), if_pos (by omega), if_pos (by omega), if_pos (by omega), w64 (by omega) (by omega), w64 (by omega) (by omega)]
      have ej : ((n : Int) - 1 - i).toNat = n - 1 - i := by omega
      have er : ∀ (j : Nat), rd x (j : Int) = x.getD j 0 := fun j => by unfold rd; rw [Int.toNat_natCast]
      have er2 : rd x ((n : Int) - 1 - i) = x.getD (n - 1 - i) 0 := by unfold rd; rw [ej]
      rw [Int.toNat_natCast, ej, er, er2, hp i (by omega), hp (n - 1 - i) (by omega), if_neg (by omega), if_neg (by omega)]
      have e2 : (n : Int) - 1 - i - 1 = (n : Int) - 1 - ((i + 1 : Nat) : Int) := by omega
      rw [e2]
      refine ih k _ (i + 1) (by simp [hx]) (fun p hpn => ?_) (by omega) (by omega) (by omega)
      have hpx := hp p hpn
      rw [List.getD_eq_getElem?_getD] at hpx
      rw [List.getD_eq_getElem?_getD, List.getElem?_set, List.length_set, List.getElem?_set]
      by_cases h1 : n - 1 - i = p
      · rw [if_pos h1, if_pos (by omega), if_pos (Or.inr (by omega))]
        simp only [Option.getD_some]
        congr 1; omega
      · rw [if_neg h1]
        by_cases h2 : i = p
        · rw [if_pos h2, if_pos (by omega), if_pos (Or.inl (by omega))]
          simp only [Option.getD_some]
          congr 1; omega
        · rw [if_neg h2, hpx]
          by_cases h3 : p < i ∨ n ≤ p + i
          · rw [if_pos h3, if_pos (by omega)]
          · rw [if_neg h3, if_neg (by omega)]
    · exact ih k x i hx hp hi (by omega) (by omega)
theorem rev_ev (l : List Int) (hb : l.length ≤ 1099511627776) : Ev (fun k => slices_Reverse_byte_byte.f k l) l.reverse := by
  refine ⟨l.length + 1, fun k hk => ?_⟩
  show slices_Reverse_byte_byte.f k l = _
  unfold slices_Reverse_byte_byte.f
  rw [w64 (by omega) (by omega)]
  have := rev_l0 l l.length rfl hb l.length k l 0 rfl (fun p hp => by rw [if_neg (by omega)]) (by omega) (by omega) (by omega)
  have e : ((l.length : Int) - 1 - ((0 : Nat) : Int)) = (l.length : Int) - 1 := by omega
  rw [e] at this
  exact this
theorem digits_l0 : ∀ n : Nat, ∀ acc : List Int, acc.length + (tl n).length ≤ 1000 → Ev (fun k => code_digits.l0 k (n : Int) acc) (acc ++ tl n).reverse := by
  intro n
  induction n using Nat.strongRecOn with
  | _ n ih =>
    intro acc hl
    rcases Nat.eq_zero_or_pos n with rfl | hp
    · rw [tl_zero, List.append_nil]
      refine Ev.step (f := fun k => (slices_Reverse_byte_byte.f k acc).bind fun t => some t) (fun k => ?_) ?_
      · simp only [code_digits.l0]
        rw [if_neg (by decide)]
      · exact Ev.map (rev_ev acc (by omega)) _ rfl
    · rw [tl_pos hp, List.length_cons] at hl
      refine Ev.step (f := fun k => code_digits.l0 k ((n / 256 : Nat) : Int) (acc ++ [((n % 256 : Nat) : Int)])) (fun k => ?_) ?_
      · simp only [code_digits.l0]
        rw [if_pos (by omega), if_pos (by omega)]
        congr 1
      · have := ih (n / 256) (by omega) (acc ++ [((n % 256 : Nat) : Int)]) (by simp; omega)
        rw [tl_pos hp]
        simpa using this
theorem digits_ev (n : Nat) (h : n < 18446744073709551616) : Ev (fun k => code_digits.f k (n : Int)) (digs n) := by
  have hl := tl_len 8 (n / 256) (Nat.lt_of_le_of_lt (Nat.div_le_self _ _) (by simpa using h))
  have := digits_l0 (n / 256) [((n % 256 : Nat) : Int)] (by simp; omega)
  unfold digs
  have e : ([((n % 256 : Nat) : Int)] ++ tl (n / 256)).reverse = (tl (n / 256)).reverse ++ [((n % 256 : Nat) : Int)] := by simp
  rw [e] at this
  exact this
theorem concat2 (a b : List Int) (h : a.length + b.length < 140737488355328) : slices_Concat_byte_byte.f [a, b] = some (a ++ b) := by
  unfold slices_Concat_byte_byte.f total
  rw [if_pos (by simpa using h)]
  simp
theorem join2 (a b : List Int) (h : a.length + b.length < 140737488355328) : code_join.f [a, b] = some (a ++ b) := by
  unfold code_join.f
  rw [concat2 a b h]; rfl
theorem digs_le9 {n : Nat} (h : n < 18446744073709551616) : (digs n).length ≤ 8 := digs_len 7 n (by simpa using h)
theorem left_ev (n : Nat) (h : n < 18446744073709551616) : Ev (fun k => code_Left.f k (n : Int)) (leftL n) := by
  have hd := digs_le9 h
  refine Ev.congr (f := fun k => (code_digits.f k (n : Int)).bind fun t115 => ((code_join.f (([(([((t115.length : Int)) % 256] : List Int)), t115] : List (List Int)))).bind fun t124 => (some t124))) (fun k => ?_) ?_
  · unfold code_Left.f
    rw [if_neg (by omega)]
  · refine Ev.map (digits_ev n h) _ ?_
    rw [join2 _ _ (by simp; omega)]
    simp only [Option.bind_some]
    have : ((digs n).length : Int) % 256 = (digs n).length := by omega
    rw [this]; rfl
theorem left_neg (n : Int) (h : n < 0) : Ev (fun k => code_Left.f k n) [] := ⟨0, fun k _ => by show code_Left.f k n = _; unfold code_Left.f; rw [if_pos h]⟩
theorem right_ev (n : Nat) (h : n < 18446744073709551616) : Ev (fun k => code_Right.f k (n : Int)) (rightL n) := by
  have hd := digs_le9 h
  refine Ev.congr (f := fun k => (code_digits.f k (n : Int)).bind fun t127 => ((code_join.f (([t127, (([((t127.length : Int)) % 256] : List Int))] : List (List Int)))).bind fun t136 => (some t136))) (fun k => ?_) ?_
  · unfold code_Right.f
    rw [if_neg (by omega)]
  · refine Ev.map (digits_ev n h) _ ?_
    rw [join2 _ _ (by simp; omega)]
    simp only [Option.bind_some]
    have : ((digs n).length : Int) % 256 = (digs n).length := by omega
    rw [this]; rfl
theorem right_neg (n : Int) (h : n < 0) : Ev (fun k => code_Right.f k n) [] := ⟨0, fun k _ => by show code_Right.f k n = _; unfold code_Right.f; rw [if_pos h]⟩
theorem leftL_le {n : Nat} (h : n < 18446744073709551616) : (leftL n).length ≤ 9 := by
  have := digs_le9 h
  rw [leftL_len]; omega
theorem str_ev (l : List Int) (h : l.length ≤ 140737488351232) : Ev (fun k => code_Str.f k l) (strL l) := by
  have h2 := leftL_le (n := 8 * l.length) (by omega)
  refine Ev.congr (f := fun k => (code_Left.f k ((8 * l.length : Nat) : Int)).bind fun t145 => ((code_join.f (([t145, l] : List (List Int)))).bind fun t151 => (some t151))) (fun k => ?_) ?_
  · unfold code_Str.f
    rw [w64 (by omega) (by omega)]
    congr 2
  · refine Ev.map (left_ev _ (by omega)) _ ?_
    rw [join2 _ _ (by omega)]; rfl
/-! ### the reference -/
theorem rdigits_ev : ∀ n : Nat, n < 9223372036854775808 → Ev (fun k => visorref14_Digits.f k (n : Int)) (digs n) := by
  intro n
  induction n using Nat.strongRecOn with
  | _ n ih =>
    intro h
    rcases Nat.lt_or_ge n 256 with h2 | h2
    · refine ⟨1, fun k hk => ?_⟩
      obtain ⟨k, rfl⟩ : ∃ m, k = m + 1 := ⟨k - 1, by omega⟩
      simp only [visorref14_Digits.f]
      rw [if_pos (by omega), digs_small h2]
      have : (n : Int) % 256 = n := by omega
      rw [this]
    · have hd := digs_le9 (n := n / 256) (by omega)
      refine Ev.step (f := fun k => (visorref14_Digits.f k ((n / 256 : Nat) : Int)).bind fun t => if t.length < 140737488355328 then some (t ++ [((n % 256 : Nat) : Int)]) else none) (fun k => ?_) ?_
      · simp only [visorref14_Digits.f]
        rw [if_neg (by omega)]
        have e1 : wrap64 (Int.tdiv (n : Int) 256) = ((n / 256 : Nat) : Int) := by
          rw [Int.tdiv_eq_ediv_of_nonneg (by omega), w64 (by omega) (by omega)]; omega
        have e2 : (Int.tmod (n : Int) 256) % 256 = ((n % 256 : Nat) : Int) := by
          rw [Int.tmod_eq_emod_of_nonneg (by omega)]; omega
        rw [e1, e2]
      · refine Ev.map (ih (n / 256) (by omega) (by omega)) _ ?_
        rw [if_pos (by omega), ← digs_step h2]
theorem rleft_ev (n : Nat) (h : n < 9223372036854775808) : Ev (fun k => visorref14_Left.f k (n : Int)) (leftL n) := by
  have hd := digs_le9 (n := n) (by omega)
  refine Ev.congr (f := fun k => (visorref14_Digits.f k (n : Int)).bind fun t209 => ((some (([((t209.length : Int)) % 256] : List Int) : List Int)).bind fun y212 => (if y212.length + t209.length < 140737488355328 then (some (y212 ++ t209)) else (none)))) (fun k => ?_) ?_
  · unfold visorref14_Left.f
    rw [if_neg (by omega)]
  · refine Ev.map (rdigits_ev n h) _ ?_
    simp only [Option.bind_some]
    rw [if_pos (by simp; omega)]
    have : ((digs n).length : Int) % 256 = (digs n).length := by omega
    rw [this]; rfl
theorem rleft_neg (n : Int) (h : n < 0) : Ev (fun k => visorref14_Left.f k n) [] := ⟨0, fun k _ => by show visorref14_Left.f k n = _; unfold visorref14_Left.f; rw [if_pos h]⟩
theorem rright_ev (n : Nat) (h : n < 9223372036854775808) : Ev (fun k => visorref14_Right.f k (n : Int)) (rightL n) := by
  have hd := digs_le9 (n := n) (by omega)
  refine Ev.congr (f := fun k => (visorref14_Digits.f k (n : Int)).bind fun t238 => (if t238.length < 140737488355328 then (some (t238 ++ [((t238.length : Int)) % 256])) else (none))) (fun k => ?_) ?_
  · unfold visorref14_Right.f
    rw [if_neg (by omega)]
  · refine Ev.map (rdigits_ev n h) _ ?_
    rw [if_pos (by omega)]
    have : ((digs n).length : Int) % 256 = (digs n).length := by omega
    rw [this]; rfl
theorem rright_neg (n : Int) (h : n < 0) : Ev (fun k => visorref14_Right.f k n) [] := ⟨0, fun k _ => by show visorref14_Right.f k n = _; unfold visorref14_Right.f; rw [if_pos h]⟩
theorem rstr_ev (l : List Int) (h : l.length ≤ 140737488351232) : Ev (fun k => visorref14_Str.f k l) (strL l) := by
  have h2 := leftL_le (n := 8 * l.length) (by omega)
  refine Ev.congr (f := fun k => (visorref14_Left.f k ((8 * l.length : Nat) : Int)).bind fun t244 => (if t244.length + l.length < 140737488355328 then (some (t244 ++ l)) else (none))) (fun k => ?_) ?_
  · unfold visorref14_Str.f
    rw [w64 (by omega) (by omega)]
    congr 2
  · refine Ev.map (rleft_ev _ (by omega)) _ ?_
    rw [if_pos (by omega)]; rfl
/-! ### what is padded -/
theorem pad_ev (l : List Int) (w : Nat) (hw : 0 < w) (hw2 : w ≤ 1000) (h : l.length ≤ 140737488351232) : Ev (fun k => code_Pad.f k l (w : Int)) (padL l w, 0) := by
  have h2 := leftL_le (n := w) (by omega)
  have hp := padN_lt (leftL w ++ l).length w hw
  refine Ev.congr (f := fun k => code_Pad.j0 k l (w : Int) false) (fun k => ?_) ?_
  · unfold code_Pad.f
    rw [if_neg (by omega)]
    congr 1
    exact decide_eq_false (by omega)
  · refine Ev.step (f := fun k => ((code_Left.f k (w : Int)).bind fun t188 => ((code_join.f (([t188, l] : List (List Int)))).bind fun t194 => (if (w : Int) = 0 then (none) else (if ((t194.length : Int) % (w : Int)) > 0 then (if 0 ≤ (wrap64 ((w : Int) - ((t194.length : Int) % (w : Int)))) then (if t194.length + (wrap64 ((w : Int) - ((t194.length : Int) % (w : Int))) : Int).toNat < 140737488355328 then (some ((t194 ++ List.replicate (wrap64 ((w : Int) - ((t194.length : Int) % (w : Int))) : Int).toNat 0), 0)) else (none)) else (none)) else (some (t194, 0))))))) (fun k => ?_) ?_
    · simp only [code_Pad.j0]
      rw [if_neg (by decide)]
    · refine Ev.map (left_ev w (by omega)) _ ?_
      rw [join2 _ _ (by omega)]
      simp only [Option.bind_some]
      rw [if_neg (by omega)]
      unfold padL
      generalize hx : leftL w ++ l = x at *
      have hxl : x.length ≤ 140737488351232 + 9 := by rw [← hx, List.length_append]; omega
      have em : (x.length : Int) % (w : Int) = ((x.length % w : Nat) : Int) := by omega
      rw [em]
      by_cases h0 : x.length % w = 0
      · rw [if_neg (by omega)]
        unfold padN
        rw [if_pos h0]
        simp
      · have hlt := Nat.mod_lt x.length hw
        have e1 : wrap64 ((w : Int) - ((x.length % w : Nat) : Int)) = ((w - x.length % w : Nat) : Int) := by rw [w64 (by omega) (by omega)]; omega
        rw [if_pos (by omega), e1, if_pos (by omega), Int.toNat_natCast, if_pos (by omega)]
        unfold padN
        rw [if_neg h0]
theorem pad_no (l : List Int) (w : Int) (hw : w < 1 ∨ 1000 < w) : Ev (fun k => code_Pad.f k l w) ([], 1) := by
  refine Ev.congr (f := fun k => code_Pad.j0 k l w true) (fun k => ?_) ?_
  · unfold code_Pad.f
    by_cases h : w < 1
    · rw [if_pos h]
    · rw [if_neg h]
      congr 1
      exact decide_eq_true (by omega)
  · exact Ev.step (f := fun k => some ([], 1)) (fun k => by simp only [code_Pad.j0]; exact if_pos trivial) ⟨0, fun _ _ => rfl⟩
theorem rpad_l0 (w : Nat) (hw : 0 < w) : ∀ d (x : List Int), padN x.length w = d → x.length + d < 140737488355328 → Ev (fun k => visorref14_Pad.l0 k (w : Int) x) (x ++ List.replicate d 0, 0) := by
  intro d
  induction d with
  | zero =>
    intro x hd hl
    refine Ev.step (f := fun k => some (x, 0)) (fun k => ?_) ⟨0, fun _ _ => by simp⟩
    simp only [visorref14_Pad.l0]
    have h0 : x.length % w = 0 := by
      unfold padN at hd
      have := Nat.mod_lt x.length hw
      split at hd
      · assumption
      · omega
    rw [if_neg (by omega), if_pos (by omega)]
  | succ d ih =>
    intro x hd hl
    have hlt := Nat.mod_lt x.length hw
    have h0 : x.length % w ≠ 0 ∧ w - x.length % w = d + 1 := by
      unfold padN at hd
      split at hd
      · omega
      · exact ⟨by assumption, hd⟩
    refine Ev.step (f := fun k => visorref14_Pad.l0 k (w : Int) (x ++ [0])) (fun k => ?_) ?_
    · simp only [visorref14_Pad.l0]
      rw [if_neg (by omega), if_neg (by omega), if_pos (by omega)]
    · have hn : padN (x ++ [0]).length w = d := by
        have e : (x ++ [0]).length = x.length + 1 := by simp
        rw [e]
        unfold padN
        have hdm := Nat.div_add_mod x.length w
        rcases Nat.eq_zero_or_pos d with hz | hz
        · have : (x.length + 1) % w = 0 := by
            have e3 : x.length + 1 = w * (x.length / w + 1) := by rw [Nat.mul_add]; omega
            rw [e3, Nat.mul_mod_right]
          rw [if_pos this]; omega
        · have : (x.length + 1) % w = x.length % w + 1 := by
            have e3 : x.length + 1 = (x.length % w + 1) + w * (x.length / w) := by omega
            rw [e3, Nat.add_mul_mod_self_left, Nat.mod_eq_of_lt (by omega)]
          rw [this, if_neg (by omega)]; omega
      have := ih (x ++ [0]) hn (by simp; omega)
      rw [List.append_assoc] at this
      exact this
theorem rpad_ev (l : List Int) (w : Nat) (hw : 0 < w) (hw2 : w ≤ 1000) (h : l.length ≤ 140737488351232) : Ev (fun k => visorref14_Pad.f k l (w : Int)) (padL l w, 0) := by
  have h2 := leftL_le (n := w) (by omega)
  have hp := padN_lt (leftL w ++ l).length w hw
  refine Ev.congr (f := fun k => visorref14_Pad.j0 k l (w : Int) false) (fun k => ?_) ?_
  · unfold visorref14_Pad.f
    rw [if_neg (by omega)]
    congr 1
    exact decide_eq_false (by omega)
  · refine Ev.step (f := fun k => ((visorref14_Left.f k (w : Int)).bind fun t218 => (if t218.length + l.length < 140737488355328 then (visorref14_Pad.l0 k (w : Int) (t218 ++ l)) else (none)))) (fun k => ?_) ?_
    · simp only [visorref14_Pad.j0]
      rw [if_neg (by decide)]
    · refine Ev.bind (rleft_ev w (by omega)) ?_
      refine Ev.congr (f := fun k => visorref14_Pad.l0 k (w : Int) (leftL w ++ l)) (fun k => if_pos (by omega)) ?_
      exact rpad_l0 w hw _ _ rfl (by rw [List.length_append] at hp ⊢; omega)
theorem rpad_no (l : List Int) (w : Int) (hw : w < 1 ∨ 1000 < w) : Ev (fun k => visorref14_Pad.f k l w) ([], 1) := by
  refine Ev.congr (f := fun k => visorref14_Pad.j0 k l w true) (fun k => ?_) ?_
  · unfold visorref14_Pad.f
    by_cases h : w < 1
    · rw [if_pos h]
    · rw [if_neg h]
      congr 1
      exact decide_eq_true (by omega)
  · exact Ev.step (f := fun k => some ([], 1)) (fun k => by simp only [visorref14_Pad.j0]; exact if_pos trivial) ⟨0, fun _ _ => rfl⟩
/-! ### what is taken -/
theorem rtake_l0 (l : List Int) (hb : IsB l) (hl : l.length ≤ 140737488351232) : ∀ d n : Nat, n + d = l.length + 1 → (∀ m, m < n → ¬ Puts l m) → Ev (fun k => visorref14_Take.l0 k l (n : Int)) (takeRes l) := by
  intro d
  induction d with
  | zero =>
    intro n hn hm
    refine Ev.step (f := fun k => some (([] : List Int), (0 : Int), false)) (fun k => ?_) ⟨0, fun _ _ => ?_⟩
    · simp only [visorref14_Take.l0]
      rw [if_neg (by omega)]
    · rw [takeRes_none]
      intro m h
      have := h.2.1
      exact hm m (by omega) h
  | succ d ih =>
    intro n hn hm
    have hL := leftL_le (n := 8 * n) (by omega)
    have hLb := leftL_b (n := 8 * n) (by omega)
    have next : ¬ Puts l n → Ev (fun k => visorref14_Take.l0 k l (wrap64 ((n : Int) + 1))) (takeRes l) := fun hp => by
      have e : wrap64 ((n : Int) + 1) = ((n + 1 : Nat) : Int) := by rw [w64 (by omega) (by omega)]; omega
      rw [e]
      exact ih (n + 1) (by omega) (fun m hmn => by
        rcases Nat.lt_or_ge m n with h | h
        · exact hm m h
        · obtain rfl : m = n := by omega
          exact hp)
    refine Ev.step (f := fun k => ((visorref14_Left.f k ((8 * n : Nat) : Int)).bind fun t227 => (if (t227.length : Int) ≤ 5 then (if (n : Int) ≤ (wrap64 ((l.length : Int) - (t227.length : Int))) then (if 0 ≤ (t227.length : Int) then (if (t227.length : Int) ≤ (l.length : Int) then (if (strOfNums (l.take ((t227.length : Int) : Int).toNat)).toList = (strOfNums t227).toList then (if (t227.length : Int) ≤ (wrap64 ((t227.length : Int) + (n : Int))) then (if (wrap64 ((t227.length : Int) + (n : Int))) ≤ (l.length : Int) then (some (((l.take ((wrap64 ((t227.length : Int) + (n : Int))) : Int).toNat).drop ((t227.length : Int) : Int).toNat), wrap64 ((t227.length : Int) + (n : Int)), true)) else (none)) else (none)) else (visorref14_Take.l0 k l (wrap64 ((n : Int) + 1)))) else (none)) else (none)) else (visorref14_Take.l0 k l (wrap64 ((n : Int) + 1)))) else (visorref14_Take.l0 k l (wrap64 ((n : Int) + 1)))))) (fun k => ?_) ?_
    · simp only [visorref14_Take.l0]
      rw [if_pos (by omega), w64 (x := 8 * (n : Int)) (by omega) (by omega)]
      congr 1
    · refine Ev.bind (rleft_ev (8 * n) (by omega)) ?_
      generalize hx : leftL (8 * n) = x at *
      have hP : Puts l n ↔ x.length ≤ 5 ∧ n + x.length ≤ l.length ∧ l.take x.length = x := by unfold Puts; rw [hx]
      have ew : wrap64 ((l.length : Int) - (x.length : Int)) = (l.length : Int) - (x.length : Int) := w64 (by omega) (by omega)
      have ew2 : wrap64 ((x.length : Int) + (n : Int)) = ((x.length + n : Nat) : Int) := by rw [w64 (by omega) (by omega)]; omega
      by_cases h5 : x.length ≤ 5
      · by_cases hn2 : n + x.length ≤ l.length
        · by_cases ht : l.take x.length = x
          · refine ⟨0, fun k _ => ?_⟩
            simp only []
            rw [if_pos (by omega), ew, if_pos (by omega), if_pos (by omega), if_pos (by omega), Int.toNat_natCast, if_pos ((str_eq _ _ (hb.take _) hLb).2 ht), ew2, if_pos (by omega), if_pos (by omega), Int.toNat_natCast, takeRes_of (hP.2 ⟨h5, hn2, ht⟩), hx, List.drop_take]
            rw [show x.length + n - x.length = n by omega]
          · refine Ev.congr (f := fun k => visorref14_Take.l0 k l (wrap64 ((n : Int) + 1))) (fun k => ?_) (next fun h => ht (hP.1 h).2.2)
            rw [if_pos (by omega), ew, if_pos (by omega), if_pos (by omega), if_pos (by omega), Int.toNat_natCast, if_neg (fun h => ht ((str_eq _ _ (hb.take _) hLb).1 h))]
        · refine Ev.congr (f := fun k => visorref14_Take.l0 k l (wrap64 ((n : Int) + 1))) (fun k => ?_) (next fun h => hn2 (hP.1 h).2.1)
          rw [if_pos (by omega), ew, if_neg (by omega)]
      · refine Ev.congr (f := fun k => visorref14_Take.l0 k l (wrap64 ((n : Int) + 1))) (fun k => ?_) (next fun h => h5 (hP.1 h).1)
        rw [if_neg (by omega)]
theorem rtake_ev (l : List Int) (hb : IsB l) (hl : l.length ≤ 140737488351232) : Ev (fun k => visorref14_Take.f k l) (takeRes l) :=
  rtake_l0 l hb hl (l.length + 1) 0 (by omega) (fun m hm => by omega)
theorem or_add (a x : Nat) (hx : x < 256) (ha : a < 4294967296) : Go.bits .or .i64 ((a * 256 : Nat) : Int) (x : Int) = ((a * 256 + x : Nat) : Int) := by
  show IntKind.i64.wrap ((BitVec.ofInt 64 ((a * 256 : Nat) : Int) ||| BitVec.ofInt 64 (x : Int)).toNat : Int) = _
  rw [ofI64n, ofI64n, BitVec.toNat_or, BitVec.toNat_ofNat, BitVec.toNat_ofNat, Nat.mod_eq_of_lt (by omega), Nat.mod_eq_of_lt (by omega)]
  have h := Nat.shiftLeft_add_eq_or_of_lt (i := 8) (b := x) (by omega) a
  rw [Nat.shiftLeft_eq, show 2 ^ 8 = 256 by rfl] at h
  rw [← h]
  exact wrap_i64_nat _ (by omega)
theorem join1 (a : List Int) (h : a.length < 140737488355328) : code_join.f [a] = some a := by
  unfold code_join.f slices_Concat_byte_byte.f total
  rw [if_pos (by simpa using h)]
  simp
theorem val_take (h : List Int) (i : Nat) (hi : i < h.length) : val (h.take (i + 1)) = val (h.take i) * 256 + (h.getD i 0).toNat := by
  rw [List.take_succ_eq_append_getElem hi, val_snoc, List.getD_eq_getElem?_getD, List.getElem?_eq_getElem hi]; rfl
theorem val_lt : ∀ k (h : List Int), IsB h → h.length = k → val h < 256 ^ k := by
  intro k
  induction k with
  | zero =>
    intro h hb hl
    rw [List.eq_nil_of_length_eq_zero hl]; decide
  | succ k ih =>
    intro h hb hl
    obtain ⟨a, x, rfl⟩ := snoc_of (by omega : 0 < h.length)
    have := ih a (fun y hy => hb y (by simp [hy])) (by simp at hl; omega)
    have hx := hb x (by simp)
    rw [val_snoc, Nat.pow_succ]
    omega
/-- What comes behind the header's number. -/
def behind (l : List Int) (at_ : Int) (n : Nat) : Option (List Int × Int × Bool) :=
  if (Int.tmod (n : Int) 8) = 0 then (if 0 < (l.length : Int) then (if (rd l 0) > 1 then (if 1 < (l.length : Int) then (if (rd l 1) = 0 then (some (([] : List Int), 0, false)) else (if (wrap64 (Int.tdiv (n : Int) 8)) > (wrap64 ((l.length : Int) - at_)) then (some (([] : List Int), 0, false)) else (if 0 ≤ at_ then (if at_ ≤ (wrap64 (at_ + (wrap64 (Int.tdiv (n : Int) 8)))) then (if (wrap64 (at_ + (wrap64 (Int.tdiv (n : Int) 8)))) ≤ (l.length : Int) then ((code_join.f (([((l.take ((wrap64 (at_ + (wrap64 (Int.tdiv (n : Int) 8)))) : Int).toNat).drop (at_ : Int).toNat)] : List (List Int)))).bind fun t174 => (some (t174, wrap64 (at_ + (wrap64 (Int.tdiv (n : Int) 8))), true))) else none) else none) else none))) else none) else (if (wrap64 (Int.tdiv (n : Int) 8)) > (wrap64 ((l.length : Int) - at_)) then (some (([] : List Int), 0, false)) else (if 0 ≤ at_ then (if at_ ≤ (wrap64 (at_ + (wrap64 (Int.tdiv (n : Int) 8)))) then (if (wrap64 (at_ + (wrap64 (Int.tdiv (n : Int) 8)))) ≤ (l.length : Int) then ((code_join.f (([((l.take ((wrap64 (at_ + (wrap64 (Int.tdiv (n : Int) 8)))) : Int).toNat).drop (at_ : Int).toNat)] : List (List Int)))).bind fun t174 => (some (t174, wrap64 (at_ + (wrap64 (Int.tdiv (n : Int) 8))), true))) else none) else none) else none))) else none) else (some (([] : List Int), 0, false))
theorem ctake_l0 (l : List Int) (at_ : Int) (hd : List Int) (hb : IsB hd) (hl : hd.length ≤ 4) (r : List Int × Int × Bool) (hr : behind l at_ (val hd) = some r) : ∀ d i : Nat, i + d = hd.length → Ev (fun k => code_Take.l0 k l at_ ((val (hd.take i) : Nat) : Int) hd (hd.length : Int) (i : Int)) r := by
  intro d
  induction d with
  | zero =>
    intro i hi
    obtain rfl : i = hd.length := by omega
    rw [List.take_length]
    refine Ev.step (f := fun k => behind l at_ (val hd)) (fun k => ?_) ⟨0, fun _ _ => hr⟩
    simp only [code_Take.l0]
    rw [if_neg (by omega)]
    rfl
  | succ d ih =>
    intro i hi
    have hlt : i < hd.length := by omega
    refine Ev.step (f := fun k => code_Take.l0 k l at_ ((val (hd.take (i + 1)) : Nat) : Int) hd (hd.length : Int) ((i + 1 : Nat) : Int)) (fun k => ?_) (ih (i + 1) (by omega))
    simp only [code_Take.l0]
    have hv : val (hd.take i) < 4294967296 / 256 := by
      have h1 := val_lt (hd.take i).length _ (hb.take i) rfl
      have h2 : (hd.take i).length ≤ 3 := by simp; omega
      have h3 : 256 ^ (hd.take i).length ≤ 256 ^ 3 := Nat.pow_le_pow_right (by decide) h2
      omega
    have hx := hb.getD i
    have e1 : rd hd (i : Int) = ((hd.getD i 0).toNat : Int) := by unfold rd; rw [Int.toNat_natCast]; omega
    have e2 : wrap64 (((val (hd.take i) : Nat) : Int) * 256) = ((val (hd.take i) * 256 : Nat) : Int) := by rw [w64 (by omega) (by omega)]; omega
    have e3 : wrap64 ((i : Int) + 1) = ((i + 1 : Nat) : Int) := by rw [w64 (by omega) (by omega)]; omega
    rw [if_pos (by omega), if_pos (by omega), if_pos (by omega), e1, w64 (x := ((hd.getD i 0).toNat : Int)) (by omega) (by omega), e2, or_add _ _ (by omega) (by omega), ← val_take hd i hlt, e3]
theorem ctake_ev (l : List Int) (hb : IsB l) (hl : l.length ≤ 140737488351232) : Ev (fun k => code_Take.f k l) (takeRes l) := by
  have er0 : rd l 0 = l.getD 0 0 := rfl
  have er1 : rd l 1 = l.getD 1 0 := rfl
  have hno : ∀ n, Puts l n → 0 < l.length ∧ 1 ≤ l.getD 0 0 ∧ l.getD 0 0 ≤ 4 ∧ l.getD 0 0 < l.length := fun n h => by
    have h1 := h.head.1
    have h2 := h.1
    have h3 := h.2.1
    have h4 := digs_pos (8 * n)
    rw [leftL_len] at h2 h3
    omega
  have bad : ∀ b : Bool, b = true → (∀ n, ¬ Puts l n) → Ev (fun k => code_Take.j0 k l b) (takeRes l) := fun b hb' hn => by
    subst hb'
    refine Ev.step (f := fun k => some (([] : List Int), (0 : Int), false)) (fun k => ?_) ⟨0, fun _ _ => ?_⟩
    · simp only [code_Take.j0]; exact if_pos trivial
    · rw [takeRes_none hn]
  have hx := hb.getD 0
  by_cases h0 : l.length = 0
  · refine Ev.congr (f := fun k => code_Take.j0 k l true) (fun k => ?_) (bad true rfl fun n h => by have := hno n h; omega)
    unfold code_Take.f; rw [if_pos (by omega)]
  by_cases h1 : l.getD 0 0 < 1
  · refine Ev.congr (f := fun k => code_Take.j0 k l true) (fun k => ?_) (bad true rfl fun n h => by have := hno n h; omega)
    unfold code_Take.f; rw [if_neg (by omega), if_pos (by omega), er0, if_pos h1]
  by_cases h4 : l.getD 0 0 > 4
  · refine Ev.congr (f := fun k => code_Take.j0 k l true) (fun k => ?_) (bad true rfl fun n h => by have := hno n h; omega)
    unfold code_Take.f; rw [if_neg (by omega), if_pos (by omega), er0, if_neg h1, if_pos h4]
  have ew : wrap64 (rd l 0) = l.getD 0 0 := by rw [er0]; exact w64 (by omega) (by omega)
  by_cases h5 : l.getD 0 0 ≥ l.length
  · refine Ev.congr (f := fun k => code_Take.j0 k l true) (fun k => ?_) (bad true rfl fun n h => by have := hno n h; omega)
    unfold code_Take.f; rw [if_neg (by omega), if_pos (by omega), ew, er0, if_neg h1, if_neg h4]
    congr 1
    exact decide_eq_true h5
  obtain ⟨m, hm⟩ : ∃ m : Nat, l.getD 0 0 = (m : Int) := ⟨(l.getD 0 0).toNat, by omega⟩
  have e1 : wrap64 (1 + wrap64 (rd l 0)) = ((m + 1 : Nat) : Int) := by rw [ew, hm, w64 (by omega) (by omega)]; omega
  have hlen : ((l.drop 1).take m).length = m := by simp; omega
  have hbd : IsB ((l.drop 1).take m) := (hb.drop 1).take m
  have e2 : (l.take (m + 1)).drop 1 = (l.drop 1).take m := by rw [List.drop_take]; rfl
  refine Ev.congr (f := fun k => code_Take.j0 k l false) (fun k => ?_) ?_
  · unfold code_Take.f; rw [if_neg (by omega), if_pos (by omega), ew, er0, if_neg h1, if_neg h4]
    congr 1
    exact decide_eq_false h5
  refine Ev.step (f := fun k => code_Take.l0 k l ((m + 1 : Nat) : Int) ((val (((l.drop 1).take m).take 0) : Nat) : Int) ((l.drop 1).take m) (((l.drop 1).take m).length : Int) ((0 : Nat) : Int)) (fun k => ?_) ?_
  · simp only [code_Take.j0]
    rw [if_neg (by decide), if_pos (by omega), e1, if_pos (by omega), if_pos (by omega), Int.toNat_natCast, e2]
    rfl
  refine ctake_l0 l _ _ hbd (by omega) _ ?_ m 0 (by omega)
  generalize hh : (l.drop 1).take m = h at *
  have hv := val_lt m h hbd hlen
  have hv2 : val h < 4294967296 := by
    have : 256 ^ m ≤ 256 ^ 4 := Nat.pow_le_pow_right (by decide) (by omega)
    omega
  have only : ∀ n, Puts l n → val h = 8 * n ∧ h = digs (8 * n) := fun n hn => by
    obtain ⟨p1, p2⟩ := hn.head
    have : (digs (8 * n)).length = m := by omega
    rw [this, hh] at p2
    refine ⟨by rw [p2, val_digs], p2⟩
  have h10 : h.getD 0 0 = l.getD 1 0 := by
    rw [← hh, List.getD_eq_getElem?_getD, List.getElem?_take, if_pos (by omega), List.getElem?_drop, List.getD_eq_getElem?_getD]
  unfold behind
  rw [Int.tmod_eq_emod_of_nonneg (by omega), Int.tdiv_eq_ediv_of_nonneg (by omega), er0, er1, w64 (x := ((val h : Nat) : Int) / 8) (by omega) (by omega), w64 (x := (l.length : Int) - ((m + 1 : Nat) : Int)) (by omega) (by omega)]
  by_cases h8 : val h % 8 = 0
  · rw [if_pos (by omega), if_pos (by omega)]
    have rest : (1 < m → l.getD 1 0 ≠ 0) → (if ((val h : Nat) : Int) / 8 > (l.length : Int) - ((m + 1 : Nat) : Int) then (some (([] : List Int), (0 : Int), false)) else (if 0 ≤ ((m + 1 : Nat) : Int) then (if ((m + 1 : Nat) : Int) ≤ (wrap64 (((m + 1 : Nat) : Int) + ((val h : Nat) : Int) / 8)) then (if (wrap64 (((m + 1 : Nat) : Int) + ((val h : Nat) : Int) / 8)) ≤ (l.length : Int) then ((code_join.f (([((l.take ((wrap64 (((m + 1 : Nat) : Int) + ((val h : Nat) : Int) / 8)) : Int).toNat).drop (((m + 1 : Nat) : Int) : Int).toNat)] : List (List Int)))).bind fun t174 => (some (t174, wrap64 (((m + 1 : Nat) : Int) + ((val h : Nat) : Int) / 8), true))) else none) else none) else none)) = some (takeRes l) := fun hmin => by
      obtain ⟨q, hq⟩ : ∃ q, val h = 8 * q := ⟨val h / 8, by omega⟩
      have hdv : ((val h : Nat) : Int) / 8 = (q : Int) := by omega
      have hds : digs (8 * q) = h := by
        rw [← hq]
        exact digs_val m h hlen (by omega) hbd (fun hh1 => by rw [h10]; exact hmin (by omega))
      have hLL : (leftL (8 * q)).length = m + 1 := by rw [leftL_len, hds, hlen]
      rw [hdv]
      by_cases hfit : (q : Int) > (l.length : Int) - ((m + 1 : Nat) : Int)
      · rw [if_pos hfit, takeRes_none]
        intro n hn
        have := (only n hn).1
        have h2 := hn.2.1
        have : n = q := by omega
        subst this
        omega
      · have hput : Puts l q := by
          refine ⟨by omega, by omega, ?_⟩
          rw [hLL]
          unfold leftL
          rw [hds, hlen]
          cases l with
          | nil => simp at h0
          | cons x l =>
            have hxm : x = (m : Int) := hm
            rw [List.take_succ_cons, hxm]
            congr 1
        rw [if_neg hfit, if_pos (by omega), w64 (x := ((m + 1 : Nat) : Int) + (q : Int)) (by omega) (by omega), if_pos (by omega), if_pos (by omega), Int.toNat_natCast, show (((m + 1 : Nat) : Int) + (q : Int)).toNat = m + 1 + q by omega, join1 _ (by simp; omega), Option.bind_some, takeRes_of hput, hLL, List.drop_take, show m + 1 + q - (m + 1) = q by omega]
        congr 3
    by_cases hm1 : l.getD 0 0 > 1
    · rw [if_pos hm1, if_pos (by omega)]
      by_cases hz : l.getD 1 0 = 0
      · rw [if_pos hz, takeRes_none]
        intro n hn
        have h2 := (only n hn).2
        have h3 := digs_min (8 * n) (by rw [← h2]; omega)
        rw [← h2, h10] at h3
        exact h3 hz
      · rw [if_neg hz]
        exact rest fun _ => hz
    · rw [if_neg hm1]
      exact rest fun h => by omega
  · rw [if_neg (by omega), takeRes_none]
    intro n hn
    have := (only n hn).1
    omega
theorem awake_ev : Ev (fun k => visorlaw14_awake.f k) true := by
  have h1 := left_ev 256 (by decide)
  have h2 := right_ev 0 (by decide)
  have d1 : leftL 256 = [2, 1, 0] := by
    have : digs 256 = [1, 0] := by
      rw [digs_step (by decide), digs_small (by decide)]; rfl
    unfold leftL; rw [this]; rfl
  have d2 : rightL 0 = [0, 1] := by
    have : digs 0 = [0] := digs_small (by decide)
    unfold rightL; rw [this]; rfl
  rw [d1] at h1
  rw [d2] at h2
  refine Ev.bind (a := [2, 1, 0]) h1 ?_
  refine Ev.congr (f := fun k => (code_Right.f k 0).bind fun t142 => (some ((strOfNums t142).toList == ([0, 1] : List UInt8)))) (fun k => ?_) ?_
  · rw [Go.Lib.strOfNums_toList]; exact if_pos rfl
  · refine Ev.map h2 _ ?_
    rw [Go.Lib.strOfNums_toList]; rfl
end Go.Proofs.Ythijjpiddelefaa.CodeEval
