/-
  Merged texts, what is reached of them: PureSpongeTells, SpGrow, CodeSp, SpNamed, SpHash, SpHashL: walks and plain lemmas; no condition.
-/
import Derived.Test.YthijjpiddelefaaPSq4
import Derived.Test.YthijjpiddelefaaSpKnown
import Derived.Test.YthijjpiddelefaaSpAll
import Derived.Test.YthijjpiddelefaaSlices
import Derived.Test.YthijjpiddelefaaSpBase
import Derived.Test.YthijjpiddelefaaArr3
namespace Go.Proofs.Ythijjpiddelefaa.Pure
open Go.Proofs.Ythijjpiddelefaa Go.RowKit Go.Proofs.Ythijjpiddelefaa.SpSum Go.Proofs.Ythijjpiddelefaa.Sponge Go.Proofs.Ythijjpiddelefaa.PSp Go.Proofs.YthijjpiddelefaaW.PrintWords Go.Proofs.YthijjpiddelefaaW.PrintLast CodeMath SpMath SpKnown
set_option linter.unusedVariables false
theorem sum_eq (m : List Int) (rate mark n : Int) (h : Rateds rate) (hm : m.length ≤ 1000000000) (hb : IsB m) (hk : 0 ≤ mark ∧ mark < 256) (hn : 0 ≤ n ∧ n ≤ 65536) : sponge_Sum.f m rate mark n = some (sumL m rate.toNat mark n.toNat, 0) := by
  unfold sponge_Sum.f
  rw [if_pos h, if_pos ⟨hm, (allB_iff m).2 hb, hk⟩, if_pos hn]
theorem sum_big (m : List Int) (rate mark n : Int) (h : Rateds rate) (hm : m.length ≤ 1000000000) (hb : IsB m) (hk : 0 ≤ mark ∧ mark < 256) (hn : ¬ (0 ≤ n ∧ n ≤ 65536)) : sponge_Sum.f m rate mark n = some ([], 1) := by
  unfold sponge_Sum.f
  rw [if_pos h, if_pos ⟨hm, (allB_iff m).2 hb, hk⟩, if_neg hn]
theorem sum_not (m : List Int) (rate mark n : Int) (h : ¬ Rateds rate) : sponge_Sum.f m rate mark n = some ([], 1) := by
  unfold sponge_Sum.f
  rw [if_neg h]
theorem rsum_eq (m : List Int) (rate mark n : Int) (h : Rateds rate) (hm : m.length ≤ 1000000000) (hb : IsB m) (hk : 0 ≤ mark ∧ mark < 256) (hn : 0 ≤ n ∧ n ≤ 65536) : visorref15_Sum.f m rate mark n = some (sumL m rate.toNat mark n.toNat) := by
  unfold visorref15_Sum.f
  rw [if_pos ⟨hm, h.1, h.2.1, h.2.2, hn.1, by omega, (allB_iff m).2 hb, hk.1, hk.2⟩]
theorem rrate_eq (x : Int) : PKec.visorref15_Rate.f x = PKec.sponge_Rate.f x := rfl
theorem same_self (l : List Int) : visorref01_Same.f l l = some true := by
  unfold visorref01_Same.f
  simp
theorem awake_eq (k : Nat) (h : 0 < k) : visorlaw15_awake.f k = some true := by
  obtain ⟨k, rfl⟩ : ∃ m, k = m + 1 := ⟨k - 1, by omega⟩
  have h1 : sponge_Sha3.f (k + 1) 256 [] = some (sumL [] 136 6 32, 0) := by
    have e1 : PKec.sponge_Rate.f 256 = some 136 := by decide +kernel
    unfold sponge_Sha3.f
    rw [e1]
    simp only [Option.bind_some]
    rw [if_neg (by decide)]
    simp only [sponge_Sha3.j0]
    rw [if_neg (by decide), e1]
    simp only [Option.bind_some]
    rw [show wrap64 (Int.tdiv 256 8) = 32 by decide +kernel, sum_eq [] 136 6 32 (by decide) (by decide) IsB.nil (by decide) (by decide)]
    rfl
  have h2 : sponge_Shake.f 128 [] 4 = some (sumL [] 168 31 4, 0) := by
    have e1 : sponge_long.f 128 = some 168 := by decide +kernel
    unfold sponge_Shake.f
    rw [e1]
    simp only [Option.bind_some]
    rw [sum_eq [] 168 31 4 (by decide) (by decide) IsB.nil (by decide) (by decide)]
    rfl
  unfold visorlaw15_awake.f
  rw [h1, h2, sha256, shake128]
  decide +kernel
end Go.Proofs.Ythijjpiddelefaa.Pure
namespace Go.Proofs.Ythijjpiddelefaa.SpGrow
open Go Go.RowKit Go.Proofs.Ythijjpiddelefaa Go.Proofs.Ythijjpiddelefaa.PSp Go.Proofs.YthijjpiddelefaaW.PrintWords Go.Proofs.YthijjpiddelefaaW.PrintLast Go.Proofs.YthijjpiddelefaaW.PrintMore Byte Sl Arr Mem Gives OctMath Store SWord CodeMath SpMath HandKit Chunk Sponge SpSum Go.Proofs.Ythijjpiddelefaa.Pure
set_option linter.unusedVariables false
set_option linter.unusedSimpArgs false
set_option maxHeartbeats 4000000
set_option maxRecDepth 100000
theorem awake_c (w : World) : Calls Try.prog 25 #[] w fun e w' => e = .returned (.bool true) ∧ Below w.heap.size w w' := PSp.visorlaw15_awake.calls 1 true w (awake_eq 1 (by decide))
theorem same_n (A : Option Addr) (c : Nat) (B : Option Addr) (d n1 n2 : Nat) (l : List Int) (h1 : n1 = l.length) (h2 : n2 = l.length) (w : World) (hA : Kd.C (Kd.int .u8) w A n1 l) (hc : n1 ≤ c) (hB : Kd.C (Kd.int .u8) w B n2 l) (hd : n2 ≤ d) : Calls Try.prog 31 #[.slice A n1 c, .slice B n2 d] w fun e w' => e = .returned (.bool true) ∧ Drawn0 w w' := by
  subst h1
  subst h2
  exact PSp.visorref01_Same.calls A c l B d l true w hA hc hB hd (same_self l)
end Go.Proofs.Ythijjpiddelefaa.SpGrow
namespace Go.Proofs.Ythijjpiddelefaa.CodeSp
open Go.RowKit Go.Proofs.Ythijjpiddelefaa.PSp Go.Proofs.YthijjpiddelefaaW.PrintWords Go.Proofs.YthijjpiddelefaaW.PrintLast Go.Proofs.YthijjpiddelefaaW.PrintMore Byte CodeMath Concat
set_option linter.unusedVariables false
theorem Ev.map {α β : Type} {g : Nat → Option α} {r : α} (h : Ev g r) (f : α → Option β) {q : β} (hf : f r = some q) : Ev (fun n => (g n).bind f) q := Ev.bind h ⟨0, fun _ _ => hf⟩
theorem rev_l0 (l : List Int) (n : Nat) (hl : l.length = n) (hb : n ≤ 1099511627776) : ∀ d k (x : List Int) (i : Nat), x.length = n → (∀ p, p < n → x.getD p 0 = if p < i ∨ n ≤ p + i then l.getD (n - 1 - p) 0 else l.getD p 0) → 2 * i ≤ n + 1 → n - 2 * i ≤ 2 * d + 1 → d < k →
    slices_Reverse_byte_byte.l0 k x (i : Int) ((n : Int) - 1 - i) = some l.reverse := by
  intro d
  induction d with
  | zero =>
    intro k x i hx hp hi hd hk
    obtain ⟨k, rfl⟩ : ∃ m, k = m + 1 := ⟨k - 1, by omega⟩
    simp only [slices_Reverse_byte_byte.l0]
    rw [if_neg (by omega)]
    congr 1
    refine List.ext_getElem (by simp; omega) fun p h1 h2 => ?_
    have h3 : p < n := by omega
    have := hp p h3
    rw [List.getD_eq_getElem?_getD, List.getElem?_eq_getElem h1] at this
    rw [List.getElem_reverse]
    have e : (if p < i ∨ n ≤ p + i then l.getD (n - 1 - p) 0 else l.getD p 0) = l.getD (n - 1 - p) 0 := by
      by_cases h : p < i ∨ n ≤ p + i
      · rw [if_pos h]
      · rw [if_neg h]
        congr 1
        omega
    rw [e, List.getD_eq_getElem?_getD, List.getElem?_eq_getElem (by omega)] at this
    simp only [Option.getD_some] at this
    rw [this]
    congr 1
    omega
  | succ d ih =>
    intro k x i hx hp hi hd hk
    by_cases hlt : 2 * i + 1 < n
    · obtain ⟨k, rfl⟩ : ∃ m, k = m + 1 := ⟨k - 1, by omega⟩
      simp only [slices_Reverse_byte_byte.l0]
      rw [if_pos (by omega), if_pos (by omega), if_pos (by omega), if_pos (by omega), if_pos (by omega), w64 (by omega) (by omega), w64 (by omega) (by omega)]
      have ej : ((n : Int) - 1 - i).toNat = n - 1 - i := by omega
      have er : ∀ (j : Nat), rd x (j : Int) = x.getD j 0 := fun j => by unfold rd; rw [Int.toNat_natCast]
      have er2 : rd x ((n : Int) - 1 - i) = x.getD (n - 1 - i) 0 := by unfold rd; rw [ej]
      rw [Int.toNat_natCast, ej, er, er2, hp i (by omega), hp (n - 1 - i) (by omega), if_neg (by omega), if_neg (by omega)]
      have e2 : (n : Int) - 1 - i - 1 = (n : Int) - 1 - ((i + 1 : Nat) : Int) := by omega
      rw [e2]
      refine ih k _ (i + 1) (by simp [hx]) (fun p hpn => ?_) (by omega) (by omega) (by omega)
      have hpx := hp p hpn
      rw [List.getD_eq_getElem?_getD] at hpx
      rw [List.getD_eq_getElem?_getD, List.getElem?_set, List.length_set, List.getElem?_set]
      by_cases h1 : n - 1 - i = p
      · rw [if_pos h1, if_pos (by omega), if_pos (Or.inr (by omega))]
        simp only [Option.getD_some]
        congr 1; omega
      · rw [if_neg h1]
        by_cases h2 : i = p
        · rw [if_pos h2, if_pos (by omega), if_pos (Or.inl (by omega))]
          simp only [Option.getD_some]
          congr 1; omega
        · rw [if_neg h2, hpx]
          by_cases h3 : p < i ∨ n ≤ p + i
          · rw [if_pos h3, if_pos (by omega)]
          · rw [if_neg h3, if_neg (by omega)]
    · exact ih k x i hx hp hi (by omega) (by omega)
theorem rev_ev (l : List Int) (hb : l.length ≤ 1099511627776) : Ev (fun k => slices_Reverse_byte_byte.f k l) l.reverse := by
  refine ⟨l.length + 1, fun k hk => ?_⟩
  show slices_Reverse_byte_byte.f k l = _
  unfold slices_Reverse_byte_byte.f
  rw [w64 (by omega) (by omega)]
  have := rev_l0 l l.length rfl hb l.length k l 0 rfl (fun p hp => by rw [if_neg (by omega)]) (by omega) (by omega) (by omega)
  have e : ((l.length : Int) - 1 - ((0 : Nat) : Int)) = (l.length : Int) - 1 := by omega
  rw [e] at this
  exact this
theorem digits_l0 : ∀ n : Nat, ∀ acc : List Int, acc.length + (tl n).length ≤ 1000 → Ev (fun k => code_digits.l0 k (n : Int) acc) (acc ++ tl n).reverse := by
  intro n
  induction n using Nat.strongRecOn with
  | _ n ih =>
    intro acc hl
    rcases Nat.eq_zero_or_pos n with rfl | hp
    · rw [tl_zero, List.append_nil]
      refine Ev.step (f := fun k => (slices_Reverse_byte_byte.f k acc).bind fun t => some t) (fun k => ?_) ?_
      · simp only [code_digits.l0]
        rw [if_neg (by decide)]
      · exact Ev.map (rev_ev acc (by omega)) _ rfl
    · rw [tl_pos hp, List.length_cons] at hl
      refine Ev.step (f := fun k => code_digits.l0 k ((n / 256 : Nat) : Int) (acc ++ [((n % 256 : Nat) : Int)])) (fun k => ?_) ?_
      · simp only [code_digits.l0]
        rw [if_pos (by omega), if_pos (by omega)]
        congr 1
      · have := ih (n / 256) (by omega) (acc ++ [((n % 256 : Nat) : Int)]) (by simp; omega)
        rw [tl_pos hp]
        simpa using this
theorem digits_ev (n : Nat) (h : n < 18446744073709551616) : Ev (fun k => code_digits.f k (n : Int)) (digs n) := by
  have hl := tl_len 8 (n / 256) (Nat.lt_of_le_of_lt (Nat.div_le_self _ _) (by simpa using h))
  have := digits_l0 (n / 256) [((n % 256 : Nat) : Int)] (by simp; omega)
  unfold digs
  have e : ([((n % 256 : Nat) : Int)] ++ tl (n / 256)).reverse = (tl (n / 256)).reverse ++ [((n % 256 : Nat) : Int)] := by simp
  rw [e] at this
  exact this
theorem concat2 (a b : List Int) (h : a.length + b.length < 140737488355328) : slices_Concat_byte_byte.f [a, b] = some (a ++ b) := by
  unfold slices_Concat_byte_byte.f total
  rw [if_pos (by simpa using h)]
  simp
theorem join2 (a b : List Int) (h : a.length + b.length < 140737488355328) : code_join.f [a, b] = some (a ++ b) := by
  unfold code_join.f
  rw [concat2 a b h]; rfl
theorem digs_le9 {n : Nat} (h : n < 18446744073709551616) : (digs n).length ≤ 8 := digs_len 7 n (by simpa using h)
theorem left_ev (n : Nat) (h : n < 18446744073709551616) : Ev (fun k => code_Left.f k (n : Int)) (leftL n) := by
  have hd := digs_le9 h
  refine Ev.congr (f := fun k => (code_digits.f k (n : Int)).bind fun t115 => ((code_join.f (([(([((t115.length : Int)) % 256] : List Int)), t115] : List (List Int)))).bind fun t124 => (some t124))) (fun k => ?_) ?_
  · unfold code_Left.f
    rw [if_neg (by omega)]
  · refine Ev.map (digits_ev n h) _ ?_
    rw [join2 _ _ (by simp; omega)]
    simp only [Option.bind_some]
    have : ((digs n).length : Int) % 256 = (digs n).length := by omega
    rw [this]; rfl
theorem leftL_le {n : Nat} (h : n < 18446744073709551616) : (leftL n).length ≤ 9 := by
  have := digs_le9 h
  rw [leftL_len]; omega
theorem str_ev (l : List Int) (h : l.length ≤ 140737488351232) : Ev (fun k => code_Str.f k l) (strL l) := by
  have h2 := leftL_le (n := 8 * l.length) (by omega)
  refine Ev.congr (f := fun k => (code_Left.f k ((8 * l.length : Nat) : Int)).bind fun t145 => ((code_join.f (([t145, l] : List (List Int)))).bind fun t151 => (some t151))) (fun k => ?_) ?_
  · unfold code_Str.f
    rw [w64 (by omega) (by omega)]
    congr 2
  · refine Ev.map (left_ev _ (by omega)) _ ?_
    rw [join2 _ _ (by omega)]; rfl
theorem rdigits_ev : ∀ n : Nat, n < 9223372036854775808 → Ev (fun k => visorref14_Digits.f k (n : Int)) (digs n) := by
  intro n
  induction n using Nat.strongRecOn with
  | _ n ih =>
    intro h
    rcases Nat.lt_or_ge n 256 with h2 | h2
    · refine ⟨1, fun k hk => ?_⟩
      obtain ⟨k, rfl⟩ : ∃ m, k = m + 1 := ⟨k - 1, by omega⟩
      simp only [visorref14_Digits.f]
      rw [if_pos (by omega), digs_small h2]
      have : (n : Int) % 256 = n := by omega
      rw [this]
    · have hd := digs_le9 (n := n / 256) (by omega)
      refine Ev.step (f := fun k => (visorref14_Digits.f k ((n / 256 : Nat) : Int)).bind fun t => if t.length < 140737488355328 then some (t ++ [((n % 256 : Nat) : Int)]) else none) (fun k => ?_) ?_
      · simp only [visorref14_Digits.f]
        rw [if_neg (by omega)]
        have e1 : wrap64 (Int.tdiv (n : Int) 256) = ((n / 256 : Nat) : Int) := by
          rw [Int.tdiv_eq_ediv_of_nonneg (by omega), w64 (by omega) (by omega)]; omega
        have e2 : (Int.tmod (n : Int) 256) % 256 = ((n % 256 : Nat) : Int) := by
          rw [Int.tmod_eq_emod_of_nonneg (by omega)]; omega
        rw [e1, e2]
      · refine Ev.map (ih (n / 256) (by omega) (by omega)) _ ?_
        rw [if_pos (by omega), ← digs_step h2]
theorem rleft_ev (n : Nat) (h : n < 9223372036854775808) : Ev (fun k => visorref14_Left.f k (n : Int)) (leftL n) := by
  have hd := digs_le9 (n := n) (by omega)
  refine Ev.congr (f := fun k => (visorref14_Digits.f k (n : Int)).bind fun t209 => ((some (([((t209.length : Int)) % 256] : List Int) : List Int)).bind fun y212 => (if y212.length + t209.length < 140737488355328 then (some (y212 ++ t209)) else (none)))) (fun k => ?_) ?_
  · unfold visorref14_Left.f
    rw [if_neg (by omega)]
  · refine Ev.map (rdigits_ev n h) _ ?_
    simp only [Option.bind_some]
    rw [if_pos (by simp; omega)]
    have : ((digs n).length : Int) % 256 = (digs n).length := by omega
    rw [this]; rfl
theorem rstr_ev (l : List Int) (h : l.length ≤ 140737488351232) : Ev (fun k => visorref14_Str.f k l) (strL l) := by
  have h2 := leftL_le (n := 8 * l.length) (by omega)
  refine Ev.congr (f := fun k => (visorref14_Left.f k ((8 * l.length : Nat) : Int)).bind fun t244 => (if t244.length + l.length < 140737488355328 then (some (t244 ++ l)) else (none))) (fun k => ?_) ?_
  · unfold visorref14_Str.f
    rw [w64 (by omega) (by omega)]
    congr 2
  · refine Ev.map (rleft_ev _ (by omega)) _ ?_
    rw [if_pos (by omega)]; rfl
theorem pad_ev (l : List Int) (w : Nat) (hw : 0 < w) (hw2 : w ≤ 1000) (h : l.length ≤ 140737488351232) : Ev (fun k => code_Pad.f k l (w : Int)) (padL l w, 0) := by
  have h2 := leftL_le (n := w) (by omega)
  have hp := padN_lt (leftL w ++ l).length w hw
  refine Ev.congr (f := fun k => code_Pad.j0 k l (w : Int) false) (fun k => ?_) ?_
  · unfold code_Pad.f
    rw [if_neg (by omega)]
    congr 1
    exact decide_eq_false (by omega)
  · refine Ev.step (f := fun k => ((code_Left.f k (w : Int)).bind fun t188 => ((code_join.f (([t188, l] : List (List Int)))).bind fun t194 => (if (w : Int) = 0 then (none) else (if ((t194.length : Int) % (w : Int)) > 0 then (if 0 ≤ (wrap64 ((w : Int) - ((t194.length : Int) % (w : Int)))) then (if t194.length + (wrap64 ((w : Int) - ((t194.length : Int) % (w : Int))) : Int).toNat < 140737488355328 then (some ((t194 ++ List.replicate (wrap64 ((w : Int) - ((t194.length : Int) % (w : Int))) : Int).toNat 0), 0)) else (none)) else (none)) else (some (t194, 0))))))) (fun k => ?_) ?_
    · simp only [code_Pad.j0]
      rw [if_neg (by decide)]
    · refine Ev.map (left_ev w (by omega)) _ ?_
      rw [join2 _ _ (by omega)]
      simp only [Option.bind_some]
      rw [if_neg (by omega)]
      unfold padL
      generalize hx : leftL w ++ l = x at *
      have hxl : x.length ≤ 140737488351232 + 9 := by rw [← hx, List.length_append]; omega
      have em : (x.length : Int) % (w : Int) = ((x.length % w : Nat) : Int) := by omega
      rw [em]
      by_cases h0 : x.length % w = 0
      · rw [if_neg (by omega)]
        unfold padN
        rw [if_pos h0]
        simp
      · have hlt := Nat.mod_lt x.length hw
        have e1 : wrap64 ((w : Int) - ((x.length % w : Nat) : Int)) = ((w - x.length % w : Nat) : Int) := by rw [w64 (by omega) (by omega)]; omega
        rw [if_pos (by omega), e1, if_pos (by omega), Int.toNat_natCast, if_pos (by omega)]
        unfold padN
        rw [if_neg h0]
theorem pad_no (l : List Int) (w : Int) (hw : w < 1 ∨ 1000 < w) : Ev (fun k => code_Pad.f k l w) ([], 1) := by
  refine Ev.congr (f := fun k => code_Pad.j0 k l w true) (fun k => ?_) ?_
  · unfold code_Pad.f
    by_cases h : w < 1
    · rw [if_pos h]
    · rw [if_neg h]
      congr 1
      exact decide_eq_true (by omega)
  · exact Ev.step (f := fun k => some ([], 1)) (fun k => by simp only [code_Pad.j0]; exact if_pos trivial) ⟨0, fun _ _ => rfl⟩
theorem rpad_l0 (w : Nat) (hw : 0 < w) : ∀ d (x : List Int), padN x.length w = d → x.length + d < 140737488355328 → Ev (fun k => visorref14_Pad.l0 k (w : Int) x) (x ++ List.replicate d 0, 0) := by
  intro d
  induction d with
  | zero =>
    intro x hd hl
    refine Ev.step (f := fun k => some (x, 0)) (fun k => ?_) ⟨0, fun _ _ => by simp⟩
    simp only [visorref14_Pad.l0]
    have h0 : x.length % w = 0 := by
      unfold padN at hd
      have := Nat.mod_lt x.length hw
      split at hd
      · assumption
      · omega
    rw [if_neg (by omega), if_pos (by omega)]
  | succ d ih =>
    intro x hd hl
    have hlt := Nat.mod_lt x.length hw
    have h0 : x.length % w ≠ 0 ∧ w - x.length % w = d + 1 := by
      unfold padN at hd
      split at hd
      · omega
      · exact ⟨by assumption, hd⟩
    refine Ev.step (f := fun k => visorref14_Pad.l0 k (w : Int) (x ++ [0])) (fun k => ?_) ?_
    · simp only [visorref14_Pad.l0]
      rw [if_neg (by omega), if_neg (by omega), if_pos (by omega)]
    · have hn : padN (x ++ [0]).length w = d := by
        have e : (x ++ [0]).length = x.length + 1 := by simp
        rw [e]
        unfold padN
        have hdm := Nat.div_add_mod x.length w
        rcases Nat.eq_zero_or_pos d with hz | hz
        · have : (x.length + 1) % w = 0 := by
            have e3 : x.length + 1 = w * (x.length / w + 1) := by rw [Nat.mul_add]; omega
            rw [e3, Nat.mul_mod_right]
          rw [if_pos this]; omega
        · have : (x.length + 1) % w = x.length % w + 1 := by
            have e3 : x.length + 1 = (x.length % w + 1) + w * (x.length / w) := by omega
            rw [e3, Nat.add_mul_mod_self_left, Nat.mod_eq_of_lt (by omega)]
          rw [this, if_neg (by omega)]; omega
      have := ih (x ++ [0]) hn (by simp; omega)
      rw [List.append_assoc] at this
      exact this
theorem rpad_ev (l : List Int) (w : Nat) (hw : 0 < w) (hw2 : w ≤ 1000) (h : l.length ≤ 140737488351232) : Ev (fun k => visorref14_Pad.f k l (w : Int)) (padL l w, 0) := by
  have h2 := leftL_le (n := w) (by omega)
  have hp := padN_lt (leftL w ++ l).length w hw
  refine Ev.congr (f := fun k => visorref14_Pad.j0 k l (w : Int) false) (fun k => ?_) ?_
  · unfold visorref14_Pad.f
    rw [if_neg (by omega)]
    congr 1
    exact decide_eq_false (by omega)
  · refine Ev.step (f := fun k => ((visorref14_Left.f k (w : Int)).bind fun t218 => (if t218.length + l.length < 140737488355328 then (visorref14_Pad.l0 k (w : Int) (t218 ++ l)) else (none)))) (fun k => ?_) ?_
    · simp only [visorref14_Pad.j0]
      rw [if_neg (by decide)]
    · refine Ev.bind (rleft_ev w (by omega)) ?_
      refine Ev.congr (f := fun k => visorref14_Pad.l0 k (w : Int) (leftL w ++ l)) (fun k => if_pos (by omega)) ?_
      exact rpad_l0 w hw _ _ rfl (by rw [List.length_append] at hp ⊢; omega)
end Go.Proofs.Ythijjpiddelefaa.CodeSp
namespace Go.Proofs.Ythijjpiddelefaa.SpNamed
open Go.Proofs.Ythijjpiddelefaa Go.RowKit Go.Proofs.Ythijjpiddelefaa.SpSum Go.Proofs.Ythijjpiddelefaa.Sponge Go.Proofs.Ythijjpiddelefaa.PSp Go.Proofs.YthijjpiddelefaaW.PrintWords Go.Proofs.YthijjpiddelefaaW.PrintLast CodeMath SpMath CodeSp Go.Proofs.Ythijjpiddelefaa.Pure Concat
set_option linter.unusedVariables false
/-- Of which numbers there are hashes of any length. -/
def Bits (b : Int) : Prop := b = 128 ∨ b = 256
instance (b : Int) : Decidable (Bits b) := by unfold Bits; infer_instance
def rateN (b : Int) : Nat := if b = 128 then 168 else 136
theorem rate_bits {b : Int} (h : Bits b) : PKec.sponge_Rate.f b = some (rateN b : Int) := by
  rcases h with rfl | rfl <;> decide +kernel
theorem long_bits {b : Int} (h : Bits b) : sponge_long.f b = some (rateN b : Int) := by
  rcases h with rfl | rfl <;> decide +kernel
theorem long_not {b : Int} (h : ¬ Bits b) : sponge_long.f b = some 0 := by
  unfold Bits at h
  unfold sponge_long.f
  rw [if_neg (fun e => h (Or.inl e)), if_neg (fun e => h (Or.inr e))]
theorem rateN_cases (b : Int) : rateN b = 168 ∨ rateN b = 136 := by unfold rateN; split <;> simp
theorem rateN_ok (b : Int) : Rateds (rateN b : Int) := by
  rcases rateN_cases b with h | h <;> rw [h] <;> decide
/-- What is told, with a name. -/
def namedL (b : Int) (name custom m : List Int) (n : Nat) : List Int :=
  if name.length = 0 ∧ custom.length = 0 then sumL m (rateN b) 31 n else sumL (padL (strL name ++ strL custom) (rateN b) ++ m) (rateN b) 4 n
theorem shake_ok {b : Int} (hb : Bits b) (m : List Int) (n : Int) (hm : m.length ≤ 1000000000) (hmb : IsB m) (hn : 0 ≤ n ∧ n ≤ 65536) : sponge_Shake.f b m n = some (sumL m (rateN b) 31 n.toNat, 0) := by
  unfold sponge_Shake.f
  rw [long_bits hb]
  simp only [Option.bind_some]
  rw [sum_eq m _ 31 n (rateN_ok b) hm hmb (by decide) hn]
  rw [Int.toNat_natCast]; rfl
theorem shake_big {b : Int} (hb : Bits b) (m : List Int) (n : Int) (hm : m.length ≤ 1000000000) (hmb : IsB m) (hn : ¬ (0 ≤ n ∧ n ≤ 65536)) : sponge_Shake.f b m n = some ([], 1) := by
  unfold sponge_Shake.f
  rw [long_bits hb]
  simp only [Option.bind_some]
  rw [sum_big m _ 31 n (rateN_ok b) hm hmb (by decide) hn]
  rfl
theorem shake_not {b : Int} (hb : ¬ Bits b) (m : List Int) (n : Int) : sponge_Shake.f b m n = some ([], 1) := by
  unfold sponge_Shake.f
  rw [long_not hb]
  simp only [Option.bind_some]
  rw [sum_not m 0 31 n (by decide)]
  rfl
theorem strL_len (l : List Int) (h : l.length ≤ 1000000) : (strL l).length ≤ l.length + 9 := by
  unfold strL
  rw [List.length_append]
  have := leftL_le (n := 8 * l.length) (by omega)
  omega
theorem lt9 {n : Nat} (h : n < 16777216) : n < 256 ^ 9 := Nat.lt_of_lt_of_le (show n < 256 ^ 3 by rw [show (256 : Nat) ^ 3 = 16777216 by decide]; exact h) (Nat.pow_le_pow_right (by decide) (by decide))
theorem strL_b (l : List Int) (h : l.length ≤ 1000000) (hb : IsB l) : IsB (strL l) := IsB.append (leftL_b (lt9 (by omega))) hb
theorem padL_len (l : List Int) (w : Nat) (hw : 0 < w) (hw2 : w ≤ 1000) : (padL l w).length ≤ l.length + 9 + w := by
  unfold padL
  rw [List.length_append, List.length_replicate]
  have h1 := padN_lt (leftL w ++ l).length w hw
  have h2 := leftL_le (n := w) (by omega)
  rw [List.length_append] at h1 ⊢
  omega
theorem padL_b (l : List Int) (w : Nat) (hw2 : w ≤ 1000) (hb : IsB l) : IsB (padL l w) := IsB.append (IsB.append (leftL_b (lt9 (by omega))) hb) (IsB.zeros _)
section
variable {b : Int} {x0 x1 m : List Int}
theorem head_len (h0 : x0.length ≤ 1000000) (h1 : x1.length ≤ 1000000) : (padL (strL x0 ++ strL x1) (rateN b)).length ≤ 3000000 := by
  have hr := rateN_cases b
  have h2 := padL_len (strL x0 ++ strL x1) (rateN b) (by omega) (by omega)
  have h3 := strL_len x0 h0
  have h4 := strL_len x1 h1
  rw [List.length_append] at h2
  omega
theorem head_b (h0 : x0.length ≤ 1000000) (h1 : x1.length ≤ 1000000) (b0 : IsB x0) (b1 : IsB x1) : IsB (padL (strL x0 ++ strL x1) (rateN b)) :=
  padL_b _ _ (by have := rateN_cases b; omega) (IsB.append (strL_b x0 h0 b0) (strL_b x1 h1 b1))
theorem named_ev (hb : Bits b) (h0 : x0.length ≤ 1000000) (h1 : x1.length ≤ 1000000) (hm : m.length ≤ 500000000) (b0 : IsB x0) (b1 : IsB x1) (bm : IsB m) (n : Int) (hn : 0 ≤ n ∧ n ≤ 65536) : Ev (fun k => sponge_Named.f k b x0 x1 m n) (namedL b x0 x1 m n.toNat, 0) := by
  by_cases hz : x0.length = 0 ∧ x1.length = 0
  · refine ⟨1, fun k hk => ?_⟩
    obtain ⟨k, rfl⟩ : ∃ z, k = z + 1 := ⟨k - 1, by omega⟩
    show sponge_Named.f (k + 1) b x0 x1 m n = _
    unfold sponge_Named.f namedL
    rw [if_pos (by omega), if_pos hz]
    simp only [sponge_Named.j0]
    rw [if_pos (by simp [hz.2]), shake_ok hb m n (by omega) bm hn]
    rfl
  · obtain ⟨K0, e0⟩ := str_ev x0 (by omega)
    obtain ⟨K1, e1⟩ := str_ev x1 (by omega)
    have l0 := strL_len x0 h0
    have l1 := strL_len x1 h1
    have hr := rateN_cases b
    obtain ⟨K2, e2⟩ := pad_ev (strL x0 ++ strL x1) (rateN b) (by omega) (by omega) (by rw [List.length_append]; omega)
    have hh := head_len (b := b) h0 h1
    have hcat : (padL (strL x0 ++ strL x1) (rateN b)).length + m.length < 140737488355328 := by clear e0 e1 e2; omega
    have hsum : (padL (strL x0 ++ strL x1) (rateN b) ++ m).length ≤ 1000000000 := by rw [List.length_append]; clear e0 e1 e2 hcat; omega
    have hstr : (strL x0).length + (strL x1).length < 140737488355328 := by clear e0 e1 e2 hcat hsum; omega
    refine ⟨K0 + K1 + K2 + 1, fun k hk => ?_⟩
    obtain ⟨k, rfl⟩ : ∃ z, k = z + 1 := ⟨k - 1, by omega⟩
    show sponge_Named.f (k + 1) b x0 x1 m n = _
    have e : sponge_Named.f (k + 1) b x0 x1 m n = sponge_Named.j0 (k + 1) b x0 x1 m n false := by
      unfold sponge_Named.f
      by_cases hz0 : x0.length = 0
      · rw [if_pos (by omega), show ((x1.length : Int) == 0) = false by rw [beq_eq_false_iff_ne]; omega]
      · rw [if_neg (by omega)]
    rw [e]
    simp only [sponge_Named.j0]
    rw [if_neg (by decide)]
    have f0 := e0 k (by omega)
    have f1 := e1 k (by omega)
    have f2 := e2 k (by omega)
    simp only at f0 f1 f2
    rw [f0, Option.bind_some]
    rw [f1, Option.bind_some]
    rw [concat2 _ _ hstr, Option.bind_some]
    rw [long_bits hb, Option.bind_some]
    rw [f2, Option.bind_some, if_pos rfl]
    rw [concat2 (padL (strL x0 ++ strL x1) (rateN b)) m hcat, Option.bind_some]
    try rw [Option.bind_some]
    rw [sum_eq _ _ 4 n (rateN_ok b) hsum (IsB.append (head_b h0 h1 b0 b1) bm) (by decide) hn]
    rw [Option.bind_some, Int.toNat_natCast]
    unfold namedL
    rw [if_neg hz]
theorem named_big (hb : Bits b) (h0 : x0.length ≤ 1000000) (h1 : x1.length ≤ 1000000) (hm : m.length ≤ 500000000) (b0 : IsB x0) (b1 : IsB x1) (bm : IsB m) (n : Int) (hn : ¬ (0 ≤ n ∧ n ≤ 65536)) : Ev (fun k => sponge_Named.f k b x0 x1 m n) ([], 1) := by
  by_cases hz : x0.length = 0 ∧ x1.length = 0
  · refine ⟨1, fun k hk => ?_⟩
    obtain ⟨k, rfl⟩ : ∃ z, k = z + 1 := ⟨k - 1, by omega⟩
    show sponge_Named.f (k + 1) b x0 x1 m n = _
    unfold sponge_Named.f
    rw [if_pos (by omega)]
    simp only [sponge_Named.j0]
    rw [if_pos (by simp [hz.2]), shake_big hb m n (by omega) bm hn]
    rfl
  · obtain ⟨K0, e0⟩ := str_ev x0 (by omega)
    obtain ⟨K1, e1⟩ := str_ev x1 (by omega)
    have l0 := strL_len x0 h0
    have l1 := strL_len x1 h1
    have hr := rateN_cases b
    obtain ⟨K2, e2⟩ := pad_ev (strL x0 ++ strL x1) (rateN b) (by omega) (by omega) (by rw [List.length_append]; omega)
    have hh := head_len (b := b) h0 h1
    have hcat : (padL (strL x0 ++ strL x1) (rateN b)).length + m.length < 140737488355328 := by clear e0 e1 e2; omega
    have hsum : (padL (strL x0 ++ strL x1) (rateN b) ++ m).length ≤ 1000000000 := by rw [List.length_append]; clear e0 e1 e2 hcat; omega
    have hstr : (strL x0).length + (strL x1).length < 140737488355328 := by clear e0 e1 e2 hcat hsum; omega
    refine ⟨K0 + K1 + K2 + 1, fun k hk => ?_⟩
    obtain ⟨k, rfl⟩ : ∃ z, k = z + 1 := ⟨k - 1, by omega⟩
    show sponge_Named.f (k + 1) b x0 x1 m n = _
    have e : sponge_Named.f (k + 1) b x0 x1 m n = sponge_Named.j0 (k + 1) b x0 x1 m n false := by
      unfold sponge_Named.f
      by_cases hz0 : x0.length = 0
      · rw [if_pos (by omega), show ((x1.length : Int) == 0) = false by rw [beq_eq_false_iff_ne]; omega]
      · rw [if_neg (by omega)]
    rw [e]
    simp only [sponge_Named.j0]
    rw [if_neg (by decide)]
    have f0 := e0 k (by omega)
    have f1 := e1 k (by omega)
    have f2 := e2 k (by omega)
    simp only at f0 f1 f2
    rw [f0, Option.bind_some]
    rw [f1, Option.bind_some]
    rw [concat2 _ _ hstr, Option.bind_some]
    rw [long_bits hb, Option.bind_some]
    rw [f2, Option.bind_some, if_pos rfl]
    rw [concat2 (padL (strL x0 ++ strL x1) (rateN b)) m hcat, Option.bind_some]
    try rw [Option.bind_some]
    rw [sum_big _ _ 4 n (rateN_ok b) hsum (IsB.append (head_b h0 h1 b0 b1) bm) (by decide) hn]
    rfl
theorem named_not (hb : ¬ Bits b) (h0 : x0.length ≤ 1000000) (h1 : x1.length ≤ 1000000) (n : Int) : Ev (fun k => sponge_Named.f k b x0 x1 m n) ([], 1) := by
  by_cases hz : x0.length = 0 ∧ x1.length = 0
  · refine ⟨1, fun k hk => ?_⟩
    obtain ⟨k, rfl⟩ : ∃ z, k = z + 1 := ⟨k - 1, by omega⟩
    show sponge_Named.f (k + 1) b x0 x1 m n = _
    unfold sponge_Named.f
    rw [if_pos (by omega)]
    simp only [sponge_Named.j0]
    rw [if_pos (by simp [hz.2]), shake_not hb m n]
    rfl
  · obtain ⟨K0, e0⟩ := str_ev x0 (by omega)
    obtain ⟨K1, e1⟩ := str_ev x1 (by omega)
    have l0 := strL_len x0 h0
    have l1 := strL_len x1 h1
    obtain ⟨K2, e2⟩ := pad_no (strL x0 ++ strL x1) 0 (by decide)
    refine ⟨K0 + K1 + K2 + 1, fun k hk => ?_⟩
    obtain ⟨k, rfl⟩ : ∃ z, k = z + 1 := ⟨k - 1, by omega⟩
    show sponge_Named.f (k + 1) b x0 x1 m n = _
    have e : sponge_Named.f (k + 1) b x0 x1 m n = sponge_Named.j0 (k + 1) b x0 x1 m n false := by
      unfold sponge_Named.f
      by_cases hz0 : x0.length = 0
      · rw [if_pos (by omega), show ((x1.length : Int) == 0) = false by rw [beq_eq_false_iff_ne]; omega]
      · rw [if_neg (by omega)]
    rw [e]
    simp only [sponge_Named.j0]
    rw [if_neg (by decide)]
    have f0 := e0 k (by omega)
    have f1 := e1 k (by omega)
    have f2 := e2 k (by omega)
    simp only at f0 f1 f2
    rw [f0, Option.bind_some]
    rw [f1, Option.bind_some]
    rw [concat2 _ _ (by omega), Option.bind_some]
    rw [long_not hb, Option.bind_some]
    rw [f2, Option.bind_some, if_neg (by decide)]
theorem rnamed_ev (hb : Bits b) (h0 : x0.length ≤ 1000000) (h1 : x1.length ≤ 1000000) (hm : m.length ≤ 500000000) (b0 : IsB x0) (b1 : IsB x1) (bm : IsB m) (n : Int) (hn : 0 ≤ n ∧ n ≤ 65536) : Ev (fun k => visorref15_Named.f k b x0 x1 m n) (namedL b x0 x1 m n.toNat) := by
  have hrr : PKec.visorref15_Rate.f b = some (rateN b : Int) := (rrate_eq b).trans (rate_bits hb)
  by_cases hz : x0.length = 0 ∧ x1.length = 0
  · refine ⟨1, fun k hk => ?_⟩
    obtain ⟨k, rfl⟩ : ∃ z, k = z + 1 := ⟨k - 1, by omega⟩
    show visorref15_Named.f (k + 1) b x0 x1 m n = _
    unfold visorref15_Named.f namedL
    rw [if_pos (by omega), if_pos hz]
    simp only [visorref15_Named.j0]
    rw [if_pos (by simp [hz.2]), hrr]
    simp only [Option.bind_some]
    rw [rsum_eq m _ 31 n (rateN_ok b) (by omega) bm (by decide) hn, Int.toNat_natCast]
    rfl
  · obtain ⟨K0, e0⟩ := rstr_ev x0 (by omega)
    obtain ⟨K1, e1⟩ := rstr_ev x1 (by omega)
    have l0 := strL_len x0 h0
    have l1 := strL_len x1 h1
    have hr := rateN_cases b
    obtain ⟨K2, e2⟩ := rpad_ev (strL x0 ++ strL x1) (rateN b) (by omega) (by omega) (by rw [List.length_append]; omega)
    have hh := head_len (b := b) h0 h1
    have hcat : (padL (strL x0 ++ strL x1) (rateN b)).length + m.length < 140737488355328 := by clear e0 e1 e2; omega
    have hsum : (padL (strL x0 ++ strL x1) (rateN b) ++ m).length ≤ 1000000000 := by rw [List.length_append]; clear e0 e1 e2 hcat; omega
    have hstr : (strL x0).length + (strL x1).length < 140737488355328 := by clear e0 e1 e2 hcat hsum; omega
    refine ⟨K0 + K1 + K2 + 1, fun k hk => ?_⟩
    obtain ⟨k, rfl⟩ : ∃ z, k = z + 1 := ⟨k - 1, by omega⟩
    show visorref15_Named.f (k + 1) b x0 x1 m n = _
    have e : visorref15_Named.f (k + 1) b x0 x1 m n = visorref15_Named.j0 (k + 1) b x0 x1 m n false := by
      unfold visorref15_Named.f
      by_cases hz0 : x0.length = 0
      · rw [if_pos (by omega), show ((x1.length : Int) == 0) = false by rw [beq_eq_false_iff_ne]; omega]
      · rw [if_neg (by omega)]
    rw [e]
    simp only [visorref15_Named.j0]
    rw [if_neg (by decide)]
    have f0 := e0 k (by omega)
    have f1 := e1 k (by omega)
    have f2 := e2 k (by omega)
    simp only at f0 f1 f2
    rw [f0, Option.bind_some]
    rw [f1, Option.bind_some]
    rw [if_pos hstr, hrr, Option.bind_some]
    rw [f2, Option.bind_some]
    try rw [Option.bind_some]
    rw [if_pos hcat]
    try rw [Option.bind_some]
    rw [rsum_eq _ _ 4 n (rateN_ok b) hsum (IsB.append (head_b h0 h1 b0 b1) bm) (by decide) hn]
    rw [Option.bind_some, Int.toNat_natCast]
    unfold namedL
    rw [if_neg hz]
end
end Go.Proofs.Ythijjpiddelefaa.SpNamed
namespace Go.Proofs.Ythijjpiddelefaa.SpHash
open Go Go.RowKit Go.Proofs.Ythijjpiddelefaa Go.Proofs.Ythijjpiddelefaa.PSp Go.Proofs.YthijjpiddelefaaW.PrintWords Go.Proofs.YthijjpiddelefaaW.PrintLast Go.Proofs.YthijjpiddelefaaW.PrintMore Byte Sl Arr Mem Gives OctMath Store SWord CodeMath SpMath HandKit Chunk Sponge SpSum Go.Proofs.Ythijjpiddelefaa.Pure SpGrow SpNamed
set_option linter.unusedVariables false
set_option linter.unusedSimpArgs false
set_option maxHeartbeats 4000000
set_option maxRecDepth 100000
/-- Block g holds three values. -/
def Tri (w : World) (g : Nat) (v0 v1 v2 : Value) : Prop := w.heap[g]? = some (.cells #[v0, v1, v2] 48 (0, 0))
section
variable {w : World} {g : Nat} {v0 v1 v2 : Value}
theorem Tri.lt (h : Tri w g v0 v1 v2) : g < w.heap.size := (Array.getElem?_eq_some_iff.1 h).1
theorem Tri.new (w : World) (v0 v1 v2 : Value) : Tri (w.alloc (.cells #[v0, v1, v2] 48)) w.heap.size v0 v1 v2 := by
  show (w.heap.push _)[w.heap.size]? = _
  rw [Array.getElem?_push_size]
theorem Tri.below (h : Tri w g v0 v1 v2) {w' : World} (hb : Below w.heap.size w w') : Tri w' g v0 v1 v2 := (hb.block g h.lt).trans h
theorem Tri.drew (h : Tri w g v0 v1 v2) : Tri w.drew g v0 v1 v2 := h
theorem Tri.c0 (h : Tri w g v0 v1 v2) : w.cell? ⟨g, 0, none⟩ = some v0 := by rw [cell_of_row w g 0 _ _ _ h]; rfl
theorem Tri.c1 (h : Tri w g v0 v1 v2) : w.cell? ⟨g, 1, none⟩ = some v1 := by rw [cell_of_row w g 1 _ _ _ h]; rfl
theorem Tri.c2 (h : Tri w g v0 v1 v2) : w.cell? ⟨g, 2, none⟩ = some v2 := by rw [cell_of_row w g 2 _ _ _ h]; rfl
end
theorem hash_big (A0 A1 A2 : Option Addr) (L0 L1 L2 c0 c1 c2 : Nat) (b n : Int) (w : World) (h : (500 : Int) < (L0 : Int) ∨ (500 : Int) < (L1 : Int) ∨ (500 : Int) < (L2 : Int) ∨ (1000 < n ∧ n ≤ 65536)) :
    Calls Try.prog 8 #[.int .i64 b, .int .i64 n, .agg #[.slice A0 L0 c0, .slice A1 L1 c1, .slice A2 L2 c2]] w fun e w' => e = .returned (.bool true) ∧ Below w.heap.size w w' := by
  have M1 := Aside0.mk (Tri.new w (.slice A0 L0 c0) (.slice A1 L1 c1) (.slice A2 L2 c2))
  have HB := Aside0.mk (below_alloc (Below.refl w.heap.size w) (.cells #[.slice A0 L0 c0, .slice A1 L1 c1, .slice A2 L2 c2] 48))
  have AWK := Aside0.mk (fun W (hb : Below w.heap.size w W) => (awake_c W).mono (R' := fun e w' => e = .returned (.bool true) ∧ Below w.heap.size w w') fun e w' h => ⟨h.1, below_step hb h.2⟩)
  have hs : ((500 : Int) < (L0 : Int)) ∨ ((¬ (500 : Int) < (L0 : Int)) ∧ (500 : Int) < (L1 : Int)) ∨ ((¬ (500 : Int) < (L0 : Int)) ∧ (¬ (500 : Int) < (L1 : Int)) ∧ (500 : Int) < (L2 : Int)) ∨ ((¬ (500 : Int) < (L0 : Int)) ∧ (¬ (500 : Int) < (L1 : Int)) ∧ (¬ (500 : Int) < (L2 : Int)) ∧ 1000 < n ∧ n ≤ 65536) := by omega
  clear h
  rcases hs with h | ⟨h, h'⟩ | ⟨h, h', h''⟩ | ⟨h, h', h'', h3, h4⟩
  all_goals
    go_enter Try.func8, Try.ntmps8
    go_upto_region 1 with (fail)
    have hg0 := M1.out.c0
    have hg1 := M1.out.c1
    have hg2 := M1.out.c2
    go_wp2_with (first
      | (go_at_call 25; (with_reducible refine (AWK.out _ HB.out).mono ?_); rintro e w9 ⟨rfl, hb9⟩; have HB9 := Aside0.mk hb9; clear hb9))
    go_ret
    exact ⟨rfl, HB9.out⟩
theorem same_m (A : Option Addr) (c : Nat) (B : Option Addr) (d n1 : Nat) (l : List Int) (h1 : l.length = n1) (w : World) (hA : Kd.C (Kd.int .u8) w A n1 l) (hc : n1 ≤ c) (hB : Kd.C (Kd.int .u8) w B n1 l) (hd : n1 ≤ d) : Calls Try.prog 31 #[.slice A n1 c, .slice B n1 d] w fun e w' => e = .returned (.bool true) ∧ Drawn0 w w' :=
  same_n A c B d n1 n1 l h1.symm h1.symm w hA hc hB hd
def Rcase (R b d B8 : Int) (x2 ra : List Int) (na : Nat) : Prop := (R = 0 ∧ d = 1 ∧ na = 0) ∨ (R ≠ 0 ∧ b = 128 ∧ d = 1 ∧ na = 0) ∨ (R ≠ 0 ∧ b ≠ 128 ∧ d = 0 ∧ Sponge.visorref15_Sum.f x2 R 6 B8 = some ra)
def Ecase (R b n e : Int) (k : Nat) (x0 x1 x2 rb rc : List Int) (nb nc : Nat) : Prop := (e = 1 ∧ nb = 0 ∧ nc = 0) ∨ (e = 0 ∧ Sponge.visorref15_Sum.f x2 R 31 n = some rb ∧ visorref15_Named.f k b x0 x1 x2 n = some rc)
theorem hash_walk (A0 A1 A2 : Option Addr) (c0 c1 c2 : Nat) (x0 x1 x2 : List Int) (b n R d e B8 : Int) (k3 k5 k6 : Nat) (ra rb rc : List Int) (na nb nc : Nat) (w : World)
    (hC0 : Kd.C (Kd.int .u8) w A0 x0.length x0) (hC1 : Kd.C (Kd.int .u8) w A1 x1.length x1) (hC2 : Kd.C (Kd.int .u8) w A2 x2.length x2) (hc0 : x0.length ≤ c0) (hc1 : x1.length ≤ c1) (hc2 : x2.length ≤ c2)
    (h0 : ¬ (500 : Int) < (x0.length : Int)) (h1 : ¬ (500 : Int) < (x1.length : Int)) (h2 : ¬ (500 : Int) < (x2.length : Int)) (hn : ¬ (1000 < n ∧ n ≤ 65536))
    (hna : ra.length = na) (hnb : rb.length = nb) (hnc : rc.length = nc)
    (e3 : sponge_Sha3.f k3 b x2 = some (ra, d)) (e4 : sponge_Shake.f b x2 n = some (rb, e)) (e5 : sponge_Named.f k5 b x0 x1 x2 n = some (rc, e))
    (eR : PKec.visorref15_Rate.f b = some R) (eC : visorref15_Check.f b n = some e) (hB8 : wrap64 (Int.tdiv b 8) = B8)
    (hR : Rcase R b d B8 x2 ra na) (hE : Ecase R b n e k6 x0 x1 x2 rb rc nb nc) :
    Calls Try.prog 8 #[.int .i64 b, .int .i64 n, .agg #[.slice A0 x0.length c0, .slice A1 x1.length c1, .slice A2 x2.length c2]] w fun e w' => e = .returned (.bool true) ∧ Below w.heap.size w w' := by
  have M1 := Aside0.mk (Tri.new w (.slice A0 x0.length c0) (.slice A1 x1.length c1) (.slice A2 x2.length c2))
  have HB := Aside0.mk (below_alloc (Below.refl w.heap.size w) (.cells #[.slice A0 x0.length c0, .slice A1 x1.length c1, .slice A2 x2.length c2] 48))
  have AWK := Aside0.mk (fun W (hb : Below w.heap.size w W) => (awake_c W).mono (R' := fun e w' => e = .returned (.bool true) ∧ Below w.heap.size w w') fun e w' h => ⟨h.1, below_step hb h.2⟩)
  have HC0 := Aside0.mk hC0
  have HC1 := Aside0.mk hC1
  have HC2 := Aside0.mk hC2
  have HNA := Aside0.mk hna
  have HNB := Aside0.mk hnb
  have HNC := Aside0.mk hnc
  have K3 := Aside0.mk (fun W hC => PSp.sponge_Sha3.calls k3 b A2 c2 x2 ra d W hC hc2 e3)
  have K4 := Aside0.mk (fun W hC => PSp.sponge_Shake.calls b A2 c2 x2 n rb e W hC hc2 e4)
  have K5 := Aside0.mk (fun W hC hC' hC2 => PSp.sponge_Named.calls k5 b A0 c0 x0 A1 c1 x1 (fun k => k < W.heap.size) A2 c2 x2 n rc e W hC hc0 hC' hc1 (Kd.V_mk hc2 (Kd.C_F (Kd.heap_int _) hC2)) e5)
  have KR := Aside0.mk (fun W => PKec.visorref15_Rate.calls b R W eR)
  have KC := Aside0.mk (fun W => PSp.visorref15_Check.calls b n e W eC)
  have SMA := Aside0.mk (fun A c B d W hA hc hB hd => same_m A c B d na ra hna W hA hc hB hd)
  have SMB := Aside0.mk (fun A c B d W hA hc hB hd => same_m A c B d nb rb hnb W hA hc hB hd)
  have SMC := Aside0.mk (fun A c B d W hA hc hB hd => same_m A c B d nc rc hnc W hA hc hB hd)
  have HN := Aside0.mk hn
  have HR := Aside0.mk hR
  have HE := Aside0.mk hE
  have HH := Aside0.mk (And.intro hc2 (And.intro hc0 hc1))
  subst hB8
  clear hR hE hn hC0 hC1 hC2 e3 e4 e5 eR eC hna hnb hnc hc0 hc1 hc2
  go_enter Try.func8, Try.ntmps8
  go_upto_region 1 with (fail)
  have hg0 := M1.out.c0
  have hg1 := M1.out.c1
  have hg2 := M1.out.c2
  have hns : (1000 < n ∧ ¬ n ≤ 65536) ∨ (¬ 1000 < n) := by have := HN.out; omega
  refine hns.elim (fun hn12 => ?_) (fun hn1 => ?_)
  case' refine_1 => obtain ⟨hn1, hn2⟩ := hn12
  all_goals
    clear hns
    go_upto_region 3 with (fail)
    (try clear hn2)
    clear hn1 h0 h1 h2 hg0 hg1
    go_upto_region 4 with (first
      | (go_at_call 34; (with_reducible refine (K3.out _ (Kd.C_below HC2.out HB.out)).mono ?_); rintro e_ w1 ⟨v1, rfl, hv1, hb1⟩; have M1 := Aside0.mk (Tri.below M1.out hb1); obtain ⟨Aa, ca, rfl, hla, hfa⟩ := hv1; rw [HNA.out] at hla hfa ⊢; have HVa := Aside0.mk (And.intro hla (Kd.F_now hfa)); have HB := Aside0.mk (below_step HB.out hb1); clear hla hfa hb1))
    clear hg2
    have hg2 := M1.out.c2
    go_upto_region 5 with (first
      | (go_at_call 35; (with_reducible refine (K4.out _ (Kd.C_below HC2.out HB.out)).mono ?_); rintro e_ w1 ⟨v1, rfl, hv1, hb1⟩; have M1 := Aside0.mk (Tri.below M1.out hb1); have HVa := Aside0.mk (And.intro HVa.out.1 (Kd.C_below HVa.out.2 hb1)); obtain ⟨Ab, cb, rfl, hla, hfa⟩ := hv1; rw [HNB.out] at hla hfa ⊢; have HVb := Aside0.mk (And.intro hla (Kd.F_now hfa)); have HB := Aside0.mk (below_step HB.out hb1); clear hla hfa hb1))
    clear hg2
    have hg0 := M1.out.c0
    have hg1 := M1.out.c1
    have hg2 := M1.out.c2
    go_upto_region 6 with (first
      | (go_at_call 36; (with_reducible refine (K5.out _ (Kd.C_below HC0.out HB.out) (Kd.C_below HC1.out HB.out) (Kd.C_below HC2.out HB.out)).mono ?_); rintro e_ w1 ⟨v1, rfl, hv1, hb1⟩; have M1 := Aside0.mk (Tri.below M1.out hb1); have HVa := Aside0.mk (And.intro HVa.out.1 (Kd.C_below HVa.out.2 hb1)); have HVb := Aside0.mk (And.intro HVb.out.1 (Kd.C_below HVb.out.2 hb1)); obtain ⟨Ac, cc, rfl, hla, hfa⟩ := hv1; rw [HNC.out] at hla hfa ⊢; have HVc := Aside0.mk (And.intro hla (Kd.F_now hfa)); have HB := Aside0.mk (below_step HB.out hb1); clear hla hfa hb1))
    clear hg0 hg1 hg2
    rcases HR.out with ⟨hr1, hr2, hr3⟩ | ⟨hr1, hr4, hr2, hr3⟩ | ⟨hr1, hr4, hr2, hr3⟩
    case' inl => subst hr2; subst hr3; (have hr5 : (R == 0) = true := by rw [hr1]; rfl)
    case' inr.inl => subst hr2; subst hr3; (have hr6 : (b == 128) = true := by rw [hr4]; rfl); clear hr4; (have hr5 : (R == 0) = false := by rw [beq_eq_false_iff_ne]; exact hr1)
    case' inr.inr => subst hr2; (have hr5 : (R == 0) = false := by rw [beq_eq_false_iff_ne]; exact hr1); (have hr6 : (b == 128) = false := by rw [beq_eq_false_iff_ne]; exact hr4); have HS6 := Aside0.mk (fun W hC => Sponge.visorref15_Sum.calls A2 c2 x2 R 6 _ ra W hC HH.out.1 hr3); clear hr3
    case' inr.inr => go_upto_region 9 with (first
      | (go_at_call 29; (with_reducible refine (KR.out _).mono ?_); rintro e_ w2 ⟨rfl, hd_⟩; have M1 := Aside0.mk (Tri.below M1.out hd_.below); have HVa := Aside0.mk (And.intro HVa.out.1 (Kd.C_below HVa.out.2 hd_.below)); have HVb := Aside0.mk (And.intro HVb.out.1 (Kd.C_below HVb.out.2 hd_.below)); have HVc := Aside0.mk (And.intro HVc.out.1 (Kd.C_below HVc.out.2 hd_.below)); have HB := Aside0.mk (below_step HB.out hd_.below); clear hd_))
    case' inr.inr => skip
    case' inr.inr =>
      refine start_ (n := 14) (S := fun w' => w'.cell? ⟨w.heap.size, 2, none⟩ = some (.slice A2 x2.length c2)) (ds := []) #[false, false, false, false, false, false, false, false, false, false, false, false, false, false] (by kernel_rfl) rfl rfl ((Tri.c2 (Tri.drew M1.out))) (fun hHeld => ?_)
      refine pure_ (i := 0) (N := some 79) (v := ?_) (a' := ?_) #[true, false, false, false, false, false, false, false, false, false, false, false, false, false] rfl rfl (by kernel_rfl) (fun _ _ _ h => h) (Or.inl ⟨by rfl, ?_⟩) ?_ ?_
      rotate_left
      · intro w'
        go_simp
        with_reducible rfl
      rotate_left
      · simp only [Act.put, List.setIfInBounds_toArray, List.set_cons_zero, List.set_cons_succ, i64_w, i32_w]
        rfl
      refine pure_ (i := 1) (N := some 80) (v := ?_) (a' := ?_) #[true, true, false, false, false, false, false, false, false, false, false, false, false, false] rfl rfl (by kernel_rfl) (fun _ _ _ h => h) (Or.inl ⟨by rfl, ?_⟩) ?_ ?_
      rotate_left
      · intro w'
        go_simp
        with_reducible rfl
      rotate_left
      · simp only [Act.put, List.setIfInBounds_toArray, List.set_cons_zero, List.set_cons_succ, i64_w, i32_w]
        rfl
      refine pure_ (i := 2) (N := some 81) (v := ?_) (a' := ?_) #[true, true, true, false, false, false, false, false, false, false, false, false, false, false] rfl rfl (by kernel_rfl) (fun _ _ _ h => h) (Or.inl ⟨by rfl, ?_⟩) ?_ ?_
      rotate_left
      · intro w'
        go_simp
        with_reducible rfl
      rotate_left
      · simp only [Act.put, List.setIfInBounds_toArray, List.set_cons_zero, List.set_cons_succ, i64_w, i32_w]
        rfl
      refine pure_ (i := 3) (N := some 82) (v := ?_) (a' := ?_) #[true, true, true, true, false, false, false, false, false, false, false, false, false, false] rfl rfl (by kernel_rfl) (fun _ _ _ h => h) (Or.inl ⟨by rfl, ?_⟩) ?_ ?_
      rotate_left
      · intro w'
        go_simp
        with_reducible rfl
      rotate_left
      · simp only [Act.put, List.setIfInBounds_toArray, List.set_cons_zero, List.set_cons_succ, i64_w, i32_w]
        rfl
      refine pure_ (i := 4) (N := some 83) (v := ?_) (a' := ?_) #[true, true, true, true, true, false, false, false, false, false, false, false, false, false] rfl rfl (by kernel_rfl) (fun _ _ _ h => h) (Or.inl ⟨by rfl, ?_⟩) ?_ ?_
      rotate_left
      · intro w'
        go_simp
        with_reducible rfl
      rotate_left
      · simp only [Act.put, List.setIfInBounds_toArray, List.set_cons_zero, List.set_cons_succ, i64_w, i32_w]
        rfl
      refine pure_ (i := 6) (N := some 85) (v := ?_) (a' := ?_) #[true, true, true, true, true, false, true, false, false, false, false, false, false, false] rfl rfl (by kernel_rfl) (fun _ _ _ h => h) (Or.inl ⟨by rfl, ?_⟩) ?_ ?_
      rotate_left
      · intro w'
        go_simp
        with_reducible rfl
      rotate_left
      · simp only [Act.put, List.setIfInBounds_toArray, List.set_cons_zero, List.set_cons_succ, i64_w, i32_w]
        rfl
      refine pure_ (i := 8) (N := some 87) (v := ?_) (a' := ?_) #[true, true, true, true, true, false, true, false, true, false, false, false, false, false] rfl rfl (by kernel_rfl) (fun _ _ _ h => h) (Or.inl ⟨by rfl, ?_⟩) ?_ ?_
      rotate_left
      · intro w'
        go_simp
        with_reducible rfl
      rotate_left
      · simp only [Act.put, List.setIfInBounds_toArray, List.set_cons_zero, List.set_cons_succ, i64_w, i32_w]
        rfl
      refine pure_ (i := 9) (N := some 88) (v := ?_) (a' := ?_) #[true, true, true, true, true, false, true, false, true, true, false, false, false, false] rfl rfl (by kernel_rfl) (fun _ _ _ h => h) (Or.inl ⟨by rfl, ?_⟩) ?_ ?_
      rotate_left
      · intro w'
        go_simp
        with_reducible rfl
      rotate_left
      · simp only [Act.put, List.setIfInBounds_toArray, List.set_cons_zero, List.set_cons_succ, i64_w, i32_w]
        rfl
      refine take_ (i := 5) (N := some 84) (v := ?_) (a' := ?_) #[true, true, true, true, true, true, true, false, true, true, false, false, false, false] rfl rfl (by kernel_rfl) (fun _ _ _ h => h) (Or.inl ⟨by rfl, ?_⟩) hHeld ?_ ?_
      rotate_left
      · intro w' s0
        go_simp
        with_reducible rfl
      rotate_left
      · simp only [Act.put, List.setIfInBounds_toArray, List.set_cons_zero, List.set_cons_succ, i64_w, i32_w]
        rfl
      refine one_ (i := 7) (N := some 86) #[true, true, true, true, true, true, true, true, true, true, false, false, false, false] rfl rfl (by kernel_rfl) (by decide) (fun K hK => ?_)
      refine goes_ Try.func29 (by kernel_rfl) rfl #[.int .i64 b] (by rfl) rfl rfl (by simp only [List.map_toArray, List.map_cons, List.map_nil]; rfl) ?_
      with_reducible refine (KR.out _).mono ?_
      rintro e_ w3 ⟨rfl, hd_⟩
      refine ⟨_, rfl, ?_⟩
      have M1 := Aside0.mk (Tri.below (Tri.drew M1.out) hd_.below)
      have HVa := Aside0.mk (And.intro HVa.out.1 (Kd.C_below (Kd.C_drew HVa.out.2) hd_.below))
      have HVb := Aside0.mk (And.intro HVb.out.1 (Kd.C_below (Kd.C_drew HVb.out.2) hd_.below))
      have HVc := Aside0.mk (And.intro HVc.out.1 (Kd.C_below (Kd.C_drew HVc.out.2) hd_.below))
      have HB := Aside0.mk (below_step (below_drew HB.out) hd_.below)
      refine hK.out _ _ (M1.out.c2) (fun hHeld => ?_)
      clear hK K
      refine norm_ (a' := ?_) ?_ ?_
      rotate_left
      · show Act.put _ (some 86) _ = _
        simp only [Act.put, List.setIfInBounds_toArray, List.set_cons_zero, List.set_cons_succ, i64_w, i32_w]
        rfl
      refine one_ (i := 10) (N := some 89) #[true, true, true, true, true, true, true, true, true, true, true, false, false, false] rfl rfl (by kernel_rfl) (by decide) (fun K hK => ?_)
      refine goes_ Try.func33 (by kernel_rfl) rfl #[.slice A2 x2.length c2, .int .i64 R, .int .u8 6, .int .i64 (wrap64 (Int.tdiv b 8))] (by rfl) rfl rfl (by simp only [List.map_toArray, List.map_cons, List.map_nil]; rfl) ?_
      with_reducible refine (HS6.out _ (Kd.C_below HC2.out HB.out)).mono ?_
      rintro e_ w4 ⟨v4, rfl, hv4, hb4⟩
      refine ⟨_, rfl, ?_⟩
      obtain ⟨As, cs, rfl, hls, hfs⟩ := Kd.R_reads hv4
      rw [HNA.out] at hls hfs ⊢
      have HVs := Aside0.mk (And.intro hls hfs)
      have M1 := Aside0.mk (Tri.below M1.out hb4)
      have HVa := Aside0.mk (And.intro HVa.out.1 (Kd.C_below HVa.out.2 hb4))
      have HVb := Aside0.mk (And.intro HVb.out.1 (Kd.C_below HVb.out.2 hb4))
      have HVc := Aside0.mk (And.intro HVc.out.1 (Kd.C_below HVc.out.2 hb4))
      have HB := Aside0.mk (below_step HB.out hb4)
      refine hK.out _ _ (M1.out.c2) (fun hHeld => ?_)
      clear hK K
      refine norm_ (a' := ?_) ?_ ?_
      rotate_left
      · show Act.put _ (some 89) _ = _
        simp only [Act.put, List.setIfInBounds_toArray, List.set_cons_zero, List.set_cons_succ, i64_w, i32_w]
        rfl
      refine one_ (i := 11) (N := some 90) #[true, true, true, true, true, true, true, true, true, true, true, true, false, false] rfl rfl (by kernel_rfl) (by decide) (fun K hK => ?_)
      refine goes_ Try.func31 (by kernel_rfl) rfl #[.slice Aa na ca, .slice As na cs] (by rfl) rfl rfl (by simp only [List.map_toArray, List.map_cons, List.map_nil]; rfl) ?_
      with_reducible refine (SMA.out _ _ _ _ _ HVa.out.2 HVa.out.1 HVs.out.2 HVs.out.1).mono ?_
      rintro e_ w5 ⟨rfl, hd_⟩
      refine ⟨_, rfl, ?_⟩
      have M1 := Aside0.mk (Tri.below M1.out hd_.below)
      have HVa := Aside0.mk (And.intro HVa.out.1 (Kd.C_below HVa.out.2 hd_.below))
      have HVb := Aside0.mk (And.intro HVb.out.1 (Kd.C_below HVb.out.2 hd_.below))
      have HVc := Aside0.mk (And.intro HVc.out.1 (Kd.C_below HVc.out.2 hd_.below))
      have HB := Aside0.mk (below_step HB.out hd_.below)
      refine hK.out _ _ (M1.out.c2) (fun hHeld => ?_)
      clear hK K
      refine norm_ (a' := ?_) ?_ ?_
      rotate_left
      · show Act.put _ (some 90) _ = _
        simp only [Act.put, List.setIfInBounds_toArray, List.set_cons_zero, List.set_cons_succ, i64_w, i32_w]
        rfl
      refine pure_ (i := 12) (N := some 91) (v := ?_) (a' := ?_) #[true, true, true, true, true, true, true, true, true, true, true, true, true, false] rfl rfl (by kernel_rfl) (fun _ _ _ h => h) (Or.inl ⟨by rfl, ?_⟩) ?_ ?_
      rotate_left
      · intro w'
        go_simp
        with_reducible rfl
      rotate_left
      · simp only [Act.put, List.setIfInBounds_toArray, List.set_cons_zero, List.set_cons_succ, i64_w, i32_w]
        rfl
      refine pure_ (i := 13) (N := some 92) (v := ?_) (a' := ?_) #[true, true, true, true, true, true, true, true, true, true, true, true, true, true] rfl rfl (by kernel_rfl) (fun _ _ _ h => h) (Or.inl ⟨by rfl, ?_⟩) ?_ ?_
      rotate_left
      · intro w'
        go_simp
        with_reducible rfl
      rotate_left
      · simp only [Act.put, List.setIfInBounds_toArray, List.set_cons_zero, List.set_cons_succ, i64_w, i32_w]
        rfl
      refine done_ (by kernel_rfl) ?_
    all_goals
      go_upto_region 11 with (first
        | (go_at_call 29; (with_reducible refine (KR.out _).mono ?_); rintro e_ w2 ⟨rfl, hd_⟩; have M1 := Aside0.mk (Tri.below M1.out hd_.below); have HVa := Aside0.mk (And.intro HVa.out.1 (Kd.C_below HVa.out.2 hd_.below)); have HVb := Aside0.mk (And.intro HVb.out.1 (Kd.C_below HVb.out.2 hd_.below)); have HVc := Aside0.mk (And.intro HVc.out.1 (Kd.C_below HVc.out.2 hd_.below)); have HB := Aside0.mk (below_step HB.out hd_.below); clear hd_))
      rcases HE.out with ⟨hs1, hs2, hs3⟩ | ⟨hs1, hs2, hs3⟩
      case' inl => subst hs1; subst hs2; subst hs3
      case' inr => subst hs1; have HS31 := Aside0.mk (fun W hC => Sponge.visorref15_Sum.calls A2 c2 x2 R 31 n rb W hC HH.out.1 hs2); have HSN := Aside0.mk (fun W hC hC' hC2 => PSp.visorref15_Named.calls k6 b A0 c0 x0 A1 c1 x1 A2 c2 x2 n rc W hC HH.out.2.1 hC' HH.out.2.2 hC2 HH.out.1 hs3); clear hs2 hs3
      case' inl =>
        go_wp2_with (first
          | (go_at_call 37; go_loud ((with_reducible refine (KC.out _).mono ?_); rintro e_ w2 ⟨rfl, hd_⟩; have HB := Aside0.mk (below_step HB.out hd_.below); clear hd_))
          | (go_at_call 25; (with_reducible refine (AWK.out _ HB.out).mono ?_); rintro e w9 ⟨rfl, hb9⟩; have HB9 := Aside0.mk hb9; clear hb9))
        go_ret
        exact ⟨rfl, HB9.out⟩
      case' inr =>
        go_upto_region 15 with (first
          | (go_at_call 37; (with_reducible refine (KC.out _).mono ?_); rintro e_ w2 ⟨rfl, hd_⟩; have M1 := Aside0.mk (Tri.below M1.out hd_.below); have HVb := Aside0.mk (And.intro HVb.out.1 (Kd.C_below HVb.out.2 hd_.below)); have HVc := Aside0.mk (And.intro HVc.out.1 (Kd.C_below HVc.out.2 hd_.below)); have HB := Aside0.mk (below_step HB.out hd_.below); clear hd_))
        refine start_ (n := 25) (S := fun w' => w'.cell? ⟨w.heap.size, 0, none⟩ = some (.slice A0 x0.length c0) ∧ w'.cell? ⟨w.heap.size, 1, none⟩ = some (.slice A1 x1.length c1) ∧ w'.cell? ⟨w.heap.size, 2, none⟩ = some (.slice A2 x2.length c2)) (ds := []) #[false, false, false, false, false, false, false, false, false, false, false, false, false, false, false, false, false, false, false, false, false, false, false, false, false] (by kernel_rfl) rfl rfl ⟨(Tri.c0 (Tri.drew M1.out)), (Tri.c1 (Tri.drew M1.out)), (Tri.c2 (Tri.drew M1.out))⟩ (fun hHeld => ?_)
        refine pure_ (i := 0) (N := some 116) (v := ?_) (a' := ?_) #[true, false, false, false, false, false, false, false, false, false, false, false, false, false, false, false, false, false, false, false, false, false, false, false, false] rfl rfl (by kernel_rfl) (fun _ _ _ h => h) (Or.inl ⟨by rfl, ?_⟩) ?_ ?_
        rotate_left
        · intro w'
          go_simp
          with_reducible rfl
        rotate_left
        · simp only [Act.put, List.setIfInBounds_toArray, List.set_cons_zero, List.set_cons_succ, i64_w, i32_w]
          rfl
        refine pure_ (i := 1) (N := some 117) (v := ?_) (a' := ?_) #[true, true, false, false, false, false, false, false, false, false, false, false, false, false, false, false, false, false, false, false, false, false, false, false, false] rfl rfl (by kernel_rfl) (fun _ _ _ h => h) (Or.inl ⟨by rfl, ?_⟩) ?_ ?_
        rotate_left
        · intro w'
          go_simp
          with_reducible rfl
        rotate_left
        · simp only [Act.put, List.setIfInBounds_toArray, List.set_cons_zero, List.set_cons_succ, i64_w, i32_w]
          rfl
        refine pure_ (i := 3) (N := some 119) (v := ?_) (a' := ?_) #[true, true, false, true, false, false, false, false, false, false, false, false, false, false, false, false, false, false, false, false, false, false, false, false, false] rfl rfl (by kernel_rfl) (fun _ _ _ h => h) (Or.inl ⟨by rfl, ?_⟩) ?_ ?_
        rotate_left
        · intro w'
          go_simp
          with_reducible rfl
        rotate_left
        · simp only [Act.put, List.setIfInBounds_toArray, List.set_cons_zero, List.set_cons_succ, i64_w, i32_w]
          rfl
        refine pure_ (i := 5) (N := some 121) (v := ?_) (a' := ?_) #[true, true, false, true, false, true, false, false, false, false, false, false, false, false, false, false, false, false, false, false, false, false, false, false, false] rfl rfl (by kernel_rfl) (fun _ _ _ h => h) (Or.inl ⟨by rfl, ?_⟩) ?_ ?_
        rotate_left
        · intro w'
          go_simp
          with_reducible rfl
        rotate_left
        · simp only [Act.put, List.setIfInBounds_toArray, List.set_cons_zero, List.set_cons_succ, i64_w, i32_w]
          rfl
        refine take_ (i := 2) (N := some 118) (v := ?_) (a' := ?_) #[true, true, true, true, false, true, false, false, false, false, false, false, false, false, false, false, false, false, false, false, false, false, false, false, false] rfl rfl (by kernel_rfl) (fun _ _ _ h => h) (Or.inl ⟨by rfl, ?_⟩) hHeld ?_ ?_
        rotate_left
        · rintro w' ⟨s0, s1, s2⟩
          go_simp
          with_reducible rfl
        rotate_left
        · simp only [Act.put, List.setIfInBounds_toArray, List.set_cons_zero, List.set_cons_succ, i64_w, i32_w]
          rfl
        refine one_ (i := 4) (N := some 120) #[true, true, true, true, true, true, false, false, false, false, false, false, false, false, false, false, false, false, false, false, false, false, false, false, false] rfl rfl (by kernel_rfl) (by decide) (fun K hK => ?_)
        refine goes_ Try.func29 (by kernel_rfl) rfl #[.int .i64 b] (by rfl) rfl rfl (by simp only [List.map_toArray, List.map_cons, List.map_nil]; rfl) ?_
        with_reducible refine (KR.out _).mono ?_
        rintro e_ w3 ⟨rfl, hd_⟩
        refine ⟨_, rfl, ?_⟩
        have M1 := Aside0.mk (Tri.below (Tri.drew M1.out) hd_.below)
        have HVb := Aside0.mk (And.intro HVb.out.1 (Kd.C_below (Kd.C_drew HVb.out.2) hd_.below))
        have HVc := Aside0.mk (And.intro HVc.out.1 (Kd.C_below (Kd.C_drew HVc.out.2) hd_.below))
        have HB := Aside0.mk (below_step (below_drew HB.out) hd_.below)
        refine hK.out _ _ ⟨M1.out.c0, M1.out.c1, M1.out.c2⟩ (fun hHeld => ?_)
        clear hK K
        refine norm_ (a' := ?_) ?_ ?_
        rotate_left
        · show Act.put _ (some 120) _ = _
          simp only [Act.put, List.setIfInBounds_toArray, List.set_cons_zero, List.set_cons_succ, i64_w, i32_w]
          rfl
        refine one_ (i := 6) (N := some 122) #[true, true, true, true, true, true, true, false, false, false, false, false, false, false, false, false, false, false, false, false, false, false, false, false, false] rfl rfl (by kernel_rfl) (by decide) (fun K hK => ?_)
        refine goes_ Try.func33 (by kernel_rfl) rfl #[.slice A2 x2.length c2, .int .i64 R, .int .u8 31, .int .i64 n] (by rfl) rfl rfl (by simp only [List.map_toArray, List.map_cons, List.map_nil]; rfl) ?_
        with_reducible refine (HS31.out _ (Kd.C_below HC2.out HB.out)).mono ?_
        rintro e_ w4 ⟨v4, rfl, hv4, hb4⟩
        refine ⟨_, rfl, ?_⟩
        obtain ⟨As, cs, rfl, hls, hfs⟩ := Kd.R_reads hv4
        rw [HNB.out] at hls hfs ⊢
        have HVs := Aside0.mk (And.intro hls hfs)
        have M1 := Aside0.mk (Tri.below M1.out hb4)
        have HVb := Aside0.mk (And.intro HVb.out.1 (Kd.C_below HVb.out.2 hb4))
        have HVc := Aside0.mk (And.intro HVc.out.1 (Kd.C_below HVc.out.2 hb4))
        have HB := Aside0.mk (below_step HB.out hb4)
        refine hK.out _ _ ⟨M1.out.c0, M1.out.c1, M1.out.c2⟩ (fun hHeld => ?_)
        clear hK K
        refine norm_ (a' := ?_) ?_ ?_
        rotate_left
        · show Act.put _ (some 122) _ = _
          simp only [Act.put, List.setIfInBounds_toArray, List.set_cons_zero, List.set_cons_succ, i64_w, i32_w]
          rfl
        refine one_ (i := 7) (N := some 123) #[true, true, true, true, true, true, true, true, false, false, false, false, false, false, false, false, false, false, false, false, false, false, false, false, false] rfl rfl (by kernel_rfl) (by decide) (fun K hK => ?_)
        refine goes_ Try.func31 (by kernel_rfl) rfl #[.slice Ab nb cb, .slice As nb cs] (by rfl) rfl rfl (by simp only [List.map_toArray, List.map_cons, List.map_nil]; rfl) ?_
        with_reducible refine (SMB.out _ _ _ _ _ HVb.out.2 HVb.out.1 HVs.out.2 HVs.out.1).mono ?_
        rintro e_ w5 ⟨rfl, hd_⟩
        refine ⟨_, rfl, ?_⟩
        have M1 := Aside0.mk (Tri.below M1.out hd_.below)
        have HVb := Aside0.mk (And.intro HVb.out.1 (Kd.C_below HVb.out.2 hd_.below))
        have HVc := Aside0.mk (And.intro HVc.out.1 (Kd.C_below HVc.out.2 hd_.below))
        have HB := Aside0.mk (below_step HB.out hd_.below)
        refine hK.out _ _ ⟨M1.out.c0, M1.out.c1, M1.out.c2⟩ (fun hHeld => ?_)
        clear hK K
        refine norm_ (a' := ?_) ?_ ?_
        rotate_left
        · show Act.put _ (some 123) _ = _
          simp only [Act.put, List.setIfInBounds_toArray, List.set_cons_zero, List.set_cons_succ, i64_w, i32_w]
          rfl
        refine pure_ (i := 8) (N := some 124) (v := ?_) (a' := ?_) #[true, true, true, true, true, true, true, true, true, false, false, false, false, false, false, false, false, false, false, false, false, false, false, false, false] rfl rfl (by kernel_rfl) (fun _ _ _ h => h) (Or.inl ⟨by rfl, ?_⟩) ?_ ?_
        rotate_left
        · intro w'
          go_simp
          with_reducible rfl
        rotate_left
        · simp only [Act.put, List.setIfInBounds_toArray, List.set_cons_zero, List.set_cons_succ, i64_w, i32_w]
          rfl
        refine pure_ (i := 9) (N := some 125) (v := ?_) (a' := ?_) #[true, true, true, true, true, true, true, true, true, true, false, false, false, false, false, false, false, false, false, false, false, false, false, false, false] rfl rfl (by kernel_rfl) (fun _ _ _ h => h) (Or.inl ⟨by rfl, ?_⟩) ?_ ?_
        rotate_left
        · intro w'
          go_simp
          with_reducible rfl
        rotate_left
        · simp only [Act.put, List.setIfInBounds_toArray, List.set_cons_zero, List.set_cons_succ, i64_w, i32_w]
          rfl
        refine pure_ (i := 10) (N := some 126) (v := ?_) (a' := ?_) #[true, true, true, true, true, true, true, true, true, true, true, false, false, false, false, false, false, false, false, false, false, false, false, false, false] rfl rfl (by kernel_rfl) (fun _ _ _ h => h) (Or.inl ⟨by rfl, ?_⟩) ?_ ?_
        rotate_left
        · intro w'
          go_simp
          with_reducible rfl
        rotate_left
        · simp only [Act.put, List.setIfInBounds_toArray, List.set_cons_zero, List.set_cons_succ, i64_w, i32_w]
          rfl
        refine pure_ (i := 11) (N := some 127) (v := ?_) (a' := ?_) #[true, true, true, true, true, true, true, true, true, true, true, true, false, false, false, false, false, false, false, false, false, false, false, false, false] rfl rfl (by kernel_rfl) (fun _ _ _ h => h) (Or.inl ⟨by rfl, ?_⟩) ?_ ?_
        rotate_left
        · intro w'
          go_simp
          with_reducible rfl
        rotate_left
        · simp only [Act.put, List.setIfInBounds_toArray, List.set_cons_zero, List.set_cons_succ, i64_w, i32_w]
          rfl
        refine pure_ (i := 13) (N := some 129) (v := ?_) (a' := ?_) #[true, true, true, true, true, true, true, true, true, true, true, true, false, true, false, false, false, false, false, false, false, false, false, false, false] rfl rfl (by kernel_rfl) (fun _ _ _ h => h) (Or.inl ⟨by rfl, ?_⟩) ?_ ?_
        rotate_left
        · intro w'
          go_simp
          with_reducible rfl
        rotate_left
        · simp only [Act.put, List.setIfInBounds_toArray, List.set_cons_zero, List.set_cons_succ, i64_w, i32_w]
          rfl
        refine pure_ (i := 15) (N := some 131) (v := ?_) (a' := ?_) #[true, true, true, true, true, true, true, true, true, true, true, true, false, true, false, true, false, false, false, false, false, false, false, false, false] rfl rfl (by kernel_rfl) (fun _ _ _ h => h) (Or.inl ⟨by rfl, ?_⟩) ?_ ?_
        rotate_left
        · intro w'
          go_simp
          with_reducible rfl
        rotate_left
        · simp only [Act.put, List.setIfInBounds_toArray, List.set_cons_zero, List.set_cons_succ, i64_w, i32_w]
          rfl
        refine pure_ (i := 17) (N := some 133) (v := ?_) (a' := ?_) #[true, true, true, true, true, true, true, true, true, true, true, true, false, true, false, true, false, true, false, false, false, false, false, false, false] rfl rfl (by kernel_rfl) (fun _ _ _ h => h) (Or.inl ⟨by rfl, ?_⟩) ?_ ?_
        rotate_left
        · intro w'
          go_simp
          with_reducible rfl
        rotate_left
        · simp only [Act.put, List.setIfInBounds_toArray, List.set_cons_zero, List.set_cons_succ, i64_w, i32_w]
          rfl
        refine take_ (i := 12) (N := some 128) (v := ?_) (a' := ?_) #[true, true, true, true, true, true, true, true, true, true, true, true, true, true, false, true, false, true, false, false, false, false, false, false, false] rfl rfl (by kernel_rfl) (fun _ _ _ h => h) (Or.inl ⟨by rfl, ?_⟩) hHeld ?_ ?_
        rotate_left
        · rintro w' ⟨s0, s1, s2⟩
          go_simp
          with_reducible rfl
        rotate_left
        · simp only [Act.put, List.setIfInBounds_toArray, List.set_cons_zero, List.set_cons_succ, i64_w, i32_w]
          rfl
        refine take_ (i := 14) (N := some 130) (v := ?_) (a' := ?_) #[true, true, true, true, true, true, true, true, true, true, true, true, true, true, true, true, false, true, false, false, false, false, false, false, false] rfl rfl (by kernel_rfl) (fun _ _ _ h => h) (Or.inl ⟨by rfl, ?_⟩) hHeld ?_ ?_
        rotate_left
        · rintro w' ⟨s0, s1, s2⟩
          go_simp
          with_reducible rfl
        rotate_left
        · simp only [Act.put, List.setIfInBounds_toArray, List.set_cons_zero, List.set_cons_succ, i64_w, i32_w]
          rfl
        refine take_ (i := 16) (N := some 132) (v := ?_) (a' := ?_) #[true, true, true, true, true, true, true, true, true, true, true, true, true, true, true, true, true, true, false, false, false, false, false, false, false] rfl rfl (by kernel_rfl) (fun _ _ _ h => h) (Or.inl ⟨by rfl, ?_⟩) hHeld ?_ ?_
        rotate_left
        · rintro w' ⟨s0, s1, s2⟩
          go_simp
          with_reducible rfl
        rotate_left
        · simp only [Act.put, List.setIfInBounds_toArray, List.set_cons_zero, List.set_cons_succ, i64_w, i32_w]
          rfl
        refine one_ (i := 18) (N := some 134) #[true, true, true, true, true, true, true, true, true, true, true, true, true, true, true, true, true, true, true, false, false, false, false, false, false] rfl rfl (by kernel_rfl) (by decide) (fun K hK => ?_)
        refine goes_ Try.func38 (by kernel_rfl) rfl #[.int .i64 b, .slice A0 x0.length c0, .slice A1 x1.length c1, .slice A2 x2.length c2, .int .i64 n] (by rfl) rfl rfl (by simp only [List.map_toArray, List.map_cons, List.map_nil]; rfl) ?_
        with_reducible refine (HSN.out _ (Kd.C_below HC0.out HB.out) (Kd.C_below HC1.out HB.out) (Kd.C_below HC2.out HB.out)).mono ?_
        rintro e_ w6 ⟨v6, rfl, hv6, hb6⟩
        refine ⟨_, rfl, ?_⟩
        obtain ⟨At, ct, rfl, hlt_, hft⟩ := Kd.R_reads hv6
        rw [HNC.out] at hlt_ hft ⊢
        have HVt := Aside0.mk (And.intro hlt_ hft)
        have M1 := Aside0.mk (Tri.below M1.out hb6)
        have HVb := Aside0.mk (And.intro HVb.out.1 (Kd.C_below HVb.out.2 hb6))
        have HVc := Aside0.mk (And.intro HVc.out.1 (Kd.C_below HVc.out.2 hb6))
        have HB := Aside0.mk (below_step HB.out hb6)
        refine hK.out _ _ ⟨M1.out.c0, M1.out.c1, M1.out.c2⟩ (fun hHeld => ?_)
        clear hK K
        refine norm_ (a' := ?_) ?_ ?_
        rotate_left
        · show Act.put _ (some 134) _ = _
          simp only [Act.put, List.setIfInBounds_toArray, List.set_cons_zero, List.set_cons_succ, i64_w, i32_w]
          rfl
        refine one_ (i := 19) (N := some 135) #[true, true, true, true, true, true, true, true, true, true, true, true, true, true, true, true, true, true, true, true, false, false, false, false, false] rfl rfl (by kernel_rfl) (by decide) (fun K hK => ?_)
        refine goes_ Try.func31 (by kernel_rfl) rfl #[.slice Ac nc cc, .slice At nc ct] (by rfl) rfl rfl (by simp only [List.map_toArray, List.map_cons, List.map_nil]; rfl) ?_
        with_reducible refine (SMC.out _ _ _ _ _ HVc.out.2 HVc.out.1 HVt.out.2 HVt.out.1).mono ?_
        rintro e_ w7 ⟨rfl, hd_⟩
        refine ⟨_, rfl, ?_⟩
        have M1 := Aside0.mk (Tri.below M1.out hd_.below)
        have HVb := Aside0.mk (And.intro HVb.out.1 (Kd.C_below HVb.out.2 hd_.below))
        have HVc := Aside0.mk (And.intro HVc.out.1 (Kd.C_below HVc.out.2 hd_.below))
        have HB := Aside0.mk (below_step HB.out hd_.below)
        refine hK.out _ _ ⟨M1.out.c0, M1.out.c1, M1.out.c2⟩ (fun hHeld => ?_)
        clear hK K
        refine norm_ (a' := ?_) ?_ ?_
        rotate_left
        · show Act.put _ (some 135) _ = _
          simp only [Act.put, List.setIfInBounds_toArray, List.set_cons_zero, List.set_cons_succ, i64_w, i32_w]
          rfl
        refine pure_ (i := 20) (N := some 136) (v := ?_) (a' := ?_) #[true, true, true, true, true, true, true, true, true, true, true, true, true, true, true, true, true, true, true, true, true, false, false, false, false] rfl rfl (by kernel_rfl) (fun _ _ _ h => h) (Or.inl ⟨by rfl, ?_⟩) ?_ ?_
        rotate_left
        · intro w'
          go_simp
          with_reducible rfl
        rotate_left
        · simp only [Act.put, List.setIfInBounds_toArray, List.set_cons_zero, List.set_cons_succ, i64_w, i32_w]
          rfl
        refine pure_ (i := 21) (N := some 137) (v := ?_) (a' := ?_) #[true, true, true, true, true, true, true, true, true, true, true, true, true, true, true, true, true, true, true, true, true, true, false, false, false] rfl rfl (by kernel_rfl) (fun _ _ _ h => h) (Or.inl ⟨by rfl, ?_⟩) ?_ ?_
        rotate_left
        · intro w'
          go_simp
          with_reducible rfl
        rotate_left
        · simp only [Act.put, List.setIfInBounds_toArray, List.set_cons_zero, List.set_cons_succ, i64_w, i32_w]
          rfl
        refine one_ (i := 22) (N := some 138) #[true, true, true, true, true, true, true, true, true, true, true, true, true, true, true, true, true, true, true, true, true, true, true, false, false] rfl rfl (by kernel_rfl) (by decide) (fun K hK => ?_)
        refine goes_ Try.func25 (by kernel_rfl) rfl #[] (by rfl) rfl rfl (by simp only [List.map_toArray, List.map_cons, List.map_nil]) ?_
        with_reducible refine (awake_c _).mono ?_
        rintro e_ w9 ⟨rfl, hb9⟩
        refine ⟨_, rfl, ?_⟩
        have M1 := Aside0.mk (Tri.below M1.out hb9)
        have HVb := Aside0.mk (And.intro HVb.out.1 (Kd.C_below HVb.out.2 hb9))
        have HVc := Aside0.mk (And.intro HVc.out.1 (Kd.C_below HVc.out.2 hb9))
        have HB := Aside0.mk (below_step HB.out hb9)
        have HB9 := HB
        refine hK.out _ _ ⟨M1.out.c0, M1.out.c1, M1.out.c2⟩ (fun hHeld => ?_)
        clear hK K
        refine norm_ (a' := ?_) ?_ ?_
        rotate_left
        · show Act.put _ (some 138) _ = _
          simp only [Act.put, List.setIfInBounds_toArray, List.set_cons_zero, List.set_cons_succ, i64_w, i32_w]
          rfl
        refine pure_ (i := 23) (N := some 139) (v := ?_) (a' := ?_) #[true, true, true, true, true, true, true, true, true, true, true, true, true, true, true, true, true, true, true, true, true, true, true, true, false] rfl rfl (by kernel_rfl) (fun _ _ _ h => h) (Or.inl ⟨by rfl, ?_⟩) ?_ ?_
        rotate_left
        · intro w'
          go_simp
          with_reducible rfl
        rotate_left
        · simp only [Act.put, List.setIfInBounds_toArray, List.set_cons_zero, List.set_cons_succ, i64_w, i32_w]
          rfl
        refine pure_ (i := 24) (N := some 6) (v := ?_) (a' := ?_) #[true, true, true, true, true, true, true, true, true, true, true, true, true, true, true, true, true, true, true, true, true, true, true, true, true] rfl rfl (by kernel_rfl) (fun _ _ _ h => h) (Or.inl ⟨by rfl, ?_⟩) ?_ ?_
        rotate_left
        · intro w'
          go_simp
          with_reducible rfl
        rotate_left
        · simp only [Act.put, List.setIfInBounds_toArray, List.set_cons_zero, List.set_cons_succ, i64_w, i32_w]
          rfl
        refine done_ (by kernel_rfl) ?_
        go_wp2
        go_ret
        exact ⟨rfl, HB9.out⟩
end Go.Proofs.Ythijjpiddelefaa.SpHash
namespace Go.Proofs.Ythijjpiddelefaa.SpHash
open Go Go.RowKit Go.Proofs.Ythijjpiddelefaa Go.Proofs.Ythijjpiddelefaa.PSp Go.Proofs.YthijjpiddelefaaW.PrintWords Go.Proofs.YthijjpiddelefaaW.PrintLast CodeMath SpMath CodeSp Concat SpSum Sponge Go.Proofs.Ythijjpiddelefaa.Pure SpGrow SpNamed
set_option linter.unusedVariables false
theorem sha3_no (b : Int) (x2 : List Int) (R : Int) (e1 : PKec.sponge_Rate.f b = some R) (h : R = 0 ∨ b = 128) : sponge_Sha3.f 1 b x2 = some ([], 1) := by
  unfold sponge_Sha3.f
  rw [e1, Option.bind_some]
  by_cases hR : R = 0
  · rw [if_pos hR]; rfl
  · rw [if_neg hR]
    rcases h with h | h
    · exact absurd h hR
    · rw [h]; rfl
theorem sha3_yes (b : Int) (x2 : List Int) (R n8 : Nat) (hm : x2.length ≤ 1000000000) (bm : IsB x2) (e1 : PKec.sponge_Rate.f b = some (R : Int)) (h0 : R ≠ 0) (hb : b ≠ 128) (hR : Rateds (R : Int)) (h8 : wrap64 (Int.tdiv b 8) = (n8 : Int)) (hn : n8 ≤ 65536) : sponge_Sha3.f 1 b x2 = some (sumL x2 R 6 n8, 0) ∧ Sponge.visorref15_Sum.f x2 R 6 (wrap64 (Int.tdiv b 8)) = some (sumL x2 R 6 n8) := by
  have hs := sum_eq x2 (R : Int) 6 (n8 : Int) hR hm bm (by decide) (by omega)
  have hr := rsum_eq x2 (R : Int) 6 (n8 : Int) hR hm bm (by decide) (by omega)
  rw [Int.toNat_natCast, Int.toNat_natCast] at hs hr
  refine ⟨?_, by rw [h8]; exact hr⟩
  unfold sponge_Sha3.f
  rw [e1, Option.bind_some, if_neg (by omega), show (b == 128) = false by rw [beq_eq_false_iff_ne]; exact hb]
  simp only [sponge_Sha3.j0]
  rw [if_neg (by decide), e1, Option.bind_some, h8, hs]
  rfl
theorem rate_none (b : Int) (h1 : b ≠ 128) (h2 : b ≠ 224) (h3 : b ≠ 256) (h4 : b ≠ 384) (h5 : b ≠ 512) : PKec.sponge_Rate.f b = some 0 := by
  unfold PKec.sponge_Rate.f
  rw [if_neg h1, if_neg h2, if_neg h3, if_neg h4, if_neg h5]
theorem sha3_case (b : Int) (x2 : List Int) (hm : x2.length ≤ 1000000000) (bm : IsB x2) : ∃ (R d : Int) (ra : List Int), sponge_Sha3.f 1 b x2 = some (ra, d) ∧ PKec.visorref15_Rate.f b = some R ∧ Rcase R b d (wrap64 (Int.tdiv b 8)) x2 ra ra.length := by
  have key : ∀ (R n8 : Nat), b ≠ 128 → PKec.sponge_Rate.f b = some (R : Int) → R ≠ 0 → Rateds (R : Int) → wrap64 (Int.tdiv b 8) = (n8 : Int) → n8 ≤ 65536 → ∃ (R d : Int) (ra : List Int), sponge_Sha3.f 1 b x2 = some (ra, d) ∧ PKec.visorref15_Rate.f b = some R ∧ Rcase R b d (wrap64 (Int.tdiv b 8)) x2 ra ra.length := by
    intro R n8 hb e1 h0 hR h8 hn
    obtain ⟨h1, h2⟩ := sha3_yes b x2 R n8 hm bm e1 h0 hb hR h8 hn
    exact ⟨R, 0, _, h1, (rrate_eq b).trans e1, .inr (.inr ⟨by omega, hb, rfl, h2⟩)⟩
  by_cases h1 : b = 128
  · have e1 : PKec.sponge_Rate.f b = some 168 := by rw [h1]; decide +kernel
    exact ⟨168, 1, [], sha3_no b x2 168 e1 (.inr h1), (rrate_eq b).trans e1, .inr (.inl ⟨by decide, h1, rfl, rfl⟩)⟩
  by_cases h2 : b = 224
  · exact key 144 28 h1 (by rw [h2]; decide +kernel) (by decide) (by decide) (by rw [h2]; decide +kernel) (by decide)
  by_cases h3 : b = 256
  · exact key 136 32 h1 (by rw [h3]; decide +kernel) (by decide) (by decide) (by rw [h3]; decide +kernel) (by decide)
  by_cases h4 : b = 384
  · exact key 104 48 h1 (by rw [h4]; decide +kernel) (by decide) (by decide) (by rw [h4]; decide +kernel) (by decide)
  by_cases h5 : b = 512
  · exact key 72 64 h1 (by rw [h5]; decide +kernel) (by decide) (by decide) (by rw [h5]; decide +kernel) (by decide)
  have e1 := rate_none b h1 h2 h3 h4 h5
  exact ⟨0, 1, [], sha3_no b x2 0 e1 (.inl rfl), (rrate_eq b).trans e1, .inl ⟨rfl, rfl, rfl⟩⟩
theorem check_yes {b n : Int} (hb : Bits b) (hn : 0 ≤ n ∧ n ≤ 65536) : visorref15_Check.f b n = some 0 := by
  unfold visorref15_Check.f
  rcases hb with h | h <;> subst h
  · rw [if_pos rfl, if_neg (by omega), if_neg (by omega)]
  · rw [if_neg (by decide), if_pos rfl, if_neg (by omega), if_neg (by omega)]
theorem check_no {b n : Int} (h : ¬ (Bits b ∧ 0 ≤ n ∧ n ≤ 65536)) : visorref15_Check.f b n = some 1 := by
  unfold Bits at h
  unfold visorref15_Check.f
  (repeat' split) <;> first | rfl | (exfalso; omega)
theorem named_case (b n : Int) (x0 x1 x2 : List Int) (h0 : x0.length ≤ 1000000) (h1 : x1.length ≤ 1000000) (hm : x2.length ≤ 500000000) (b0 : IsB x0) (b1 : IsB x1) (bm : IsB x2) (R : Int) (eR : PKec.visorref15_Rate.f b = some R) : ∃ (e : Int) (rb rc : List Int) (k5 k6 : Nat), sponge_Shake.f b x2 n = some (rb, e) ∧ sponge_Named.f k5 b x0 x1 x2 n = some (rc, e) ∧ visorref15_Check.f b n = some e ∧ Ecase R b n e k6 x0 x1 x2 rb rc rb.length rc.length := by
  by_cases hb : Bits b
  · by_cases hn : 0 ≤ n ∧ n ≤ 65536
    · obtain ⟨k5, e5⟩ := named_ev hb h0 h1 hm b0 b1 bm n hn
      obtain ⟨k6, e6⟩ := rnamed_ev hb h0 h1 hm b0 b1 bm n hn
      have hR : R = (rateN b : Int) := by
        have := (rrate_eq b).trans (rate_bits hb)
        rw [this] at eR
        exact (Option.some.inj eR).symm
      have hr := rsum_eq x2 (rateN b : Int) 31 n (rateN_ok b) (by omega) bm (by decide) hn
      rw [Int.toNat_natCast] at hr
      exact ⟨0, _, _, k5, k6, shake_ok hb x2 n (by omega) bm hn, e5 k5 (Nat.le_refl _), check_yes hb hn, .inr ⟨rfl, by rw [hR]; exact hr, e6 k6 (Nat.le_refl _)⟩⟩
    · obtain ⟨k5, e5⟩ := named_big hb h0 h1 hm b0 b1 bm n hn
      exact ⟨1, [], [], k5, 0, shake_big hb x2 n (by omega) bm hn, e5 k5 (Nat.le_refl _), check_no (fun h => hn h.2), .inl ⟨rfl, rfl, rfl⟩⟩
  · obtain ⟨k5, e5⟩ := named_not (m := x2) hb h0 h1 n
    exact ⟨1, [], [], k5, 0, shake_not hb x2 n, e5 k5 (Nat.le_refl _), check_no (fun h => hb h.1), .inl ⟨rfl, rfl, rfl⟩⟩
theorem hash_all (A0 A1 A2 : Option Addr) (c0 c1 c2 : Nat) (x0 x1 x2 : List Int) (b n : Int) (w : World)
    (hC0 : Kd.C (Kd.int .u8) w A0 x0.length x0) (hC1 : Kd.C (Kd.int .u8) w A1 x1.length x1) (hC2 : Kd.C (Kd.int .u8) w A2 x2.length x2) (hc0 : x0.length ≤ c0) (hc1 : x1.length ≤ c1) (hc2 : x2.length ≤ c2) (b0 : IsB x0) (b1 : IsB x1) (b2 : IsB x2) :
    Calls Try.prog 8 #[.int .i64 b, .int .i64 n, .agg #[.slice A0 x0.length c0, .slice A1 x1.length c1, .slice A2 x2.length c2]] w fun e w' => e = .returned (.bool true) ∧ Below w.heap.size w w' := by
  by_cases hbig : (500 : Int) < (x0.length : Int) ∨ (500 : Int) < (x1.length : Int) ∨ (500 : Int) < (x2.length : Int) ∨ (1000 < n ∧ n ≤ 65536)
  · exact hash_big A0 A1 A2 _ _ _ c0 c1 c2 b n w hbig
  · obtain ⟨R, d, ra, e3, eR, hR⟩ := sha3_case b x2 (by omega) b2
    obtain ⟨e, rb, rc, k5, k6, e4, e5, eC, hE⟩ := named_case b n x0 x1 x2 (by omega) (by omega) (by omega) b0 b1 b2 R eR
    exact hash_walk A0 A1 A2 c0 c1 c2 x0 x1 x2 b n R d e _ 1 k5 k6 ra rb rc _ _ _ w hC0 hC1 hC2 hc0 hc1 hc2 (fun h => hbig (.inl h)) (fun h => hbig (.inr (.inl h))) (fun h => hbig (.inr (.inr (.inl h)))) (fun h => hbig (.inr (.inr (.inr h)))) rfl rfl rfl e3 e4 e5 eR eC rfl hR hE
theorem row_C {w : World} {a : Option Addr} {len cap : Nat} {z : List Int} (h : Slices.IsRow .u8 w a len cap z) : ∃ x : List Int, x.length = len ∧ Kd.C (Kd.int .u8) w a x.length x ∧ x.length ≤ cap ∧ IsB x := by
  obtain ⟨hsl, hlen, hwf⟩ := h.sl
  obtain ⟨A, c, hv, hc, hC⟩ := hsl
  injection hv with e1 e2 e3
  subst e1
  subst e3
  exact ⟨z.take len, hlen, hC, hc, IsB.of_wf hwf⟩
theorem hash_row (b n : Int) (v : Value) (w : World) (w0 : (Lit.int .i64 b).wf = true) (w1 : (Lit.int .i64 n).wf = true) (w2 : Arr3.IsArr3 .u8 w v) :
    Calls Try.prog 8 #[.int .i64 b, .int .i64 n, v] w fun e w' => e = .returned (.bool true) ∧ Below w.heap.size w w' := by
  obtain ⟨a0, l0, c0, z0, a1, l1, c1, z1, a2, l2, c2, z2, rfl, h0, h1, h2⟩ := w2
  obtain ⟨x0, rfl, hC0, hc0, b0⟩ := row_C h0
  obtain ⟨x1, rfl, hC1, hc1, b1⟩ := row_C h1
  obtain ⟨x2, rfl, hC2, hc2, b2⟩ := row_C h2
  exact hash_all a0 a1 a2 c0 c1 c2 x0 x1 x2 b n w hC0 hC1 hC2 hc0 hc1 hc2 b0 b1 b2
end Go.Proofs.Ythijjpiddelefaa.SpHash
