/-
  Tallies of traces that are the same, in plain. No condition.
-/
import Derived.Test.YtphdlidaigalkaaTrMath
namespace Go.Proofs.Ytphdlidaigalkaa.CntMath
open Go.RowKit Go.Proofs.Ytphdlidaigalkaa.PTt Go.Proofs.YtphdlidaigalkaaW.PrintWords Go.Proofs.YtphdlidaigalkaaW.PrintLast Go.Proofs.YtphdlidaigalkaaW.PrintMore Gives Byte RightT Mem Arr TallyT SameT TrMath
set_option linter.unusedVariables false
/-! ### sums -/
theorem sum_set (x : Int) : ∀ (c : List Int) (k : Nat), k < c.length → (c.set k x).sum = c.sum + (x - c.getD k 0)
  | [], k, h => by simp at h
  | y :: c, 0, h => by simp; omega
  | y :: c, k + 1, h => by
    have := sum_set x c k (by simpa using h)
    simp only [List.set_cons_succ, List.sum_cons, List.getD_cons_succ, this]
    omega
theorem sum_nonneg : ∀ (c : List Int), (∀ x ∈ c, 0 ≤ x) → 0 ≤ c.sum
  | [], _ => by simp
  | y :: c, h => by
    have h1 := sum_nonneg c (fun x hx => h x (by simp [hx]))
    have h2 := h y (by simp)
    simp only [List.sum_cons]; omega
theorem getD_le_sum : ∀ (c : List Int) (k : Nat), (∀ x ∈ c, 0 ≤ x) → 0 ≤ c.getD k 0 ∧ c.getD k 0 ≤ c.sum
  | [], k, h => by simp
  | y :: c, 0, h => by
    have h1 := sum_nonneg c (fun x hx => h x (by simp [hx]))
    have h2 := h y (by simp)
    simp only [List.getD_cons_zero, List.sum_cons]; omega
  | y :: c, k + 1, h => by
    have h1 := getD_le_sum c k (fun x hx => h x (by simp [hx]))
    have h2 := h y (by simp)
    simp only [List.getD_cons_succ, List.sum_cons]; omega
theorem tally_sum (l : List S53) (hL : l.length ≤ 8796093022208) : ∀ j, j ≤ l.length → (∀ x ∈ tallyN l j, 0 ≤ x) ∧ (tallyN l j).sum = (j : Int)
  | 0, _ => ⟨fun x hx => by have : x = 0 := (List.mem_replicate.1 hx).2; omega, show z13.sum = 0 by decide⟩
  | j + 1, h => by
    obtain ⟨h1, h2⟩ := tally_sum l hL j (by omega)
    have hk := kindN_lt (rd_T53 l (j : Int)).f0
    have hg := getD_le_sum (tallyN l j) (kindN (rd_T53 l (j : Int)).f0) h1
    have hw : wrap64 ((tallyN l j).getD (kindN (rd_T53 l (j : Int)).f0) 0 + 1) = (tallyN l j).getD (kindN (rd_T53 l (j : Int)).f0) 0 + 1 := w64 (by omega) (by omega)
    rw [tallyN]
    unfold bump
    rw [hw]
    refine ⟨fun x hx => ?_, ?_⟩
    · rcases List.mem_or_eq_of_mem_set hx with h' | h'
      · exact h1 x h'
      · omega
    · rw [sum_set _ _ _ (by rw [tallyN_length]; exact hk)]; omega
/-- The sum, place by place, as it is reckoned. -/
def sumW (t : List Int) : Nat → Int
  | 0 => 0
  | i + 1 => wrap64 (sumW t i + t.getD i 0)
theorem take_sum (c : List Int) (i : Nat) : (c.take (i + 1)).sum = (c.take i).sum + c.getD i 0 := by
  rw [List.take_add_one, List.sum_append, List.getD_eq_getElem?_getD]
  cases c[i]? <;> simp
theorem take_le (c : List Int) (h : ∀ x ∈ c, 0 ≤ x) (i : Nat) : 0 ≤ (c.take i).sum ∧ (c.take i).sum ≤ c.sum := by
  have h1 := sum_nonneg (c.take i) (fun x hx => h x (List.mem_of_mem_take hx))
  have h2 := sum_nonneg (c.drop i) (fun x hx => h x (List.mem_of_mem_drop hx))
  have h3 : (c.take i).sum + (c.drop i).sum = c.sum := by rw [← List.sum_append, List.take_append_drop]
  omega
theorem sumW_eq (c : List Int) (h : ∀ x ∈ c, 0 ≤ x) (hs : c.sum ≤ 8796093022208) : ∀ i, sumW c i = (c.take i).sum
  | 0 => by simp [sumW]
  | i + 1 => by
    have h1 := take_le c h (i + 1)
    rw [sumW, sumW_eq c h hs i, take_sum]
    rw [take_sum] at h1
    exact w64 (by omega) (by omega)
theorem sum_tally (l : List S53) (hL : l.length ≤ 8796093022208) : sumW (tallyL l) 13 = (l.length : Int) := by
  obtain ⟨h1, h2⟩ := tally_sum l hL l.length (Nat.le_refl _)
  have h3 : (tallyL l).sum = (l.length : Int) := h2
  rw [sumW_eq (tallyL l) h1 (by omega) 13, List.take_of_length_le (by rw [show (tallyL l).length = 13 from tallyN_length l _]; exact Nat.le_refl _), h3]
/-! ### being the same -/
theorem beq_symm (x y : Int) : (x == y) = (y == x) := by rw [Bool.eq_iff_iff]; simp; exact eq_comm
theorem like_symm (x y : S53) : likeB x y = likeB y x := by
  unfold likeB
  by_cases h : x.f0 = y.f0
  · rw [← h, beq_symm x.f1, beq_symm x.f2, beq_symm x.f3, beq_symm x.f4, beq_symm x.f5]
  · have h1 : (x.f0 == y.f0) = false := by simp [h]
    have h2 : (y.f0 == x.f0) = false := by simp; omega
    rw [h1, h2]
    simp
theorem like_refl (x : S53) : likeB x x = true := by unfold likeB; split <;> simp
theorem span_symm (x y : S38) : spanB x y = spanB y x := by unfold spanB; rw [beq_symm x.f0, beq_symm x.f1, beq_symm x.f2]
theorem span_refl (x : S38) : spanB x x = true := by simp [spanB]
theorem allF_symm (l1 l2 : List S53) : ∀ k j, allF l1 l2 k j = allF l2 l1 k j
  | 0, j => rfl
  | k + 1, j => by rw [allF, allF, like_symm, allF_symm l1 l2 k]
theorem allF_refl (l1 : List S53) : ∀ k j, allF l1 l1 k j = true
  | 0, j => rfl
  | k + 1, j => by rw [allF, like_refl, allF_refl l1 k]; rfl
theorem allS_symm (l1 l2 : List S38) : ∀ k j, allS l1 l2 k j = allS l2 l1 k j
  | 0, j => rfl
  | k + 1, j => by rw [allS, allS, span_symm, allS_symm l1 l2 k]
theorem allS_refl (l1 : List S38) : ∀ k j, allS l1 l1 k j = true
  | 0, j => rfl
  | k + 1, j => by rw [allS, span_refl, allS_refl l1 k]; rfl
theorem eqf_symm (l1 l2 : List S53) : eqfB l1 l2 = eqfB l2 l1 := by
  unfold eqfB
  by_cases h : l1.length = l2.length
  · rw [h, allF_symm]
  · rw [decide_eq_false h, decide_eq_false (fun e => h e.symm)]; rfl
theorem spans_symm (l1 l2 : List S38) : spansB l1 l2 = spansB l2 l1 := by
  unfold spansB
  by_cases h : l1.length = l2.length
  · rw [h, allS_symm]
  · rw [decide_eq_false h, decide_eq_false (fun e => h e.symm)]; rfl
theorem same_symm (n1 : Int) (l1 : List S53) (s1 : List S38) (n2 : Int) (l2 : List S53) (s2 : List S38) : sameB n1 l1 s1 n2 l2 s2 = sameB n2 l2 s2 n1 l1 s1 := by
  unfold sameB
  rw [beq_symm, eqf_symm, spans_symm]
theorem same_refl (n1 : Int) (l1 : List S53) (s1 : List S38) : sameB n1 l1 s1 n1 l1 s1 = true := by
  unfold sameB eqfB spansB
  rw [allF_refl, allS_refl]; simp
theorem allF_get (l1 l2 : List S53) : ∀ k j, allF l1 l2 k j = true → ∀ i, j ≤ i → i < j + k → likeB (rd_T53 l1 (i : Int)) (rd_T53 l2 (i : Int)) = true
  | 0, j, h, i, h1, h2 => by omega
  | k + 1, j, h, i, h1, h2 => by
    rw [allF, Bool.and_eq_true] at h
    by_cases hi : i = j
    · rw [hi]; exact h.1
    · exact allF_get l1 l2 k (j + 1) h.2 i (by omega) (by omega)
theorem allS_get (l1 l2 : List S38) : ∀ k j, allS l1 l2 k j = true → ∀ i, j ≤ i → i < j + k → spanB (rd_T38 l1 (i : Int)) (rd_T38 l2 (i : Int)) = true
  | 0, j, h, i, h1, h2 => by omega
  | k + 1, j, h, i, h1, h2 => by
    rw [allS, Bool.and_eq_true] at h
    by_cases hi : i = j
    · rw [hi]; exact h.1
    · exact allS_get l1 l2 k (j + 1) h.2 i (by omega) (by omega)
theorem like_f0 {x y : S53} (h : likeB x y = true) : x.f0 = y.f0 ∧ x.f1 = y.f1 ∧ x.f2 = y.f2 ∧ x.f3 = y.f3 ∧ x.f4 = y.f4 ∧ (x.f0 ≠ 4 → x.f5 = y.f5) := by
  unfold likeB at h
  split at h
  · rename_i h4
    simp only [Bool.and_eq_true, beq_iff_eq] at h
    exact ⟨h.1, h.2.1, h.2.2.1, h.2.2.2.1, h.2.2.2.2, fun h' => absurd h4 h'⟩
  · simp only [Bool.and_eq_true, beq_iff_eq] at h
    exact ⟨h.1, h.2.1, h.2.2.1, h.2.2.2.1, h.2.2.2.2.1, fun _ => h.2.2.2.2.2⟩
theorem tallyN_same (l1 l2 : List S53) (n : Nat) (h : ∀ i, i < n → likeB (rd_T53 l1 (i : Int)) (rd_T53 l2 (i : Int)) = true) : ∀ j, j ≤ n → tallyN l1 j = tallyN l2 j
  | 0, _ => rfl
  | j + 1, hj => by rw [tallyN, tallyN, tallyN_same l1 l2 n h j (by omega), (like_f0 (h j (by omega))).1]
theorem okOp_same (n : Int) (l1 l2 : List S53) (j : Nat) (h : likeB (rd_T53 l1 (j : Int)) (rd_T53 l2 (j : Int)) = true) : okOp n l1 j = okOp n l2 j := by
  obtain ⟨h0, h1, h2, h3, h4, h5⟩ := like_f0 h
  unfold okOp
  by_cases hk : (rd_T53 l1 (j : Int)).f0 = 4
  · have e : ∀ c c', constB 4 c = constB 4 c' := fun c c' => rfl
    unfold rightB
    rw [← h0, ← h1, ← h2, ← h3, ← h4, hk, e]
  · rw [← h0, ← h1, ← h2, ← h3, ← h4, ← h5 hk]
theorem opsF_same (n : Int) (l1 l2 : List S53) (m : Nat) (h : ∀ i, i < m → likeB (rd_T53 l1 (i : Int)) (rd_T53 l2 (i : Int)) = true) : ∀ k j word, j + k ≤ m → opsF n l1 k j word = opsF n l2 k j word
  | 0, j, word, _ => rfl
  | k + 1, j, word, hj => by
    have hl := h j (by omega)
    obtain ⟨h0, _, _, _, _, h5⟩ := like_f0 hl
    rw [opsF, opsF, okOp_same n l1 l2 j hl, ← h0]
    by_cases h2 : (rd_T53 l1 (j : Int)).f0 = 2
    · rw [if_pos h2, if_pos h2, ← h5 (by omega), opsF_same n l1 l2 m h k (j + 1) _ (by omega)]
    · rw [if_neg h2, if_neg h2, opsF_same n l1 l2 m h k (j + 1) _ (by omega)]
theorem ordF_same (n : Nat) (l1 l2 : List S38) (m : Nat) (h : ∀ i, i < m → spanB (rd_T38 l1 (i : Int)) (rd_T38 l2 (i : Int)) = true) : ∀ k j last, j + k ≤ m → ordF n l1 k j last = ordF n l2 k j last
  | 0, j, last, _ => rfl
  | k + 1, j, last, hj => by
    have hl := h j (by omega)
    unfold spanB at hl
    simp only [Bool.and_eq_true, beq_iff_eq] at hl
    have e : spanOk (rd_T38 l1 (j : Int)) last n = spanOk (rd_T38 l2 (j : Int)) last n := by unfold spanOk; rw [hl.1, hl.2.1, hl.2.2]
    rw [ordF, ordF, e, hl.2.2, ordF_same n l1 l2 m h k (j + 1) _ (by omega)]
theorem same_all {n1 : Int} {l1 : List S53} {s1 : List S38} {n2 : Int} {l2 : List S53} {s2 : List S38} (h : sameB n1 l1 s1 n2 l2 s2 = true) : tallyL l1 = tallyL l2 ∧ rightT n1 l1 s1 = rightT n2 l2 s2 := by
  unfold sameB spansB eqfB at h
  simp only [Bool.and_eq_true, beq_iff_eq, decide_eq_true_eq] at h
  obtain ⟨hn, ⟨hs, hS⟩, hl, hF⟩ := h
  have hF' := fun i (hi : i < l1.length) => allF_get l1 l2 l1.length 0 hF i (Nat.zero_le i) (by omega)
  have hS' := fun i (hi : i < s1.length) => allS_get s1 s2 s1.length 0 hS i (Nat.zero_le i) (by omega)
  refine ⟨?_, ?_⟩
  · unfold tallyL
    rw [← hl]
    exact tallyN_same l1 l2 l1.length hF' l1.length (Nat.le_refl _)
  · unfold rightT
    rw [← hn, ← hl, ← hs, opsF_same n1 l1 l2 l1.length hF' l1.length 0 0 (by omega), ordF_same l1.length s1 s2 s1.length hS' s1.length 0 0 (by omega)]
end Go.Proofs.Ytphdlidaigalkaa.CntMath
