/-
  SpongeTells, over numbers and lists alone: rates, what is filled in, and what is told, are the document's. No condition.
-/
import Derived.Test.YthijjpiddelefaaPSpx2
import Derived.Test.YthijjpiddelefaaSpKnown
namespace Go.Proofs.Ythijjpiddelefaa.Pure
open Go.Proofs.Ythijjpiddelefaa Go.RowKit Go.Proofs.Ythijjpiddelefaa.SpSum Go.Proofs.Ythijjpiddelefaa.Sponge Go.Proofs.Ythijjpiddelefaa.PSp Go.Proofs.YthijjpiddelefaaW.PrintWords Go.Proofs.YthijjpiddelefaaW.PrintLast CodeMath SpMath SpKnown
set_option linter.unusedVariables false
theorem sum_eq (m : List Int) (rate mark n : Int) (h : Rateds rate) (hm : m.length ≤ 1000000000) (hb : IsB m) (hk : 0 ≤ mark ∧ mark < 256) (hn : 0 ≤ n ∧ n ≤ 65536) : sponge_Sum.f m rate mark n = some (sumL m rate.toNat mark n.toNat, 0) := by
  unfold sponge_Sum.f
  rw [if_pos h, if_pos ⟨hm, (allB_iff m).2 hb, hk⟩, if_pos hn]
theorem sum_big (m : List Int) (rate mark n : Int) (h : Rateds rate) (hm : m.length ≤ 1000000000) (hb : IsB m) (hk : 0 ≤ mark ∧ mark < 256) (hn : ¬ (0 ≤ n ∧ n ≤ 65536)) : sponge_Sum.f m rate mark n = some ([], 1) := by
  unfold sponge_Sum.f
  rw [if_pos h, if_pos ⟨hm, (allB_iff m).2 hb, hk⟩, if_neg hn]
theorem sum_not (m : List Int) (rate mark n : Int) (h : ¬ Rateds rate) : sponge_Sum.f m rate mark n = some ([], 1) := by
  unfold sponge_Sum.f
  rw [if_neg h]
theorem rsum_eq (m : List Int) (rate mark n : Int) (h : Rateds rate) (hm : m.length ≤ 1000000000) (hb : IsB m) (hk : 0 ≤ mark ∧ mark < 256) (hn : 0 ≤ n ∧ n ≤ 65536) : visorref15_Sum.f m rate mark n = some (sumL m rate.toNat mark n.toNat) := by
  unfold visorref15_Sum.f
  rw [if_pos ⟨hm, h.1, h.2.1, h.2.2, hn.1, by omega, (allB_iff m).2 hb, hk.1, hk.2⟩]
theorem fill_eq (m : List Int) (rate mark : Int) (h : Rateds rate) (hm : m.length ≤ 1000000000) : sponge_Fill.f m rate mark = some (fillL m rate.toNat mark, 0) := by
  unfold sponge_Fill.f
  rw [if_pos h, if_pos hm]
theorem fill_not (m : List Int) (rate mark : Int) (h : ¬ Rateds rate) : sponge_Fill.f m rate mark = some ([], 1) := by
  unfold sponge_Fill.f
  rw [if_neg h]
theorem rrate_eq (x : Int) : PKec.visorref15_Rate.f x = PKec.sponge_Rate.f x := rfl
theorem rate_some (x : Int) : ∃ r, PKec.sponge_Rate.f x = some r := by
  unfold PKec.sponge_Rate.f
  (repeat' split) <;> exact ⟨_, rfl⟩
theorem rrated_eq (x : Int) : PKec.visorref15_Rated.f x = some (decide (Rateds x)) := by
  by_cases h : Rateds x
  · rw [decide_eq_true h]; exact rated_yes h
  · rw [decide_eq_false h]; exact rated_no h
theorem same_self (l : List Int) : visorref01_Same.f l l = some true := by
  unfold visorref01_Same.f
  simp
theorem awake_eq (k : Nat) (h : 0 < k) : visorlaw15_awake.f k = some true := by
  obtain ⟨k, rfl⟩ : ∃ m, k = m + 1 := ⟨k - 1, by omega⟩
  have h1 : sponge_Sha3.f (k + 1) 256 [] = some (sumL [] 136 6 32, 0) := by
    have e1 : PKec.sponge_Rate.f 256 = some 136 := by decide +kernel
    unfold sponge_Sha3.f
    rw [e1]
    simp only [Option.bind_some]
    rw [if_neg (by decide)]
    simp only [sponge_Sha3.j0]
    rw [if_neg (by decide), e1]
    simp only [Option.bind_some]
    rw [show wrap64 (Int.tdiv 256 8) = 32 by decide +kernel, sum_eq [] 136 6 32 (by decide) (by decide) IsB.nil (by decide) (by decide)]
    rfl
  have h2 : sponge_Shake.f 128 [] 4 = some (sumL [] 168 31 4, 0) := by
    have e1 : sponge_long.f 128 = some 168 := by decide +kernel
    unfold sponge_Shake.f
    rw [e1]
    simp only [Option.bind_some]
    rw [sum_eq [] 168 31 4 (by decide) (by decide) IsB.nil (by decide) (by decide)]
    rfl
  unfold visorlaw15_awake.f
  rw [h1, h2, sha256, shake128]
  decide +kernel
theorem SpongeTells : visorlaw15_SpongeTells.Pure := by
  intro m rate mark n _ _ hwb _ hwm _
  have hb : IsB m := IsB.of_wf hwb
  have hk := Byte.wf_u8 hwm
  have key : ∀ k, 8 ≤ k → visorlaw15_SpongeTells.j0 k m rate mark n true = some true := fun k h => by
    obtain ⟨k, rfl⟩ : ∃ m, k = m + 1 := ⟨k - 1, by omega⟩
    simp only [visorlaw15_SpongeTells.j0]
    rw [if_pos trivial, awake_eq k (by omega)]
    rfl
  by_cases hlen : (m.length : Int) > 1000
  · refine ⟨8, ?_⟩
    unfold visorlaw15_SpongeTells.f
    rw [if_pos hlen]
    exact key 8 (by decide)
  by_cases hbig : n > 1000 ∧ n ≤ 65536
  · refine ⟨8, ?_⟩
    unfold visorlaw15_SpongeTells.f
    rw [if_neg hlen, if_pos hbig.1, decide_eq_true hbig.2]
    exact key 8 (by decide)
  have hm : m.length ≤ 1000000000 := by omega
  obtain ⟨k0, hkf⟩ : ∃ k0, Rateds rate → ∀ k, k0 ≤ k → PKec.visorref15_Fill.f k m rate mark = some (fillL m rate.toNat mark) := by
    by_cases h : Rateds rate
    · obtain ⟨r, rfl⟩ : ∃ q : Nat, rate = (q : Int) := ⟨rate.toNat, by have := h.1; omega⟩
      have h1 := h.1
      have h2 := h.2.1
      obtain ⟨k0, hk0⟩ := rfill_ev m r mark (by omega) (by omega) (by omega)
      exact ⟨k0, fun _ k hk => hk0 k hk⟩
    · exact ⟨0, fun h' => absurd h' h⟩
  refine ⟨k0 + 8, ?_⟩
  have e0 : visorlaw15_SpongeTells.f (k0 + 8) m rate mark n = visorlaw15_SpongeTells.j0 (k0 + 8) m rate mark n false := by
    unfold visorlaw15_SpongeTells.f
    rw [if_neg hlen]
    by_cases h1 : n > 1000
    · rw [if_pos h1, decide_eq_false (fun h2 => hbig ⟨h1, h2⟩)]
    · rw [if_neg h1]
  rw [e0]
  obtain ⟨r1, hr1⟩ := rate_some n
  obtain ⟨r2, hr2⟩ := rate_some rate
  rw [show k0 + 8 = (k0 + 7) + 1 from rfl]
  simp only [visorlaw15_SpongeTells.j0]
  rw [if_neg (by decide)]
  by_cases hr : Rateds rate
  · rw [fill_eq m rate mark hr hm]
    simp only [Option.bind_some]
    by_cases hn : 0 ≤ n ∧ n ≤ 65536
    · rw [sum_eq m rate mark n hr hm hb hk hn]
      simp only [Option.bind_some]
      rw [rrate_eq, rrate_eq, hr1, hr2]
      simp only [Option.bind_some, if_true, bne_self_eq_false]
      rw [show k0 + 7 = (k0 + 6) + 1 from rfl]
      simp only [visorlaw15_SpongeTells.j1]
      rw [if_neg (by decide), rrated_eq, decide_eq_true hr]
      simp only [Option.bind_some, if_true]
      rw [hkf hr (k0 + 6) (by omega)]
      simp only [Option.bind_some]
      rw [same_self]
      simp only [Option.bind_some, Bool.not_true]
      rw [show k0 + 6 = (k0 + 5) + 1 from rfl]
      simp only [visorlaw15_SpongeTells.j2]
      rw [if_neg (by decide), if_neg (by omega), decide_eq_false (by omega)]
      rw [show k0 + 5 = (k0 + 4) + 1 from rfl]
      simp only [visorlaw15_SpongeTells.j3]
      rw [if_neg (by decide), if_pos trivial, rsum_eq m rate mark n hr hm hb hk hn]
      simp only [Option.bind_some]
      rw [same_self]
      simp only [Option.bind_some, if_true]
      rw [awake_eq _ (by omega)]
      rfl
    · rw [sum_big m rate mark n hr hm hb hk hn]
      simp only [Option.bind_some]
      rw [rrate_eq, rrate_eq, hr1, hr2]
      simp only [Option.bind_some, if_true, bne_self_eq_false]
      rw [show k0 + 7 = (k0 + 6) + 1 from rfl]
      simp only [visorlaw15_SpongeTells.j1]
      rw [if_neg (by decide), rrated_eq, decide_eq_true hr]
      simp only [Option.bind_some, if_true]
      rw [hkf hr (k0 + 6) (by omega)]
      simp only [Option.bind_some]
      rw [same_self]
      simp only [Option.bind_some, Bool.not_true]
      rw [show k0 + 6 = (k0 + 5) + 1 from rfl]
      simp only [visorlaw15_SpongeTells.j2]
      have e3 : ∀ b, (if n < 0 then visorlaw15_SpongeTells.j3 (k0 + 5) m rate mark n [] 1 true else visorlaw15_SpongeTells.j3 (k0 + 5) m rate mark n [] 1 (decide (n > 65536))) = b → (if n < 0 then visorlaw15_SpongeTells.j3 (k0 + 5) m rate mark n [] 1 true else visorlaw15_SpongeTells.j3 (k0 + 5) m rate mark n [] 1 (decide (n > 65536))) = b := fun _ h => h
      have e4 : (if n < 0 then visorlaw15_SpongeTells.j3 (k0 + 5) m rate mark n [] 1 true else visorlaw15_SpongeTells.j3 (k0 + 5) m rate mark n [] 1 (decide (n > 65536))) = visorlaw15_SpongeTells.j3 (k0 + 5) m rate mark n [] 1 true := by
        by_cases h1 : n < 0
        · rw [if_pos h1]
        · rw [if_neg h1, decide_eq_true (by omega)]
      rw [if_neg (by decide), e4, show k0 + 5 = (k0 + 4) + 1 from rfl]
      simp only [visorlaw15_SpongeTells.j3]
      rw [if_pos trivial, if_pos trivial, if_pos (by simp), awake_eq _ (by omega)]
      rfl
  · rw [fill_not m rate mark hr, sum_not m rate mark n hr]
    simp only [Option.bind_some]
    rw [rrate_eq, rrate_eq, hr1, hr2]
    simp only [Option.bind_some, if_true, bne_self_eq_false]
    rw [show k0 + 7 = (k0 + 6) + 1 from rfl]
    simp only [visorlaw15_SpongeTells.j1]
    rw [if_neg (by decide), rrated_eq, decide_eq_false hr]
    simp only [Option.bind_some, if_true]
    rw [awake_eq _ (by omega)]
    simp
end Go.Proofs.Ythijjpiddelefaa.Pure
