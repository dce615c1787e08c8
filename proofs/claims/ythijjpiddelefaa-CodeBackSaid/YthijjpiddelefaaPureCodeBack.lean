/-
  CodeBack's pure statement: what is put is taken, whatever stands behind it; two rows of strings are alike just if the strings are: for any bytes.
-/
import Derived.Test.YthijjpiddelefaaCodeEval
import Derived.Test.YthijjpiddelefaaPCodex7
namespace Go.Proofs.Ythijjpiddelefaa.Pure
open Go.RowKit Go.Proofs.Ythijjpiddelefaa.PCode Go.Proofs.YthijjpiddelefaaW.PrintWords Go.Proofs.YthijjpiddelefaaW.PrintLast Byte CodeMath CodeEval

theorem CodeBack : visorlaw14_CodeBack.Pure := by
  intro a b c d _ ha wa _ hb wb _ hc wc _ hd wd
  rw [Nat.mul_one] at ha hb hc hd
  have ba := IsB.of_wf wa; have bb := IsB.of_wf wb; have bc := IsB.of_wf wc; have bd := IsB.of_wf wd
  have e : (wrap64 ((wrap64 ((wrap64 ((a.length : Int) + (b.length : Int))) + (c.length : Int))) + (d.length : Int))) = ((a.length + b.length + c.length + d.length : Nat) : Int) := by
    rw [w64 (x := (a.length : Int) + (b.length : Int)) (by omega) (by omega), w64 (x := (a.length : Int) + (b.length : Int) + (c.length : Int)) (by omega) (by omega), w64 (by omega) (by omega)]
    omega
  obtain ⟨K0, h0⟩ := awake_ev
  by_cases hs : a.length + b.length + c.length + d.length > 3000
  · refine ⟨K0, ?_⟩
    unfold visorlaw14_CodeBack.f
    rw [e, if_pos (by omega), show visorlaw14_awake.f K0 = some true from h0 K0 (Nat.le_refl _)]; rfl
  · have la := leftL_le (n := 8 * a.length) (by omega)
    have lb := leftL_le (n := 8 * b.length) (by omega)
    have lc := leftL_le (n := 8 * c.length) (by omega)
    have ld := leftL_le (n := 8 * d.length) (by omega)
    have sl : ∀ l : List Int, (strL l).length = (leftL (8 * l.length)).length + l.length := fun l => by unfold strL; rw [List.length_append]
    have sb : ∀ l : List Int, IsB l → l.length ≤ 3000 → IsB (strL l) := fun l h1 h2 => IsB.append (leftL_b (Nat.lt_of_lt_of_le (show 8 * l.length < 256 ^ 2 by omega) (by decide))) h1
    have sa := sb a ba (by omega)
    obtain ⟨Ka, h1⟩ := str_ev a ha
    obtain ⟨Kb, h2⟩ := str_ev b hb
    obtain ⟨Kc, h3⟩ := str_ev c hc
    obtain ⟨Kd, h4⟩ := str_ev d hd
    obtain ⟨Kt, h5⟩ := ctake_ev (strL a ++ d) (IsB.append sa bd) (by rw [List.length_append, sl]; omega)
    rw [take_str a d (by omega)] at h5
    obtain ⟨k, hk⟩ : ∃ k, k = K0 + Ka + Kb + Kc + Kd + Kt := ⟨_, rfl⟩
    have g0 := h0 k (by omega); have g1 := h1 k (by omega); have g2 := h2 k (by omega); have g3 := h3 k (by omega); have g4 := h4 k (by omega); have g5 := h5 k (by omega)
    simp only [] at g0 g1 g2 g3 g4 g5
    refine ⟨k, ?_⟩
    have key : (strL a ++ strL b = strL c ++ strL d) ↔ (a = c ∧ b = d) := by
      constructor
      · intro h
        obtain ⟨r1, r2⟩ := str_apart (by omega) (by omega) h
        have r3 := str_apart (a := b) (b := []) (c := d) (d := []) (by omega) (by omega) (by rw [r2])
        exact ⟨r1, r3.1⟩
      · rintro ⟨rfl, rfl⟩; rfl
    have keyS : ((strOfNums (strL a ++ strL b)).toList = (strOfNums (strL c ++ strL d)).toList) ↔ (a = c ∧ b = d) := (str_eq _ _ (IsB.append sa (sb b bb (by omega))) (IsB.append (sb c bc (by omega)) (sb d bd (by omega)))).trans key
    unfold visorlaw14_CodeBack.f
    simp only [e, Option.bind_some, List.length_nil, Nat.zero_add, List.nil_append, g0, g1, g2, g3, g4]
    rw [if_neg (by omega), if_pos (by rw [sl]; omega), if_pos (by rw [sl, sl]; omega), if_pos (by rw [sl]; omega), if_pos (by rw [sl, sl]; omega), if_pos (by rw [sl]; omega), if_pos (by rw [sl]; omega), g5]
    simp only [Option.bind_some, if_true]
    by_cases hac : a = c
    · subst hac
      rw [if_pos rfl]
      by_cases hbd : b = d
      · subst hbd
        rw [if_pos (by simp)]
      · have n1 : ((strOfNums (strL a ++ strL b)).toList == (strOfNums (strL a ++ strL d)).toList) = false := beq_eq_false_iff_ne.2 fun h => hbd (keyS.1 h).2
        have n2 : ((strOfNums b).toList == (strOfNums d).toList) = false := beq_eq_false_iff_ne.2 fun h => hbd ((str_eq _ _ bb bd).1 h)
        rw [if_pos (by rw [n1, n2]; rfl)]
    · have n1 : ((strOfNums (strL a ++ strL b)).toList == (strOfNums (strL c ++ strL d)).toList) = false := beq_eq_false_iff_ne.2 fun h => hac (keyS.1 h).1
      rw [if_neg (fun h => hac ((str_eq _ _ ba bc).1 h)), if_pos (by rw [n1]; rfl)]
end Go.Proofs.Ythijjpiddelefaa.Pure
