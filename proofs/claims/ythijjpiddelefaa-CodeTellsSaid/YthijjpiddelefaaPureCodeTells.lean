/-
  CodeTells' pure statement: numbers, strings that are put, what is padded, and what is taken, are the document's: for any bytes, and any number.
-/
import Derived.Test.YthijjpiddelefaaCodeEval
import Derived.Test.YthijjpiddelefaaPCodex4
namespace Go.Proofs.Ythijjpiddelefaa.Pure
open Go.RowKit Go.Proofs.Ythijjpiddelefaa.PCode Go.Proofs.YthijjpiddelefaaW.PrintWords Go.Proofs.YthijjpiddelefaaW.PrintLast Byte CodeMath CodeEval

theorem CodeTells : visorlaw14_CodeTells.Pure := by
  intro l n _ hl wl wn
  rw [Nat.mul_one] at hl
  have bl := IsB.of_wf wl
  have hn := wf_i64 wn
  have lefts : ∃ r, Ev (fun k => code_Left.f k n) r ∧ Ev (fun k => visorref14_Left.f k n) r := by
    by_cases h : n < 0
    · exact ⟨[], left_neg n h, rleft_neg n h⟩
    · obtain ⟨m, rfl⟩ : ∃ m : Nat, n = (m : Int) := ⟨n.toNat, by omega⟩
      exact ⟨leftL m, left_ev m (by omega), rleft_ev m (by omega)⟩
  have rights : ∃ r, Ev (fun k => code_Right.f k n) r ∧ Ev (fun k => visorref14_Right.f k n) r := by
    by_cases h : n < 0
    · exact ⟨[], right_neg n h, rright_neg n h⟩
    · obtain ⟨m, rfl⟩ : ∃ m : Nat, n = (m : Int) := ⟨n.toNat, by omega⟩
      exact ⟨rightL m, right_ev m (by omega), rright_ev m (by omega)⟩
  have pads : ∃ r, Ev (fun k => code_Pad.f k l n) r ∧ Ev (fun k => visorref14_Pad.f k l n) r := by
    by_cases h : n < 1 ∨ 1000 < n
    · exact ⟨_, pad_no l n h, rpad_no l n h⟩
    · obtain ⟨m, rfl⟩ : ∃ m : Nat, n = (m : Int) := ⟨n.toNat, by omega⟩
      exact ⟨_, pad_ev l m (by omega) (by omega) hl, rpad_ev l m (by omega) (by omega) hl⟩
  obtain ⟨p, p1, p2⟩ := pads
  obtain ⟨x, x1, x2⟩ := lefts
  obtain ⟨y, y1, y2⟩ := rights
  refine Ev.rounds (r := true) (g := fun k => visorlaw14_CodeTells.f k l n) ?_
  unfold visorlaw14_CodeTells.f
  refine Ev.bind p1 (Ev.bind p2 (Ev.bind (ctake_ev l bl hl) (Ev.bind (rtake_ev l bl hl) (Ev.bind x1 (Ev.bind x2 ?_)))))
  simp only [if_true, beq_self_eq_true]
  refine Ev.bind y1 (Ev.bind y2 ?_)
  simp only [if_true]
  refine Ev.bind (str_ev l hl) (Ev.bind (rstr_ev l hl) ?_)
  simp only [if_true]
  exact Ev.map awake_ev _ rfl
end Go.Proofs.Ythijjpiddelefaa.Pure
