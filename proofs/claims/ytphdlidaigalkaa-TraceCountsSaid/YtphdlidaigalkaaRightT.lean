/-
  Whether an op may stand at a place: the program's and the document's, walked. No condition.
-/
import Derived.LoopN
import Derived.Test.YtphdlidaigalkaaPTrx
import Derived.Test.YtphdlidaigalkaaGives
import Derived.Test.YtphdlidaigalkaaMem
import Derived.Test.YtphdlidaigalkaaByte
namespace Go.Proofs.Ytphdlidaigalkaa.RightT
open Go.RowKit Go.Proofs.Ytphdlidaigalkaa.PTr Go.Proofs.YtphdlidaigalkaaW.PrintWords Go.Proofs.YtphdlidaigalkaaW.PrintLast Go.Proofs.YtphdlidaigalkaaW.PrintMore Gives Byte
set_option linter.unusedVariables false
set_option linter.unusedSimpArgs false
/-! ### plain -/
def regsN (kind n : Int) : Int := if n ≠ 2 ∧ n ≠ 3 then 0 else if kind = 2 then n - 1 else if kind = 5 ∨ kind = 7 then 2 else if kind = 6 ∨ kind = 8 ∨ kind = 9 ∨ kind = 10 ∨ kind = 11 then 1 else if kind = 12 then n else 0
def constB (kind c : Int) : Bool := if kind = 9 ∨ kind = 10 ∨ kind = 11 then decide (c < 64) else if kind = 2 then decide (c < 1048576) else if kind = 3 ∨ kind = 4 ∨ kind = 8 then true else decide (c = 0)
def regB (i of r at_ : Int) : Bool := if i < of then decide (0 ≤ r ∧ r < at_) else decide (r = -1)
def rightB (kind dom a b d c at_ n : Int) : Bool := decide ((n = 2 ∨ n = 3) ∧ 1 ≤ kind ∧ kind ≤ 12 ∧ -1 ≤ dom ∧ dom < n ∧ (kind = 12 → dom = -1)) && (regB 0 (regsN kind n) a at_ && (regB 1 (regsN kind n) b at_ && (regB 2 (regsN kind n) d at_ && constB kind c)))
set_option maxHeartbeats 4000000
theorem opRegs_eq (kind n : Int) : op_Regs.f 3 kind n = some (regsN kind n) := by
  unfold op_Regs.f regsN
  simp only [op_Regs.j0, op_Regs.j1, op_Regs.j2]
  by_cases h2 : n = 2
  · subst h2
    have e : wrap64 1 = 1 := w64 (by decide) (by decide)
    by_cases k2 : kind = 2 <;> by_cases k5 : kind = 5 <;> by_cases k7 : kind = 7 <;> by_cases k6 : kind = 6 <;> by_cases k8 : kind = 8 <;> by_cases k9 : kind = 9 <;> by_cases k10 : kind = 10 <;> by_cases k11 : kind = 11 <;> by_cases k12 : kind = 12 <;> first | omega | simp [*]
  · by_cases h3 : n = 3
    · subst h3
      have e : wrap64 2 = 2 := w64 (by decide) (by decide)
      by_cases k2 : kind = 2 <;> by_cases k5 : kind = 5 <;> by_cases k7 : kind = 7 <;> by_cases k6 : kind = 6 <;> by_cases k8 : kind = 8 <;> by_cases k9 : kind = 9 <;> by_cases k10 : kind = 10 <;> by_cases k11 : kind = 11 <;> by_cases k12 : kind = 12 <;> first | omega | simp [*]
    · simp [*]
theorem refRegs_eq (kind n : Int) : visorref17_Regs.f 3 kind n = some (regsN kind n) := by
  unfold visorref17_Regs.f regsN
  simp only [visorref17_Regs.j0, visorref17_Regs.j1, visorref17_Regs.j2]
  by_cases h2 : n = 2
  · subst h2
    have e : wrap64 1 = 1 := w64 (by decide) (by decide)
    by_cases k2 : kind = 2 <;> by_cases k5 : kind = 5 <;> by_cases k7 : kind = 7 <;> by_cases k6 : kind = 6 <;> by_cases k8 : kind = 8 <;> by_cases k9 : kind = 9 <;> by_cases k10 : kind = 10 <;> by_cases k11 : kind = 11 <;> by_cases k12 : kind = 12 <;> first | omega | simp [*]
  · by_cases h3 : n = 3
    · subst h3
      have e : wrap64 2 = 2 := w64 (by decide) (by decide)
      by_cases k2 : kind = 2 <;> by_cases k5 : kind = 5 <;> by_cases k7 : kind = 7 <;> by_cases k6 : kind = 6 <;> by_cases k8 : kind = 8 <;> by_cases k9 : kind = 9 <;> by_cases k10 : kind = 10 <;> by_cases k11 : kind = 11 <;> by_cases k12 : kind = 12 <;> first | omega | simp [*]
    · simp [*]
theorem opConst_eq (k0 k1 k2 k3 k4 c : Int) : op_constant.f 3 k0 k1 k2 k3 k4 c = some (constB k0 c) := by
  unfold op_constant.f constB
  simp only [op_constant.j0]
  by_cases k2 : k0 = 2 <;> by_cases k3 : k0 = 3 <;> by_cases k4 : k0 = 4 <;> by_cases k8 : k0 = 8 <;> by_cases k9 : k0 = 9 <;> by_cases k10 : k0 = 10 <;> by_cases k11 : k0 = 11 <;> first | omega | (simp [*]; done) | (simp [*]; rfl)
theorem opIs_eq (k : Int) : op_is.f k = some (decide (1 ≤ k ∧ k ≤ 12)) := by
  unfold op_is.f
  by_cases h : k ≥ 1
  · rw [if_pos h]; congr 1; simp; omega
  · rw [if_neg h]; congr 1; symm; simp; omega
theorem six {w : World} {g t : Nat} {a b c d e f : Value} (h : w.heap[g]? = some (.cells #[a, b, c, d, e, f] t (0, 0))) : w.cell? ⟨g, 0, none⟩ = some a ∧ w.cell? ⟨g, 1, none⟩ = some b ∧ w.cell? ⟨g, 2, none⟩ = some c ∧ w.cell? ⟨g, 3, none⟩ = some d ∧ w.cell? ⟨g, 4, none⟩ = some e ∧ w.cell? ⟨g, 5, none⟩ = some f :=
  ⟨cell_of_row w g 0 _ _ _ h, cell_of_row w g 1 _ _ _ h, cell_of_row w g 2 _ _ _ h, cell_of_row w g 3 _ _ _ h, cell_of_row w g 4 _ _ _ h, cell_of_row w g 5 _ _ _ h⟩
theorem three {w : World} {g t : Nat} {a b c : Value} (h : w.heap[g]? = some (.cells #[a, b, c] t (0, 0))) : w.cell? ⟨g, 0, none⟩ = some a ∧ w.cell? ⟨g, 1, none⟩ = some b ∧ w.cell? ⟨g, 2, none⟩ = some c :=
  ⟨cell_of_row w g 0 _ _ _ h, cell_of_row w g 1 _ _ _ h, cell_of_row w g 2 _ _ _ h⟩
def tl (of at_ : Int) (c : Bool) : List Int → Nat → Bool
  | [], _ => c
  | r :: t, k => regB (k : Int) of r at_ && tl of at_ c t (k + 1)
theorem constL (kind c : Int) : constB kind c = (bif (kind == 9) || ((kind == 10) || (kind == 11)) then decide (c < 64) else bif (kind == 2) then decide (c < 1048576) else bif (kind == 3) || ((kind == 4) || (kind == 8)) then true else (c == 0)) := by
  unfold constB
  have e : ∀ x y : Int, (x == y) = decide (x = y) := fun x y => by rw [Bool.eq_iff_iff]; simp
  simp only [e]
  by_cases h1 : kind = 9 <;> by_cases h2 : kind = 10 <;> by_cases h3 : kind = 11 <;> by_cases h4 : kind = 2 <;> by_cases h5 : kind = 3 <;> by_cases h6 : kind = 4 <;> by_cases h7 : kind = 8 <;> simp [*]
def headP (kind dom n : Int) : Prop := (n = 2 ∨ n = 3) ∧ 1 ≤ kind ∧ kind ≤ 12 ∧ -1 ≤ dom ∧ dom < n ∧ (kind = 12 → dom = -1)
instance (kind dom n : Int) : Decidable (headP kind dom n) := by unfold headP; infer_instance
theorem headL (kind dom n : Int) : decide (headP kind dom n) = (!((n != 2) && (n != 3)) && (decide (1 ≤ kind ∧ kind ≤ 12) && (!decide (dom < -1) && (!decide (n ≤ dom) && !((kind == 12) && decide (0 ≤ dom)))))) := by
  rw [Bool.eq_iff_iff]
  simp only [Bool.and_eq_true, Bool.not_eq_true', decide_eq_true_eq, decide_eq_false_iff_not, Bool.and_eq_false_iff, bne_eq_false_iff_eq, beq_eq_false_iff_ne]
  unfold headP
  constructor
  · intro ⟨h1, h2, h3, h4, h5, h6⟩
    refine ⟨h1, ⟨h2, h3⟩, by omega, by omega, ?_⟩
    by_cases h : kind = 12
    · right; have := h6 h; omega
    · left; exact h
  · intro ⟨h1, ⟨h2, h3⟩, h4, h5, h6⟩
    refine ⟨h1, h2, h3, by omega, by omega, fun h => ?_⟩
    rcases h6 with h6 | h6
    · exact absurd h h6
    · omega
theorem headL2 (kind dom n : Int) : decide (headP kind dom n) = (!((n != 2) && (n != 3)) && (!decide (kind < 1) && (!decide (12 < kind) && (!decide (dom < -1) && (!decide (n ≤ dom) && !((kind == 12) && (dom != -1))))))) := by
  rw [Bool.eq_iff_iff]
  simp only [Bool.and_eq_true, Bool.not_eq_true', decide_eq_true_eq, decide_eq_false_iff_not, Bool.and_eq_false_iff, bne_eq_false_iff_eq, beq_eq_false_iff_ne]
  unfold headP
  constructor
  · intro ⟨h1, h2, h3, h4, h5, h6⟩
    refine ⟨h1, by omega, by omega, by omega, by omega, ?_⟩
    by_cases h : kind = 12
    · right; exact h6 h
    · left; exact h
  · intro ⟨h1, h2, h3, h4, h5, h6⟩
    refine ⟨h1, by omega, by omega, by omega, by omega, fun h => ?_⟩
    rcases h6 with h6 | h6
    · exact absurd h h6
    · exact h6
theorem regL (i of r at_ : Int) : regB i of r at_ = (bif decide (i < of) then (!decide (r < 0) && !decide (at_ ≤ r)) else !(r != -1)) := by
  unfold regB
  split
  · rename_i h
    rw [decide_eq_true h, cond_true, Bool.eq_iff_iff]
    simp only [Bool.and_eq_true, Bool.not_eq_true', decide_eq_true_eq, decide_eq_false_iff_not]
    omega
  · rename_i h
    rw [decide_eq_false h, cond_false, Bool.eq_iff_iff]
    simp
theorem rightB_out {kind dom a b d c at_ n : Int} (h : ¬ headP kind dom n) : rightB kind dom a b d c at_ n = false := by
  unfold rightB headP at *
  rw [decide_eq_false h, Bool.false_and]
theorem rightB_in {kind dom a b d c at_ n : Int} (h : headP kind dom n) : rightB kind dom a b d c at_ n = (regB 0 (regsN kind n) a at_ && (regB 1 (regsN kind n) b at_ && (regB 2 (regsN kind n) d at_ && constB kind c))) := by
  unfold rightB headP at *
  rw [decide_eq_true h, Bool.true_and]
theorem idx3 (x y z : Int) (i : Nat) (hi : i < 3) (w : World) : (Instr.index 143 (.agg #[.int .i64 x, .int .i64 y, .int .i64 z]) (.int .i64 (i : Int))).run Try.prog w = .ok (.int .i64 ([x, y, z].getD i 0)) w :=
  Mem.run_index_arr (l := [x, y, z]) Try.underlying143 Try.underlying3 (by kernel_rfl) rfl i hi w
theorem idx3_0 (x y z : Int) (w : World) : (Instr.index 143 (.agg #[.int .i64 x, .int .i64 y, .int .i64 z]) (.int .i64 0)).run Try.prog w = .ok (.int .i64 x) w := idx3 x y z 0 (by decide) w
theorem idx3_1 (x y z : Int) (w : World) : (Instr.index 143 (.agg #[.int .i64 x, .int .i64 y, .int .i64 z]) (.int .i64 1)).run Try.prog w = .ok (.int .i64 y) w := idx3 x y z 1 (by decide) w
theorem idx3_2 (x y z : Int) (w : World) : (Instr.index 143 (.agg #[.int .i64 x, .int .i64 y, .int .i64 z]) (.int .i64 2)).run Try.prog w = .ok (.int .i64 z) w := idx3 x y z 2 (by decide) w
attribute [local go_sem] idx3_0 idx3_1 idx3_2
set_option maxHeartbeats 8000000 in
set_option maxRecDepth 100000 in
theorem op_right_c (a0_0 a0_1 a0_2 a0_3 a0_4 a0_5 a1 a2 : Int) (w : World) :
    Calls Try.prog 79 #[.agg #[.int .i64 a0_0, .int .i64 a0_1, .int .i64 a0_2, .int .i64 a0_3, .int .i64 a0_4, .int .u64 a0_5], .int .i64 a1, .int .i64 a2] w fun e w' => e = .returned (.bool (rightB a0_0 a0_1 a0_2 a0_3 a0_4 a0_5 a1 a2)) ∧ Below w.heap.size w w' := by
  have hu := Aside0.mk Try.underlying53
  have HB := Aside0.mk (Below.refl w.heap.size w)
  have HIS := Aside0.mk (fun w0 => op_is.calls a0_0 _ w0 (opIs_eq a0_0))
  have HRG := Aside0.mk (fun w0 => op_Regs.calls 3 a0_0 a2 _ w0 (opRegs_eq a0_0 a2))
  have HCO := Aside0.mk (fun w0 => op_constant.calls 3 a0_0 a0_1 a0_2 a0_3 a0_4 a0_5 _ w0 (opConst_eq a0_0 a0_1 a0_2 a0_3 a0_4 a0_5))
  have HL := Aside0.mk (headL a0_0 a0_1 a2)
  obtain ⟨b1, e1⟩ : ∃ q : Bool, (a2 != 2) = q := ⟨_, rfl⟩
  obtain ⟨b2, e2⟩ : ∃ q : Bool, (a2 != 3) = q := ⟨_, rfl⟩
  obtain ⟨b3, e3⟩ : ∃ q : Bool, decide (1 ≤ a0_0 ∧ a0_0 ≤ 12) = q := ⟨_, rfl⟩
  obtain ⟨b4, e4⟩ : ∃ q : Bool, decide (a0_1 < -1) = q := ⟨_, rfl⟩
  obtain ⟨b5, e5⟩ : ∃ q : Bool, decide (a2 ≤ a0_1) = q := ⟨_, rfl⟩
  obtain ⟨b6, e6⟩ : ∃ q : Bool, (a0_0 == 12) = q := ⟨_, rfl⟩
  obtain ⟨b7, e7⟩ : ∃ q : Bool, decide (0 ≤ a0_1) = q := ⟨_, rfl⟩
  rw [e1, e2, e3, e4, e5, e6, e7] at HL
  rw [e3] at HIS
  go_enter Try.func79, Try.ntmps79
  go_upto_region 1 with (first | ((with_reducible refine gate_dst (N := 3) rfl ?_); refine box_event ?hg (N := 3) ?hd (cs := #[.int .i64 a0_0, .int .i64 a0_1, .int .i64 a0_2, .int .i64 a0_3, .int .i64 a0_4, .int .u64 a0_5]) (t := 53) ?hr ?_; (case hd => rfl); (case hg => rfl); (case hr => first | (go_simp; done) | (go_simp; rfl)); intro gb hg w3 hbox hb; subst hg; have HB := Aside0.mk (below_step HB.out hb); have BK := Aside0.mk hbox; clear hb hbox))
  go_cut [42] (fun v42 wc => v42 = .bool (!decide (headP a0_0 a0_1 a2)) ∧ Aside0 (wc.heap[w.heap.size]? = some (.cells #[.int .i64 a0_0, .int .i64 a0_1, .int .i64 a0_2, .int .i64 a0_3, .int .i64 a0_4, .int .u64 a0_5] 53 (0, 0))) ∧ Aside0 (Below w.heap.size w wc))
  case first =>
    obtain ⟨hc0, hc1, hc2, hc3, hc4, hc5⟩ := six BK.out
    go_wp2_with (first | (go_at_call 110; (with_reducible refine (HIS.out _).mono ?_); rintro e w' ⟨rfl, ⟨⟨n1, rfl⟩⟩⟩; clear hc0 hc1 hc2 hc3 hc4 hc5; have BK := Aside0.mk (blk_drewN BK.out n1); have HB := Aside0.mk (pw_below_drewN HB.out n1); obtain ⟨hc0, hc1, hc2, hc3, hc4, hc5⟩ := six BK.out))
    all_goals go_meet
    all_goals (case rel => exact ⟨by rw [HL.out]; simp [*], BK, HB⟩)
  case rest =>
    clear BK HB
    obtain ⟨rfl, BK, HB⟩ := hcut
    clear e1 e2 e3 e4 e5 e6 e7 HL HIS
    obtain ⟨hc0, hc1, hc2, hc3, hc4, hc5⟩ := six BK.out
    by_cases hh : headP a0_0 a0_1 a2
    · rw [decide_eq_true hh]
      have HRp := (rightB_in (a := a0_2) (b := a0_3) (d := a0_4) (c := a0_5) (at_ := a1) hh)
      have HH := Aside0.mk hh
      clear hh
      generalize regsN a0_0 a2 = of at *
      obtain ⟨x0, ex0⟩ : ∃ q : Bool, decide ((0 : Int) < of) = q := ⟨_, rfl⟩
      have ew0 : decide (of ≤ (0 : Int)) = !x0 := by rw [← ex0, ← decide_not]; congr 1; simp
      obtain ⟨y0, ey0⟩ : ∃ q : Bool, decide (a0_2 < 0) = q := ⟨_, rfl⟩
      obtain ⟨z0, ez0⟩ : ∃ q : Bool, decide (a1 ≤ a0_2) = q := ⟨_, rfl⟩
      obtain ⟨v0, ev0⟩ : ∃ q : Bool, (a0_2 != -1) = q := ⟨_, rfl⟩
      have HB0 := regL 0 of a0_2 a1
      rw [ex0, ey0, ez0, ev0] at HB0
      rw [HB0] at HRp
      clear HB0
      obtain ⟨x1, ex1⟩ : ∃ q : Bool, decide ((1 : Int) < of) = q := ⟨_, rfl⟩
      have ew1 : decide (of ≤ (1 : Int)) = !x1 := by rw [← ex1, ← decide_not]; congr 1; simp
      obtain ⟨y1, ey1⟩ : ∃ q : Bool, decide (a0_3 < 0) = q := ⟨_, rfl⟩
      obtain ⟨z1, ez1⟩ : ∃ q : Bool, decide (a1 ≤ a0_3) = q := ⟨_, rfl⟩
      obtain ⟨v1, ev1⟩ : ∃ q : Bool, (a0_3 != -1) = q := ⟨_, rfl⟩
      have HB1 := regL 1 of a0_3 a1
      rw [ex1, ey1, ez1, ev1] at HB1
      rw [HB1] at HRp
      clear HB1
      obtain ⟨x2, ex2⟩ : ∃ q : Bool, decide ((2 : Int) < of) = q := ⟨_, rfl⟩
      have ew2 : decide (of ≤ (2 : Int)) = !x2 := by rw [← ex2, ← decide_not]; congr 1; simp
      obtain ⟨y2, ey2⟩ : ∃ q : Bool, decide (a0_4 < 0) = q := ⟨_, rfl⟩
      obtain ⟨z2, ez2⟩ : ∃ q : Bool, decide (a1 ≤ a0_4) = q := ⟨_, rfl⟩
      obtain ⟨v2, ev2⟩ : ∃ q : Bool, (a0_4 != -1) = q := ⟨_, rfl⟩
      have HB2 := regL 2 of a0_4 a1
      rw [ex2, ey2, ez2, ev2] at HB2
      rw [HB2] at HRp
      clear HB2
      have HR := Aside0.mk HRp
      clear HRp
      go_wp2_with (first | (go_at_call 111; (with_reducible refine (HRG.out _).mono ?_); rintro e w' ⟨rfl, ⟨⟨n1, rfl⟩⟩⟩; clear hc0 hc1 hc2 hc3 hc4 hc5; have BK := Aside0.mk (blk_drewN BK.out n1); have HB := Aside0.mk (pw_below_drewN HB.out n1); obtain ⟨hc0, hc1, hc2, hc3, hc4, hc5⟩ := six BK.out))
      refine wp_loop_rounds 4 ?_
      all_goals (first | (rw [rounds_succ]; go_wp2_with (first | (go_at_call 112; (with_reducible refine (HCO.out _).mono ?_); rintro e w' ⟨rfl, hb⟩; have HB := Aside0.mk (below_step HB.out hb)))) | skip)
      all_goals (first | (rw [rounds_succ]; go_wp2_with (first | (go_at_call 112; (with_reducible refine (HCO.out _).mono ?_); rintro e w' ⟨rfl, hb⟩; have HB := Aside0.mk (below_step HB.out hb)))) | skip)
      all_goals (first | (rw [rounds_succ]; go_wp2_with (first | (go_at_call 112; (with_reducible refine (HCO.out _).mono ?_); rintro e w' ⟨rfl, hb⟩; have HB := Aside0.mk (below_step HB.out hb)))) | skip)
      all_goals (first | (rw [rounds_succ]; go_wp2_with (first | (go_at_call 112; (with_reducible refine (HCO.out _).mono ?_); rintro e w' ⟨rfl, hb⟩; have HB := Aside0.mk (below_step HB.out hb)))) | skip)
      all_goals (first | (go_ret; refine ⟨?_, HB.out⟩; rw [HR.out]; simp [*]; done) | (go_ret; refine ⟨?_, HB.out⟩; rw [HR.out]; simp_all; done))
    · rw [decide_eq_false hh]
      have HR := Aside0.mk (rightB_out (a := a0_2) (b := a0_3) (d := a0_4) (c := a0_5) (at_ := a1) hh)
      clear hh
      go_wp2
      go_ret
      exact ⟨by rw [HR.out]; rfl, HB.out⟩
set_option maxHeartbeats 8000000 in
set_option maxRecDepth 100000 in
theorem ref_right_c (a0_0 a0_1 a0_2 a0_3 a0_4 a0_5 a1 a2 : Int) (w : World) :
    Calls Try.prog 77 #[.agg #[.int .i64 a0_0, .int .i64 a0_1, .int .i64 a0_2, .int .i64 a0_3, .int .i64 a0_4, .int .u64 a0_5], .int .i64 a1, .int .i64 a2] w fun e w' => e = .returned (.bool (rightB a0_0 a0_1 a0_2 a0_3 a0_4 a0_5 a1 a2)) ∧ Below w.heap.size w w' := by
  have hu := Aside0.mk Try.underlying53
  have HB := Aside0.mk (Below.refl w.heap.size w)
  have HRG := Aside0.mk (fun w0 => visorref17_Regs.calls 3 a0_0 a2 _ w0 (refRegs_eq a0_0 a2))
  have HL := Aside0.mk (headL2 a0_0 a0_1 a2)
  obtain ⟨b1, e1⟩ : ∃ q : Bool, (a2 != 2) = q := ⟨_, rfl⟩
  obtain ⟨b2, e2⟩ : ∃ q : Bool, (a2 != 3) = q := ⟨_, rfl⟩
  obtain ⟨b3, e3⟩ : ∃ q : Bool, decide (a0_0 < 1) = q := ⟨_, rfl⟩
  obtain ⟨b8, e8⟩ : ∃ q : Bool, decide (12 < a0_0) = q := ⟨_, rfl⟩
  obtain ⟨b4, e4⟩ : ∃ q : Bool, decide (a0_1 < -1) = q := ⟨_, rfl⟩
  obtain ⟨b5, e5⟩ : ∃ q : Bool, decide (a2 ≤ a0_1) = q := ⟨_, rfl⟩
  obtain ⟨b6, e6⟩ : ∃ q : Bool, (a0_0 == 12) = q := ⟨_, rfl⟩
  obtain ⟨b7, e7⟩ : ∃ q : Bool, (a0_1 != -1) = q := ⟨_, rfl⟩
  rw [e1, e2, e3, e4, e5, e6, e7, e8] at HL
  go_enter Try.func77, Try.ntmps77
  go_upto_region 1 with (first | ((with_reducible refine gate_dst (N := 3) rfl ?_); refine box_event ?hg (N := 3) ?hd (cs := #[.int .i64 a0_0, .int .i64 a0_1, .int .i64 a0_2, .int .i64 a0_3, .int .i64 a0_4, .int .u64 a0_5]) (t := 53) ?hr ?_; (case hd => rfl); (case hg => rfl); (case hr => first | (go_simp; done) | (go_simp; rfl)); intro gb hg w3 hbox hb; subst hg; have HB := Aside0.mk (below_step HB.out hb); have BK := Aside0.mk hbox; clear hb hbox))
  go_cut [45] (fun v42 wc => v42 = .bool (!decide (headP a0_0 a0_1 a2)) ∧ Aside0 (wc.heap[w.heap.size]? = some (.cells #[.int .i64 a0_0, .int .i64 a0_1, .int .i64 a0_2, .int .i64 a0_3, .int .i64 a0_4, .int .u64 a0_5] 53 (0, 0))) ∧ Aside0 (Below w.heap.size w wc))
  case first =>
    obtain ⟨hc0, hc1, hc2, hc3, hc4, hc5⟩ := six BK.out
    go_wp2
    all_goals go_meet
    all_goals (case rel => exact ⟨by rw [HL.out]; simp [*], BK, HB⟩)
  case rest =>
    clear BK HB
    obtain ⟨rfl, BK, HB⟩ := hcut
    clear e1 e2 e3 e4 e5 e6 e7 e8 HL
    obtain ⟨hc0, hc1, hc2, hc3, hc4, hc5⟩ := six BK.out
    by_cases hh : headP a0_0 a0_1 a2
    · rw [decide_eq_true hh]
      have HRp := (rightB_in (a := a0_2) (b := a0_3) (d := a0_4) (c := a0_5) (at_ := a1) hh)
      have HH := Aside0.mk hh
      clear hh
      generalize regsN a0_0 a2 = of at *
      have HR := Aside0.mk (show rightB a0_0 a0_1 a0_2 a0_3 a0_4 a0_5 a1 a2 = tl of a1 (constB a0_0 a0_5) [a0_2, a0_3, a0_4] 0 from HRp)
      clear HRp
      go_wp2
      have BK := Aside0.mk (blk_alloc BK.out (.cells #[.int .i64 a0_2, .int .i64 a0_3, .int .i64 a0_4] 143))
      have AK := Aside0.mk (blk_new wc (.cells #[.int .i64 a0_2, .int .i64 a0_3, .int .i64 a0_4] 143))
      have HB := Aside0.mk (below_alloc HB.out (.cells #[.int .i64 a0_2, .int .i64 a0_3, .int .i64 a0_4] 143))
      clear hc0 hc1 hc2 hc3 hc4 hc5
      generalize wc.alloc (.cells #[.int .i64 a0_2, .int .i64 a0_3, .int .i64 a0_4] 143) = W1 at *
      generalize wc.heap.size = g2 at *
      go_loopg [8] 3 (fun kq iv wr => ∃ (k : Nat) (t : List Int), t.length = kq ∧ iv = .int .i64 (k : Int) ∧ Aside0 ([a0_2, a0_3, a0_4].drop k = t ∧ k + kq = 3) ∧ Aside0 (rightB a0_0 a0_1 a0_2 a0_3 a0_4 a0_5 a1 a2 = tl of a1 (constB a0_0 a0_5) t k) ∧ Aside0 (wr.heap[w.heap.size]? = some (.cells #[.int .i64 a0_0, .int .i64 a0_1, .int .i64 a0_2, .int .i64 a0_3, .int .i64 a0_4, .int .u64 a0_5] 53 (0, 0))) ∧ Aside0 (Below w.heap.size w wr) ∧ Aside0 (wr.heap[g2]? = some (.cells #[.int .i64 a0_2, .int .i64 a0_3, .int .i64 a0_4] 143 (0, 0))))
      case atStart => exact ⟨0, _, rfl, rfl, ⟨rfl, rfl⟩, HR, BK, HB, AK⟩
      case round =>
        clear BK HB AK HR
        obtain ⟨k, t, ht, rfl, HK, HR, BK, HB, AK⟩ := hrel
        cases gk with
        | zero =>
          obtain rfl := List.length_eq_zero_iff.1 ht
          obtain rfl : k = 3 := by have := HK.out.2; omega
          have HR := Aside0.mk (show _ = constB a0_0 a0_5 from HR.out)
          obtain ⟨hc0, hc1, hc2, hc3, hc4, hc5⟩ := six BK.out
          have HCL := Aside0.mk (constL a0_0 a0_5)
          obtain ⟨c9, e9⟩ : ∃ q : Bool, (a0_0 == 9) = q := ⟨_, rfl⟩
          obtain ⟨c10, e10⟩ : ∃ q : Bool, (a0_0 == 10) = q := ⟨_, rfl⟩
          obtain ⟨c11, e11⟩ : ∃ q : Bool, (a0_0 == 11) = q := ⟨_, rfl⟩
          obtain ⟨c2, e2⟩ : ∃ q : Bool, (a0_0 == 2) = q := ⟨_, rfl⟩
          obtain ⟨c3, e3⟩ : ∃ q : Bool, (a0_0 == 3) = q := ⟨_, rfl⟩
          obtain ⟨c4, e4⟩ : ∃ q : Bool, (a0_0 == 4) = q := ⟨_, rfl⟩
          obtain ⟨c8, e8⟩ : ∃ q : Bool, (a0_0 == 8) = q := ⟨_, rfl⟩
          rw [e9, e10, e11, e2, e3, e4, e8] at HCL
          go_wp2
          all_goals (go_ret; refine ⟨?_, HB.out⟩; first | (rw [HR.out, HCL.out]; simp [*]; done) | (exact Bool.noConfusion ((show c9 = true by assumption).symm.trans (show c9 = false by assumption))) | (exact Bool.noConfusion ((show c10 = true by assumption).symm.trans (show c10 = false by assumption))) | (exact Bool.noConfusion ((show c11 = true by assumption).symm.trans (show c11 = false by assumption))) | (exact Bool.noConfusion ((show c2 = true by assumption).symm.trans (show c2 = false by assumption))) | (exact Bool.noConfusion ((show c3 = true by assumption).symm.trans (show c3 = false by assumption))) | (exact Bool.noConfusion ((show c4 = true by assumption).symm.trans (show c4 = false by assumption))) | (exact Bool.noConfusion ((show c8 = true by assumption).symm.trans (show c8 = false by assumption))))
        | succ k2 =>
          obtain ⟨r, t, rfl⟩ : ∃ r t', t = r :: t' := by cases t with | nil => cases ht | cons r t' => exact ⟨r, t', rfl⟩
          have HRC := regL (k : Int) of r a1
          have HR1 : rightB a0_0 a0_1 a0_2 a0_3 a0_4 a0_5 a1 a2 = (regB k of r a1 && tl of a1 (constB a0_0 a0_5) t (k + 1)) := HR.out
          obtain ⟨x0, ex0⟩ : ∃ q : Bool, decide ((k : Int) < of) = q := ⟨_, rfl⟩
          have ew0 : decide (of ≤ (k : Int)) = !x0 := by rw [← ex0, ← decide_not]; congr 1; simp
          obtain ⟨y0, ey0⟩ : ∃ q : Bool, decide (r < 0) = q := ⟨_, rfl⟩
          obtain ⟨z0, ez0⟩ : ∃ q : Bool, decide (a1 ≤ r) = q := ⟨_, rfl⟩
          obtain ⟨v0, ev0⟩ : ∃ q : Bool, (r != -1) = q := ⟨_, rfl⟩
          rw [ex0, ey0, ez0, ev0] at HRC
          rw [HRC] at HR1
          have HR := Aside0.mk HR1
          clear HRC HR1
          have hk3 : (k : Int) < 3 := by have := HK.out.2; omega
          have hk0 : (0 : Int) ≤ (k : Int) := by omega
          have hr : [a0_2, a0_3, a0_4][k]? = some r := by have h := HK.out.1; rw [← List.head?_drop, h]; rfl
          have hcw : ∀ w5 : World, w5.heap[g2]? = some (.cells #[.int .i64 a0_2, .int .i64 a0_3, .int .i64 a0_4] 143 (0, 0)) → w5.cell? ⟨g2, k, none⟩ = some (.int .i64 r) := fun w5 h5 => by
            rw [cell_of_row w5 g2 k _ _ _ h5]
            have e : (#[Value.int .i64 a0_2, .int .i64 a0_3, .int .i64 a0_4] : Array Value) = ([a0_2, a0_3, a0_4].map (Value.int .i64)).toArray := rfl
            rw [e, List.getElem?_toArray, List.getElem?_map, hr]; rfl
          have hcA := hcw _ AK.out
          have hcAq : ∀ n : Nat, (wr.drewN n).cell? ⟨g2, k, none⟩ = some (.int .i64 r) := fun n => hcw _ (blk_drewN AK.out n)
          obtain ⟨hc0, hc1, hc2, hc3, hc4, hc5⟩ := six BK.out
          have hq0 : ∀ n : Nat, (wr.drewN n).cell? ⟨w.heap.size, 0, none⟩ = some (.int .i64 a0_0) := fun n => (six (blk_drewN BK.out n)).1
          have HT := Aside0.mk (show t.length = k2 by simpa using ht)
          have HD := Aside0.mk (show [a0_2, a0_3, a0_4].drop (k + 1) = t by rw [← List.drop_drop, HK.out.1]; rfl)
          have HK2 := Aside0.mk HK.out.2
          clear hr hcw ht HK
          go_wp2_with (first | (go_at_call 109; (with_reducible refine (HRG.out _).mono ?_); rintro e w' ⟨rfl, ⟨⟨n1, rfl⟩⟩⟩))
          all_goals (first | (go_ret; refine ⟨?_, by first | exact HB.out | exact pw_below_drewN HB.out _⟩; rw [HR.out]; simp [*]; done) | skip)
          all_goals go_roundg k2
          all_goals (first | (case measure => have := HK2.out; omega) | skip)
          all_goals (case rel => exact ⟨k + 1, t, HT.out, by go_num, ⟨HD.out, by have := HK2.out; omega⟩, ⟨by rw [HR.out]; simp [*]⟩, ⟨by first | exact BK.out | exact blk_drewN BK.out _⟩, ⟨by first | exact HB.out | exact pw_below_drewN HB.out _⟩, ⟨by first | exact AK.out | exact blk_drewN AK.out _⟩⟩)
    · rw [decide_eq_false hh]
      have HR := Aside0.mk (rightB_out (a := a0_2) (b := a0_3) (d := a0_4) (c := a0_5) (at_ := a1) hh)
      clear hh
      go_wp2
      go_ret
      exact ⟨by rw [HR.out]; rfl, HB.out⟩
def op_Right.f (a0_0 a0_1 a0_2 a0_3 a0_4 a0_5 a1 a2 : Int) : Option Bool := some (rightB a0_0 a0_1 a0_2 a0_3 a0_4 a0_5 a1 a2)
theorem op_Right.calls (a0_0 : Int) (a0_1 : Int) (a0_2 : Int) (a0_3 : Int) (a0_4 : Int) (a0_5 : Int) (a1 : Int) (a2 : Int) (r : Bool) (w : World) (h : op_Right.f a0_0 a0_1 a0_2 a0_3 a0_4 a0_5 a1 a2 = some r) :
    Calls Try.prog 79 #[.agg #[.int .i64 a0_0, .int .i64 a0_1, .int .i64 a0_2, .int .i64 a0_3, .int .i64 a0_4, .int .u64 a0_5], .int .i64 a1, .int .i64 a2] w fun e w' => e = .returned (.bool r) ∧ Below w.heap.size w w' := by
  rw [← Option.some.inj h]; exact op_right_c a0_0 a0_1 a0_2 a0_3 a0_4 a0_5 a1 a2 w
def visorref17_Right.f (a0_0 a0_1 a0_2 a0_3 a0_4 a0_5 a1 a2 : Int) : Option Bool := some (rightB a0_0 a0_1 a0_2 a0_3 a0_4 a0_5 a1 a2)
theorem visorref17_Right.calls (a0_0 : Int) (a0_1 : Int) (a0_2 : Int) (a0_3 : Int) (a0_4 : Int) (a0_5 : Int) (a1 : Int) (a2 : Int) (r : Bool) (w : World) (h : visorref17_Right.f a0_0 a0_1 a0_2 a0_3 a0_4 a0_5 a1 a2 = some r) :
    Calls Try.prog 77 #[.agg #[.int .i64 a0_0, .int .i64 a0_1, .int .i64 a0_2, .int .i64 a0_3, .int .i64 a0_4, .int .u64 a0_5], .int .i64 a1, .int .i64 a2] w fun e w' => e = .returned (.bool r) ∧ Below w.heap.size w w' := by
  rw [← Option.some.inj h]; exact ref_right_c a0_0 a0_1 a0_2 a0_3 a0_4 a0_5 a1 a2 w
end Go.Proofs.Ytphdlidaigalkaa.RightT
