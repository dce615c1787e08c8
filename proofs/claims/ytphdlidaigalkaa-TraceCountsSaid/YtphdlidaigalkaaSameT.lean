/-
  Whether traces are the same, walked. No condition.
-/
import Derived.Test.YtphdlidaigalkaaTallyT
namespace Go.Proofs.Ytphdlidaigalkaa.SameT
open Go.RowKit Go.Proofs.Ytphdlidaigalkaa.PTt Go.Proofs.YtphdlidaigalkaaW.PrintWords Go.Proofs.YtphdlidaigalkaaW.PrintLast Go.Proofs.YtphdlidaigalkaaW.PrintMore Gives Byte RightT Mem Arr TallyT
set_option linter.unusedVariables false
set_option linter.unusedSimpArgs false
def likeB (x y : S53) : Bool := if x.f0 = 4 then (x.f0 == y.f0 && (x.f1 == y.f1 && (x.f2 == y.f2 && (x.f3 == y.f3 && (x.f4 == y.f4))))) else (x.f0 == y.f0 && (x.f1 == y.f1 && (x.f2 == y.f2 && (x.f3 == y.f3 && (x.f4 == y.f4 && (x.f5 == y.f5))))))
theorem like_eq (x y : S53) : trace_like.f x.f0 x.f1 x.f2 x.f3 x.f4 x.f5 y.f0 y.f1 y.f2 y.f3 y.f4 y.f5 = some (likeB x y) := by
  unfold trace_like.f likeB
  split <;> rfl
def allF (l1 l2 : List S53) : Nat → Nat → Bool
  | 0, _ => true
  | k + 1, j => likeB (rd_T53 l1 (j : Int)) (rd_T53 l2 (j : Int)) && allF l1 l2 k (j + 1)
def eqfB (l1 l2 : List S53) : Bool := decide (l1.length = l2.length) && allF l1 l2 l1.length 0
set_option maxHeartbeats 8000000 in
set_option maxRecDepth 100000 in
theorem eqf_c (A1 : Option Addr) (c1 : Nat) (l1 : List S53) (A2 : Option Addr) (c2 : Nat) (l2 : List S53) (w : World) (hr1 : Kd.C k53 w A1 l1.length l1) (hc1 : l1.length ≤ c1) (hr2 : Kd.C k53 w A2 l2.length l2) (hc2 : l2.length ≤ c2) (hL : l1.length ≤ 140737488351232) :
    Calls Try.prog 81 #[.slice A1 l1.length c1, .slice A2 l2.length c2, .func (.func 82) #[] #[]] w fun e w' => e = .returned (.bool (eqfB l1 l2)) ∧ Below w.heap.size w w' := by
  have hu2 := Try.underlying53
  have HR1 := Aside0.mk hr1
  have HR2 := Aside0.mk hr2
  clear hr1 hr2
  have HB := Aside0.mk (Below.refl w.heap.size w)
  have HLK := Aside0.mk (fun (x y : S53) w0 => trace_like.calls x.f0 x.f1 x.f2 x.f3 x.f4 x.f5 y.f0 y.f1 y.f2 y.f3 y.f4 y.f5 _ w0 (like_eq x y))
  by_cases hl : l1.length = l2.length
  · have HR := Aside0.mk (show eqfB l1 l2 = allF l1 l2 l1.length 0 by unfold eqfB; rw [decide_eq_true hl, Bool.true_and])
    have HL2 := Aside0.mk hl
    have hl' : (l1.length : Int) = (l2.length : Int) := by omega
    clear hl
    go_enter Try.func81, Try.ntmps81
    go_wp2
    clear hl'
    go_loopg [17] l1.length (fun kq v9 w' => ∃ (j : Nat) (x9 : Int), v9 = .int .i64 x9 ∧ Aside0 (x9 = (j : Int) ∧ j + kq = l1.length) ∧ Aside0 (eqfB l1 l2 = allF l1 l2 kq j) ∧ Aside0 (Below w.heap.size w w'))
    case atStart => exact ⟨0, 0, rfl, ⟨rfl, by omega⟩, HR, HB⟩
    case round =>
      clear HR HB
      obtain ⟨j, x9, rfl, HX, HR, HB⟩ := hrel
      cases gk with
      | zero =>
        have hx : decide (x9 < (l1.length : Int)) = false := decide_eq_false (by have := HX.out; omega)
        have hx2 : decide (x9 < (l2.length : Int)) = false := decide_eq_false (by have := HX.out; have := HL2.out; omega)
        go_wp2
        go_ret
        exact ⟨by rw [HR.out]; rfl, HB.out⟩
      | succ k1 =>
        have h0 : 0 ≤ x9 := by have := HX.out.1; omega
        have h1 : x9 < (l1.length : Int) := by have := HX.out; omega
        have h2 : x9 < (l2.length : Int) := by have := HL2.out; omega
        have hw : IntKind.i64.wrap (x9 + 1) = x9 + 1 := by rw [IntKind.wrap_i64]; omega
        have HRN := Aside0.mk (show eqfB l1 l2 = (likeB (rd_T53 l1 x9) (rd_T53 l2 x9) && allF l1 l2 k1 (j + 1)) by rw [HR.out, HX.out.1]; rfl)
        obtain ⟨ad1, e1, hx0, hx1, hx2, hx3, hx4, hx5⟩ := at_T53 HR1.out x9 h0 h1
        obtain ⟨ad2, e2, hy0, hy1, hy2, hy3, hy4, hy5⟩ := at_T53 HR2.out x9 h0 h2
        cases e1
        cases e2
        replace hx0 := (HB.out.cell (World.block_lt_of_cell? w _ hx0)).trans hx0
        replace hy0 := (HB.out.cell (World.block_lt_of_cell? w _ hy0)).trans hy0
        replace hx1 := (HB.out.cell (World.block_lt_of_cell? w _ hx1)).trans hx1
        replace hy1 := (HB.out.cell (World.block_lt_of_cell? w _ hy1)).trans hy1
        replace hx2 := (HB.out.cell (World.block_lt_of_cell? w _ hx2)).trans hx2
        replace hy2 := (HB.out.cell (World.block_lt_of_cell? w _ hy2)).trans hy2
        replace hx3 := (HB.out.cell (World.block_lt_of_cell? w _ hx3)).trans hx3
        replace hy3 := (HB.out.cell (World.block_lt_of_cell? w _ hy3)).trans hy3
        replace hx4 := (HB.out.cell (World.block_lt_of_cell? w _ hx4)).trans hx4
        replace hy4 := (HB.out.cell (World.block_lt_of_cell? w _ hy4)).trans hy4
        replace hx5 := (HB.out.cell (World.block_lt_of_cell? w _ hx5)).trans hx5
        replace hy5 := (HB.out.cell (World.block_lt_of_cell? w _ hy5)).trans hy5
        generalize rd_T53 l1 x9 = o at *
        generalize rd_T53 l2 x9 = p at *
        have hz0 : ∀ ob : Obj, (wr.alloc ob).cell? _ = _ := fun ob => ((below_alloc (Below.refl wr.heap.size wr) ob).cell (World.block_lt_of_cell? wr _ hy0)).trans hy0
        have hz1 : ∀ ob : Obj, (wr.alloc ob).cell? _ = _ := fun ob => ((below_alloc (Below.refl wr.heap.size wr) ob).cell (World.block_lt_of_cell? wr _ hy1)).trans hy1
        have hz2 : ∀ ob : Obj, (wr.alloc ob).cell? _ = _ := fun ob => ((below_alloc (Below.refl wr.heap.size wr) ob).cell (World.block_lt_of_cell? wr _ hy2)).trans hy2
        have hz3 : ∀ ob : Obj, (wr.alloc ob).cell? _ = _ := fun ob => ((below_alloc (Below.refl wr.heap.size wr) ob).cell (World.block_lt_of_cell? wr _ hy3)).trans hy3
        have hz4 : ∀ ob : Obj, (wr.alloc ob).cell? _ = _ := fun ob => ((below_alloc (Below.refl wr.heap.size wr) ob).cell (World.block_lt_of_cell? wr _ hy4)).trans hy4
        have hz5 : ∀ ob : Obj, (wr.alloc ob).cell? _ = _ := fun ob => ((below_alloc (Below.refl wr.heap.size wr) ob).cell (World.block_lt_of_cell? wr _ hy5)).trans hy5
        have p1 := eq_true h0
        have q1 := eq_true h1
        have q2 := eq_true h2
        have HLK := Aside0.mk (HLK.out o p)
        generalize likeB o p = lb at *
        go_wp2_with (first
          | (go_at_call 82; (with_reducible refine (HLK.out _).mono ?_); rintro e w' ⟨rfl, hb⟩; have HB := Aside0.mk (below_step (below_alloc (below_alloc HB.out (.cells #[.int .i64 o.f0, .int .i64 o.f1, .int .i64 o.f2, .int .i64 o.f3, .int .i64 o.f4, .int .u64 o.f5] 53)) (.cells #[.int .i64 p.f0, .int .i64 p.f1, .int .i64 p.f2, .int .i64 p.f3, .int .i64 p.f4, .int .u64 p.f5] 53)) hb)))
        all_goals (first | (go_ret; exact ⟨by rw [HRN.out, show lb = false by first | assumption | (simpa using (show (!lb) = true by assumption))]; rfl, HB.out⟩) | skip)
        all_goals go_roundg k1
        all_goals (first | (case measure => have := HX.out; omega) | skip)
        all_goals (case rel => exact ⟨j + 1, _, rfl, ⟨by have := HX.out; omega, by have := HX.out.2; omega⟩, ⟨by rw [HRN.out, show lb = true by first | assumption | (simpa using (show (!lb) = false by assumption))]; rfl⟩, HB⟩)
  · have HR := Aside0.mk (show eqfB l1 l2 = false by unfold eqfB; rw [decide_eq_false hl, Bool.false_and])
    have hl' : ¬ (l1.length : Int) = (l2.length : Int) := by omega
    go_enter Try.func81, Try.ntmps81
    go_wp2
    go_ret
    exact ⟨by rw [HR.out]; rfl, HB.out⟩
/-! ### trace.Same, Draws, Words -/
def spanB (x y : S38) : Bool := x.f0 == y.f0 && (x.f1 == y.f1 && (x.f2 == y.f2))
def allS (l1 l2 : List S38) : Nat → Nat → Bool
  | 0, _ => true
  | k + 1, j => spanB (rd_T38 l1 (j : Int)) (rd_T38 l2 (j : Int)) && allS l1 l2 k (j + 1)
def spansB (l1 l2 : List S38) : Bool := decide (l1.length = l2.length) && allS l1 l2 l1.length 0
theorem span_l0 (l1 l2 : List S38) (hl : l1.length = l2.length) (hL : l1.length ≤ 140737488351232) : ∀ k j, j + k = l1.length → api_Span.l0 (k + 1) l1 l2 (l1.length : Int) (j : Int) = some (allS l1 l2 k j)
  | 0, j, h => by
    simp only [api_Span.l0]
    rw [if_neg (by omega)]; rfl
  | k + 1, j, h => by
    rw [api_Span.l0]
    rw [if_pos (by omega), if_pos (by omega), if_pos (by omega), if_pos (by omega), w64 (by omega) (by omega), show (j : Int) + 1 = ((j + 1 : Nat) : Int) by omega, span_l0 l1 l2 hl hL k (j + 1) (by omega)]
    have e : (!(((rd_T38 l1 (j : Int)).f0) == ((rd_T38 l2 (j : Int)).f0)) || (!(((rd_T38 l1 (j : Int)).f1) == ((rd_T38 l2 (j : Int)).f1)) || (!(((rd_T38 l1 (j : Int)).f2) == ((rd_T38 l2 (j : Int)).f2))))) = !spanB (rd_T38 l1 (j : Int)) (rd_T38 l2 (j : Int)) := by unfold spanB; simp [Bool.not_and]
    rw [e, allS]
    cases spanB (rd_T38 l1 (j : Int)) (rd_T38 l2 (j : Int)) <;> simp
theorem spans_eq (l1 l2 : List S38) (hL : l1.length ≤ 140737488351232) : api_Span.f (l1.length + 1) l1 l2 = some (spansB l1 l2) := by
  unfold api_Span.f spansB
  by_cases hl : l1.length = l2.length
  · rw [if_pos (by omega), decide_eq_true hl, Bool.true_and]
    exact span_l0 l1 l2 hl hL l1.length 0 (by omega)
  · rw [if_neg (by omega), decide_eq_false hl, Bool.false_and]
def sameB (n1 : Int) (l1 : List S53) (s1 : List S38) (n2 : Int) (l2 : List S53) (s2 : List S38) : Bool := (n1 == n2) && (spansB s1 s2 && eqfB l1 l2)
set_option maxHeartbeats 8000000 in
set_option maxRecDepth 100000 in
theorem same_c (n1 : Int) (A1 : Option Addr) (c1 : Nat) (l1 : List S53) (B1 : Option Addr) (d1 : Nat) (s1 : List S38) (n2 : Int) (A2 : Option Addr) (c2 : Nat) (l2 : List S53) (B2 : Option Addr) (d2 : Nat) (s2 : List S38) (w : World) (hr1 : Kd.C k53 w A1 l1.length l1) (hc1 : l1.length ≤ c1) (hs1 : Kd.C k38 w B1 s1.length s1) (hd1 : s1.length ≤ d1) (hr2 : Kd.C k53 w A2 l2.length l2) (hc2 : l2.length ≤ c2) (hs2 : Kd.C k38 w B2 s2.length s2) (hd2 : s2.length ≤ d2) (hL : l1.length ≤ 140737488351232) (hS : s1.length ≤ 140737488351232) :
    Calls Try.prog 23 #[.agg #[.int .i64 n1, .slice A1 l1.length c1, .slice B1 s1.length d1], .agg #[.int .i64 n2, .slice A2 l2.length c2, .slice B2 s2.length d2]] w fun e w' => e = .returned (.bool (sameB n1 l1 s1 n2 l2 s2)) ∧ Below w.heap.size w w' := by
  have hu1 := Try.underlying25
  have HR1 := Aside0.mk hr1
  have HR2 := Aside0.mk hr2
  have HS1 := Aside0.mk hs1
  have HS2 := Aside0.mk hs2
  have HC := Aside0.mk (And.intro hc1 (And.intro hc2 (And.intro hd1 hd2)))
  clear hr1 hr2 hs1 hs2 hc1 hc2 hd1 hd2
  have HB := Aside0.mk (Below.refl w.heap.size w)
  have HR := Aside0.mk (show sameB n1 l1 s1 n2 l2 s2 = ((n1 == n2) && (spansB s1 s2 && eqfB l1 l2)) from rfl)
  have HSP := Aside0.mk (spans_eq s1 s2 hS)
  have HEQ := Aside0.mk (fun w0 h1 h2 h3 h4 => eqf_c A1 c1 l1 A2 c2 l2 w0 h1 h2 h3 h4 hL)
  generalize spansB s1 s2 = bs at *
  generalize eqfB l1 l2 = be at *
  obtain ⟨bn, en⟩ : ∃ q : Bool, (n1 == n2) = q := ⟨_, rfl⟩
  rw [en] at HR
  go_enter Try.func23, Try.ntmps23
  go_wp2_with (first
    | ((with_reducible refine gate_dst (N := 2) rfl ?_); refine box_event ?hg (N := 2) ?hd (cs := #[.int .i64 n1, .slice A1 l1.length c1, .slice B1 s1.length d1]) (t := 25) ?hr ?_; (case hd => rfl); (case hg => rfl); (case hr => first | (go_simp; done) | (go_simp; rfl)); intro gb_a hg w_a hbox hb; subst hg; have HB := Aside0.mk (below_step HB.out hb); have BA := Aside0.mk hbox; clear hb hbox)
    | ((with_reducible refine gate_dst (N := 3) rfl ?_); refine box_event ?hg (N := 3) ?hd (cs := #[.int .i64 n2, .slice A2 l2.length c2, .slice B2 s2.length d2]) (t := 25) ?hr ?_; (case hd => rfl); (case hg => rfl); (case hr => first | (go_simp; done) | (go_simp; rfl)); intro gb_b hg w_b hbox hb; subst hg; have BA := Aside0.mk (blk_below BA.out hb); have HB := Aside0.mk (below_step HB.out hb); have BB := Aside0.mk hbox; have ha0 : w_b.cell? ⟨w.heap.size, 0, none⟩ = some (.int .i64 n1) := (blk_cell BA.out 0).trans rfl; have ha1 : w_b.cell? ⟨w.heap.size, 1, none⟩ = some (.slice A1 l1.length c1) := (blk_cell BA.out 1).trans rfl; have ha2 : w_b.cell? ⟨w.heap.size, 2, none⟩ = some (.slice B1 s1.length d1) := (blk_cell BA.out 2).trans rfl; have hb0 : w_b.cell? ⟨w_a.heap.size, 0, none⟩ = some (.int .i64 n2) := (blk_cell BB.out 0).trans rfl; have hb1 : w_b.cell? ⟨w_a.heap.size, 1, none⟩ = some (.slice A2 l2.length c2) := (blk_cell BB.out 1).trans rfl; have hb2 : w_b.cell? ⟨w_a.heap.size, 2, none⟩ = some (.slice B2 s2.length d2) := (blk_cell BB.out 2).trans rfl; have haq1 : ∀ n : Nat, (w_b.drewN n).cell? ⟨w.heap.size, 1, none⟩ = some (.slice A1 l1.length c1) := fun n => (blk_cell (blk_drewN BA.out n) 1).trans rfl; have hbq1 : ∀ n : Nat, (w_b.drewN n).cell? ⟨w_a.heap.size, 1, none⟩ = some (.slice A2 l2.length c2) := fun n => (blk_cell (blk_drewN BB.out n) 1).trans rfl; clear hb hbox)
    | (go_at_call 80; (with_reducible refine (api_Span.calls _ B1 d1 s1 B2 d2 s2 _ _ (Kd.C_below HS1.out HB.out) HC.out.2.2.1 (Kd.C_below HS2.out HB.out) HC.out.2.2.2 HSP.out).mono ?_); rintro e w' ⟨rfl, ⟨⟨n3, rfl⟩⟩⟩; have HB := Aside0.mk (pw_below_drewN HB.out n3))
    | (go_at_call 81; (with_reducible refine (HEQ.out _ (Kd.C_below HR1.out HB.out) HC.out.1 (Kd.C_below HR2.out HB.out) HC.out.2.1).mono ?_); rintro e w' ⟨rfl, hb⟩; have HB := Aside0.mk (below_step HB.out hb)))
  all_goals (go_ret; exact ⟨by rw [HR.out]; simp [*], HB.out⟩)
end Go.Proofs.Ytphdlidaigalkaa.SameT
