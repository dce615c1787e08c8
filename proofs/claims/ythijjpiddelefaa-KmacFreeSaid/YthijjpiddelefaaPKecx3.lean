/- Plain Lean functions with the answers of Go functions, and proofs that the Go code comes to them. Written by a program of this session's that runs the kit's print.py with contracts proved by hand handed to it; not trusted: Lean checks it. No condition. -/
import Derived.Test.YthijjpiddelefaaPKecx0
namespace Go.Proofs.Ythijjpiddelefaa.PKec
open Go.RowKit  Go.Proofs.YthijjpiddelefaaW.PrintWords Go.Proofs.YthijjpiddelefaaW.PrintLast Go.Proofs.YthijjpiddelefaaW.PrintMore
attribute [local go_sem] max2_int min2_int max_two min_two max_three min_three max_four min_four   -- for this text's walks alone
set_option linter.unusedVariables false
set_option linter.unusedSimpArgs false

/-! ### visorref13_Bit: function 125 -/
def visorref13_Bit.l0 : Nat → Int → List Bool → Int → Option (Bool)
  | 0, _, _, _ => none
  | k + 1, x0, x3, x4 => if x4 < (Int.tmod x0 255) then (if 7 < (x3.length : Int) then ((some (([false] : List Bool) : List Bool)).bind fun y136 => (if 7 ≤ (x3.length : Int) then ((some (x3.take 7 : List Bool)).bind fun y139 => (if y136.length + y139.length < 140737488355328 then ((some (y136 ++ y139 : List Bool)).bind fun y143 => (if 0 < (y143.length : Int) then ((some (y143.set (0 : Int).toNat (rdOf false x3 7) : List Bool)).bind fun y146 => (if 4 < (y143.length : Int) then ((some (y146.set (4 : Int).toNat ((rdOf false y146 4) != (rdOf false x3 7)) : List Bool)).bind fun y148 => (if 5 < (y143.length : Int) then ((some (y148.set (5 : Int).toNat ((rdOf false y148 5) != (rdOf false x3 7)) : List Bool)).bind fun y150 => (if 6 < (y143.length : Int) then (visorref13_Bit.l0 k x0 (y150.set (6 : Int).toNat ((rdOf false y150 6) != (rdOf false x3 7))) (wrap64 (x4 + 1))) else (none))) else (none))) else (none))) else (none))) else (none))) else (none))) else (none)) else (if 0 < (x3.length : Int) then (some (rdOf false x3 0)) else (none))
def visorref13_Bit.f (k : Nat) (a0 : Int) : Option (Bool) := visorref13_Bit.l0 k a0 (([true, false, false, false, false, false, false, false] : List Bool)) 0
theorem visorref13_Bit.mono_l : ∀ k, (∀ y0 y1 y2, LeO (visorref13_Bit.l0 k y0 y1 y2) (visorref13_Bit.l0 (k + 1) y0 y1 y2))
  | 0 => fun _ _ _ r h => by simp [visorref13_Bit.l0] at h
  | k + 1 => by
    have ih0 := visorref13_Bit.mono_l k
    · intro y0 y1 y2
      unfold visorref13_Bit.l0
      repeat' first
      | (with_reducible exact ih0 _ _ _)
      | (with_reducible exact LeO.refl _)
      | (with_reducible exact LeO.none _)
      | (with_reducible refine LeO.ite ?_ ?_)
      | (with_reducible refine LeO.bind ?_ (fun _ => ?_))
      | exact ih0 _ _ _
      | exact LeO.none _
      | refine LeO.ite ?_ ?_
      | refine LeO.bind ?_ (fun _ => ?_)
theorem visorref13_Bit.mono : ∀ a0 k, LeO (visorref13_Bit.f k a0) (visorref13_Bit.f (k + 1) a0) := by
  intro a0 k
  have ih0 := visorref13_Bit.mono_l k
  unfold visorref13_Bit.f
  repeat' first
      | (with_reducible exact ih0 _ _ _)
      | (with_reducible exact LeO.refl _)
      | (with_reducible exact LeO.none _)
      | (with_reducible refine LeO.ite ?_ ?_)
      | (with_reducible refine LeO.bind ?_ (fun _ => ?_))
      | exact ih0 _ _ _
      | exact LeO.none _
      | refine LeO.ite ?_ ?_
      | refine LeO.bind ?_ (fun _ => ?_)
set_option maxHeartbeats 8000000 in
set_option maxRecDepth 100000 in
theorem visorref13_Bit.calls (k : Nat) (a0 : Int) (r : Bool) (w : World) (h : visorref13_Bit.f k a0 = some r) :
    Calls Try.prog 125 #[.int .i64 a0] w fun e w' => e = .returned (.bool r) ∧ Below w.heap.size w w' := by
  have HB := Aside0.mk (Below.refl w.heap.size w)
  have H : (visorref13_Bit.l0 k a0 (([true, false, false, false, false, false, false, false] : List Bool)) 0) = some r := h
  clear h
  obtain ⟨y132, hy132⟩ : ∃ y_ : List Bool, y_ = (([true, false, false, false, false, false, false, false] : List Bool)) := ⟨_, rfl⟩
  replace H : (visorref13_Bit.l0 k a0 y132 0) = some r := by first | (rw [hy132]; with_reducible exact H) | (have H2_ := (Option.bind_some _ _).symm.trans H; rw [hy132]; with_reducible exact H2_) | (have H2_ := (Option.bind_some _ _).symm.trans H; with_reducible exact H2_) | with_reducible exact H | (rw [hy132]; exact H) | exact H
  have Ny132 := Aside0.mk hy132
  clear hy132
  have H' := Aside0.mk H
  clear H
  go_enter Try.func125, Try.ntmps125
  go_wp2_with (first | ((with_reducible refine gate_dst (N := 6) rfl ?_); refine Kd.R_lit Kd.bool _ 4 ?hg (N := 6) ?hd (xs := ([true, false, false, false, false, false, false, false] : List Bool)) (inner := [.bool true, .bool false, .bool false, .bool false, .bool false, .bool false, .bool false, .bool false]) (ok := fun _ => True) (okp := fun _ => True) ?hr ?hp (fun _ hk => hk) trivial (Below.refl _ _) (Nat.le_refl _) (by simp) ?_; (case hd => rfl); (case hg => rfl); (case hr => first | (go_simp; done) | (go_simp; rfl)); (case hp => exact (Reps.one (show Kd.M Kd.bool _ _ _ true [.bool true] from rfl) (Reps.one (show Kd.M Kd.bool _ _ _ false [.bool false] from rfl) (Reps.one (show Kd.M Kd.bool _ _ _ false [.bool false] from rfl) (Reps.one (show Kd.M Kd.bool _ _ _ false [.bool false] from rfl) (Reps.one (show Kd.M Kd.bool _ _ _ false [.bool false] from rfl) (Reps.one (show Kd.M Kd.bool _ _ _ false [.bool false] from rfl) (Reps.one (show Kd.M Kd.bool _ _ _ false [.bool false] from rfl) (Reps.one (show Kd.M Kd.bool _ _ _ false [.bool false] from rfl) (Reps.none _ _)))))))))); intro v133 w2 ho3 hb hg_ hnew_; clear hg_ hnew_; (first | rw [← Ny132.out] at ho3 | (simp only [Int.reduceToNat] at ho3; rw [← Ny132.out] at ho3)); have n0_ := Aside0.mk (Kd.R_lower ho3 (below_size (by repeat (first | (with_reducible first | exact HB.out | apply below_alloc | apply pw_below_drewN | apply below_drew1) | exact HB.out)))); have n1_ := Aside0.mk (below_step (by repeat (first | (with_reducible first | exact HB.out | apply below_alloc | apply pw_below_drewN | apply below_drew1) | exact HB.out)) hb); clear HB; have HO134 := n0_; have HB := n1_; clear n0_ n1_; clear hb ho3))
  go_loopg [3, 4] k (fun kq v3 v4 w' => ∃ (x3_1 : List Bool) (x4_1 : Int), v4 = .int .i64 x4_1 ∧ Aside0 (visorref13_Bit.l0 kq a0 x3_1 x4_1 = some r) ∧ Aside0 (kq ≤ k) ∧ Aside0 (Kd.R Kd.bool 4 w' w.heap.size (fun _ => True) v3 x3_1) ∧ Aside0 (Below w.heap.size w w'))
  case atStart => exact ⟨(y132), (0), (by first | rfl | (simp; done) | (simp [*]; done)), H', ⟨Nat.le_refl _⟩, ⟨by (with_reducible repeat (first | apply Kd.R_alloc | apply Kd.R_drewN | apply Kd.R_drew)); exact HO134.out⟩, ⟨by repeat (first | (with_reducible first | exact HB.out | apply below_alloc | apply pw_below_drewN | apply below_drew1) | exact HB.out)⟩⟩
  case round =>
    clear H'
    try clear c1
    try clear p2
    obtain ⟨x3_1, x4_1, rfl, HA, HK1, HO_3, HB⟩ := hrel
    cases gk with
    | zero => exact absurd HA.out (by simp [visorref13_Bit.l0])
    | succ k1 =>
      have H := HA.out
      clear HA
      simp only [visorref13_Bit.l0] at H
      by_cases c4 : x4_1 < (Int.tmod a0 255)
      · rw [if_pos c4] at H
        have c4b0 : decide (x4_1 < (Int.tmod a0 255)) = true := decide_eq_true c4
        clear c4
        by_cases c5 : 7 < (x3_1.length : Int)
        · rw [if_pos c5] at H
          have c5b0 : decide (7 < (x3_1.length : Int)) = true := decide_eq_true c5
          have c5b1 : decide (7 < x3_1.length) = true := decide_eq_true (by omega)
          clear c5
          obtain ⟨y136, hy136⟩ : ∃ y_ : List Bool, y_ = (([false] : List Bool)) := ⟨_, rfl⟩
          replace H : (if 7 ≤ (x3_1.length : Int) then ((some (x3_1.take 7 : List Bool)).bind fun y139 => (if y136.length + y139.length < 140737488355328 then ((some (y136 ++ y139 : List Bool)).bind fun y143 => (if 0 < (y143.length : Int) then ((some (y143.set (0 : Int).toNat (rdOf false x3_1 7) : List Bool)).bind fun y146 => (if 4 < (y143.length : Int) then ((some (y146.set (4 : Int).toNat ((rdOf false y146 4) != (rdOf false x3_1 7)) : List Bool)).bind fun y148 => (if 5 < (y143.length : Int) then ((some (y148.set (5 : Int).toNat ((rdOf false y148 5) != (rdOf false x3_1 7)) : List Bool)).bind fun y150 => (if 6 < (y143.length : Int) then (visorref13_Bit.l0 k1 a0 (y150.set (6 : Int).toNat ((rdOf false y150 6) != (rdOf false x3_1 7))) (wrap64 (x4_1 + 1))) else (none))) else (none))) else (none))) else (none))) else (none))) else (none)) = some r := by first | (rw [hy136]; with_reducible exact H) | (have H2_ := (Option.bind_some _ _).symm.trans H; rw [hy136]; with_reducible exact H2_) | (have H2_ := (Option.bind_some _ _).symm.trans H; with_reducible exact H2_) | with_reducible exact H | (rw [hy136]; exact H) | exact H
          have Ny136 := Aside0.mk hy136
          clear hy136
          by_cases c6 : 7 ≤ (x3_1.length : Int)
          · rw [if_pos c6] at H
            have c6b0 := eq_true c6
            have c6b1 : decide (7 ≤ (x3_1.length : Int)) = true := decide_eq_true c6
            clear c6
            obtain ⟨y139, hy139⟩ : ∃ y_ : List Bool, y_ = (x3_1.take 7) := ⟨_, rfl⟩
            replace H : (if y136.length + y139.length < 140737488355328 then ((some (y136 ++ y139 : List Bool)).bind fun y143 => (if 0 < (y143.length : Int) then ((some (y143.set (0 : Int).toNat (rdOf false x3_1 7) : List Bool)).bind fun y146 => (if 4 < (y143.length : Int) then ((some (y146.set (4 : Int).toNat ((rdOf false y146 4) != (rdOf false x3_1 7)) : List Bool)).bind fun y148 => (if 5 < (y143.length : Int) then ((some (y148.set (5 : Int).toNat ((rdOf false y148 5) != (rdOf false x3_1 7)) : List Bool)).bind fun y150 => (if 6 < (y143.length : Int) then (visorref13_Bit.l0 k1 a0 (y150.set (6 : Int).toNat ((rdOf false y150 6) != (rdOf false x3_1 7))) (wrap64 (x4_1 + 1))) else (none))) else (none))) else (none))) else (none))) else (none)) = some r := by first | (rw [hy139]; with_reducible exact H) | (have H2_ := (Option.bind_some _ _).symm.trans H; rw [hy139]; with_reducible exact H2_) | (have H2_ := (Option.bind_some _ _).symm.trans H; with_reducible exact H2_) | with_reducible exact H | (rw [hy139]; exact H) | exact H
            have Ny139 := Aside0.mk hy139
            clear hy139
            by_cases c7 : y136.length + y139.length < 140737488355328
            · rw [if_pos c7] at H
              have LMc7 := Aside0.mk c7
              clear c7
              obtain ⟨y143, hy143⟩ : ∃ y_ : List Bool, y_ = (y136 ++ y139) := ⟨_, rfl⟩
              replace H : (if 0 < (y143.length : Int) then ((some (y143.set (0 : Int).toNat (rdOf false x3_1 7) : List Bool)).bind fun y146 => (if 4 < (y143.length : Int) then ((some (y146.set (4 : Int).toNat ((rdOf false y146 4) != (rdOf false x3_1 7)) : List Bool)).bind fun y148 => (if 5 < (y143.length : Int) then ((some (y148.set (5 : Int).toNat ((rdOf false y148 5) != (rdOf false x3_1 7)) : List Bool)).bind fun y150 => (if 6 < (y143.length : Int) then (visorref13_Bit.l0 k1 a0 (y150.set (6 : Int).toNat ((rdOf false y150 6) != (rdOf false x3_1 7))) (wrap64 (x4_1 + 1))) else (none))) else (none))) else (none))) else (none)) = some r := by first | (rw [hy143]; with_reducible exact H) | (have H2_ := (Option.bind_some _ _).symm.trans H; rw [hy143]; with_reducible exact H2_) | (have H2_ := (Option.bind_some _ _).symm.trans H; with_reducible exact H2_) | with_reducible exact H | (rw [hy143]; exact H) | exact H
              have Ny143 := Aside0.mk hy143
              clear hy143
              by_cases c8 : 0 < (y143.length : Int)
              · rw [if_pos c8] at H
                have c8b0 : decide (0 < (y143.length : Int)) = true := decide_eq_true c8
                have c8b1 : decide (0 < y143.length) = true := decide_eq_true (by omega)
                clear c8
                obtain ⟨y146, hy146⟩ : ∃ y_ : List Bool, y_ = (y143.set (0 : Int).toNat (rdOf false x3_1 7)) := ⟨_, rfl⟩
                replace H : (if 4 < (y143.length : Int) then ((some (y146.set (4 : Int).toNat ((rdOf false y146 4) != (rdOf false x3_1 7)) : List Bool)).bind fun y148 => (if 5 < (y143.length : Int) then ((some (y148.set (5 : Int).toNat ((rdOf false y148 5) != (rdOf false x3_1 7)) : List Bool)).bind fun y150 => (if 6 < (y143.length : Int) then (visorref13_Bit.l0 k1 a0 (y150.set (6 : Int).toNat ((rdOf false y150 6) != (rdOf false x3_1 7))) (wrap64 (x4_1 + 1))) else (none))) else (none))) else (none)) = some r := by first | (rw [hy146]; with_reducible exact H) | (have H2_ := (Option.bind_some _ _).symm.trans H; rw [hy146]; with_reducible exact H2_) | (have H2_ := (Option.bind_some _ _).symm.trans H; with_reducible exact H2_) | with_reducible exact H | (rw [hy146]; exact H) | exact H
                have Ny146 := Aside0.mk hy146
                clear hy146
                by_cases c10 : 4 < (y143.length : Int)
                · rw [if_pos c10] at H
                  have c10b0 : decide (4 < (y143.length : Int)) = true := decide_eq_true c10
                  have c10b1 : decide (4 < y143.length) = true := decide_eq_true (by omega)
                  clear c10
                  obtain ⟨y148, hy148⟩ : ∃ y_ : List Bool, y_ = (y146.set (4 : Int).toNat ((rdOf false y146 4) != (rdOf false x3_1 7))) := ⟨_, rfl⟩
                  replace H : (if 5 < (y143.length : Int) then ((some (y148.set (5 : Int).toNat ((rdOf false y148 5) != (rdOf false x3_1 7)) : List Bool)).bind fun y150 => (if 6 < (y143.length : Int) then (visorref13_Bit.l0 k1 a0 (y150.set (6 : Int).toNat ((rdOf false y150 6) != (rdOf false x3_1 7))) (wrap64 (x4_1 + 1))) else (none))) else (none)) = some r := by first | (rw [hy148]; with_reducible exact H) | (have H2_ := (Option.bind_some _ _).symm.trans H; rw [hy148]; with_reducible exact H2_) | (have H2_ := (Option.bind_some _ _).symm.trans H; with_reducible exact H2_) | with_reducible exact H | (rw [hy148]; exact H) | exact H
                  have Ny148 := Aside0.mk hy148
                  clear hy148
                  by_cases c12 : 5 < (y143.length : Int)
                  · rw [if_pos c12] at H
                    have c12b0 : decide (5 < (y143.length : Int)) = true := decide_eq_true c12
                    have c12b1 : decide (5 < y143.length) = true := decide_eq_true (by omega)
                    clear c12
                    obtain ⟨y150, hy150⟩ : ∃ y_ : List Bool, y_ = (y148.set (5 : Int).toNat ((rdOf false y148 5) != (rdOf false x3_1 7))) := ⟨_, rfl⟩
                    replace H : (if 6 < (y143.length : Int) then (visorref13_Bit.l0 k1 a0 (y150.set (6 : Int).toNat ((rdOf false y150 6) != (rdOf false x3_1 7))) (wrap64 (x4_1 + 1))) else (none)) = some r := by first | (rw [hy150]; with_reducible exact H) | (have H2_ := (Option.bind_some _ _).symm.trans H; rw [hy150]; with_reducible exact H2_) | (have H2_ := (Option.bind_some _ _).symm.trans H; with_reducible exact H2_) | with_reducible exact H | (rw [hy150]; exact H) | exact H
                    have Ny150 := Aside0.mk hy150
                    clear hy150
                    by_cases c14 : 6 < (y143.length : Int)
                    · rw [if_pos c14] at H
                      have c14b0 : decide (6 < (y143.length : Int)) = true := decide_eq_true c14
                      have c14b1 : decide (6 < y143.length) = true := decide_eq_true (by omega)
                      clear c14
                      obtain ⟨y152, hy152⟩ : ∃ y_ : List Bool, y_ = (y150.set (6 : Int).toNat ((rdOf false y150 6) != (rdOf false x3_1 7))) := ⟨_, rfl⟩
                      replace H : (visorref13_Bit.l0 k1 a0 y152 (wrap64 (x4_1 + 1))) = some r := by first | (rw [hy152]; with_reducible exact H) | (have H2_ := (Option.bind_some _ _).symm.trans H; rw [hy152]; with_reducible exact H2_) | (have H2_ := (Option.bind_some _ _).symm.trans H; with_reducible exact H2_) | with_reducible exact H | (rw [hy152]; exact H) | exact H
                      have Ny152 := Aside0.mk hy152
                      clear hy152
                      have H' := Aside0.mk H
                      clear H
                      obtain ⟨Ao16, co16, eo16⟩ := Kd.R_slice HO_3.out
                      subst eo16
                      have p135 : 0 ≤ (7 : Int) := (by omega)
                      have q135 : 7 < (x3_1.length : Int) := of_decide_eq_true (by first | (with_reducible assumption) | assumption)
                      obtain ⟨ad135, e135, hx135_0⟩ := Kd.at_bool (Kd.R_reads' HO_3.out).2.2 7 p135 q135
                      cases e135
                      (try simp only [show (7 : Int).toNat = 7 from rfl, Nat.reduceMul, Nat.reduceEqDiff, Go.Addr.add, ↓reduceIte] at hx135_0)
                      have qi135 : (7 < x3_1.length) = True := eq_true (by omega)
                      (try rw [show ((7 : Int)).toNat = 7 from rfl] at hx135_0)
                      replace p135 := eq_true p135
                      replace q135 := eq_true q135
                      go_wp2_with (first | ((with_reducible refine gate_dst (N := 16) rfl ?_); refine Kd.R_lit Kd.bool _ 4 ?hg (N := 16) ?hd (xs := ([false] : List Bool)) (inner := [.bool false]) (ok := fun _ => True) (okp := fun _ => True) ?hr ?hp (fun _ hk => hk) trivial (Below.refl _ _) (Nat.le_refl _) (by simp) ?_; (case hd => rfl); (case hg => rfl); (case hr => first | (go_simp; done) | (go_simp; rfl)); (case hp => exact (Reps.one (show Kd.M Kd.bool _ _ _ false [.bool false] from rfl) (Reps.none _ _))); intro v137 w17 ho18 hb hg_ hnew_; clear hg_ hnew_; (first | rw [← Ny136.out] at ho18 | (simp only [Int.reduceToNat] at ho18; rw [← Ny136.out] at ho18)); have n0_ := Aside0.mk (Kd.R_elder' (by (with_reducible repeat (first | apply Kd.R_alloc | apply Kd.R_drewN | apply Kd.R_drew)); exact HO_3.out) (Kd.R_base ho18) hb); have n1_ := Aside0.mk (Kd.R_lower (Kd.R_new' ho18 (Kd.R_lt (by (with_reducible repeat (first | apply Kd.R_alloc | apply Kd.R_drewN | apply Kd.R_drew)); exact HO_3.out))) (below_size (by repeat (first | (with_reducible first | exact HB.out | apply below_alloc | apply pw_below_drewN | apply below_drew1) | exact HB.out)))); have n2_ := Aside0.mk (below_step (by repeat (first | (with_reducible first | exact HB.out | apply below_alloc | apply pw_below_drewN | apply below_drew1) | exact HB.out)) hb); clear HO_3; clear HB; have HO_3 := n0_; have HO138 := n1_; have HB := n2_; clear n0_ n1_ n2_; clear hb ho18; have q19 : (7 : Int) ≤ ((x3_1.length : Int) : Int) := of_decide_eq_true (by first | (with_reducible assumption) | assumption); obtain ⟨i019, hi019, _, hsz19, _⟩ := info_parts info4; have hroom19 : x3_1.length ≤ co16 := (Kd.R_reads' HO_3.out).2.1; have hC19 : Kd.C Kd.bool _ (some ad135) x3_1.length x3_1 := (Kd.R_reads' HO_3.out).2.2; have hcut19 := cut_to (P := Try.prog) 109 4 .i64 Try.underlying109 hi019 (some ad135) x3_1.length co16 7 (by omega) q19 hroom19; have hr19 := Kd.C_take (m := 7) hC19 (by omega); have hy19 : y139.length = (7 : Int).toNat := (by rw [Ny139.out, List.length_take]; omega); rw [← Ny139.out] at hr19; rw [← hy19] at hcut19; have HR142 := Aside0.mk hr19; have HC142 := Aside0.mk (show y139.length ≤ co16 from by omega); clear hr19 hC19 hroom19 hi019 hsz19; have KY19 := Aside0.mk hy19; clear hy19; have KL19 := Aside0.mk (show 7 ≤ x3_1.length from by omega); replace q19 := eq_true q19) | ((with_reducible refine gate_builtin (b := .append) (xs := #[.tmp 16, .tmp 18]) rfl ?_); at_builtin; refine Kd.R_append_rows Kd.bool (w0 := w) w.heap.size rfl (.tmp 16) (.tmp 18) 109 4 (.bool false) 1 rfl Try.underlying109 info4 rfl (by decide) (by omega) v137 y136 y139 _ _ _ (fun k_ => some k_ ≠ (.slice (some ad135) x3_1.length co16 : Value).ownBlock) (fun _ => False) rfl rfl ?aO ?aR (fun _ _ h => h) (fun _ h => h.elim) ?aF ?aB ?aS ?aL ?_; (case aR => repeat (first | exact (by repeat (first | (with_reducible exact HR142.out) | (with_reducible refine Kd.C_alloc ?_ _) | (with_reducible refine Kd.C_drewN ?_ _) | (with_reducible refine Kd.C_drew ?_) | exact HR142.out)) | (with_reducible refine Kd.C_alloc ?_ _) | (with_reducible refine Kd.C_drewN ?_ _) | (with_reducible refine Kd.C_drew ?_))); (case aB => exact (by repeat (first | (with_reducible first | exact HB.out | apply below_alloc | apply pw_below_drewN | apply below_drew1) | exact HB.out))); (case aF => exact (fun k_ hk => Kd.fresh' (Kd.R_lt (by (with_reducible repeat (first | apply Kd.R_alloc | apply Kd.R_drewN | apply Kd.R_drew)); exact HO_3.out)) k_ hk)); (case aO => exact (by (with_reducible repeat (first | apply Kd.R_alloc | apply Kd.R_drewN | apply Kd.R_drew)); exact Kd.R_mono HO138.out (fun _ hk => hk.2))); (case aS => exact (below_size (by repeat (first | (with_reducible first | exact HB.out | apply below_alloc | apply pw_below_drewN | apply below_drew1) | exact HB.out)))); (case aL => have := LMc7.out; omega); intro v144 w20 ho hb hg hat; rw [← Ny143.out] at ho; have n0_ := Aside0.mk (Kd.R_after (ok := (fun _ => True)) (by (with_reducible repeat (first | apply Kd.R_alloc | apply Kd.R_drewN | apply Kd.R_drew)); exact HO_3.out) hg hat); have n1_ := Aside0.mk (hb); have n2_ := Aside0.mk ((show Kd.C Kd.bool w20 (some ad135) y139.length y139 from by rw [Ny139.out]; exact Kd.C_take (m := 7) ((Kd.R_reads' (Kd.R_after (ok := (fun _ => True)) (by (with_reducible repeat (first | apply Kd.R_alloc | apply Kd.R_drewN | apply Kd.R_drew)); exact HO_3.out) hg hat)).2.2) KL19.out)); have n3_ := Aside0.mk (ho); clear HO_3; clear HB; clear HR142; clear HO138; have HO_3 := n0_; have HB := n1_; have HR142 := n2_; have HO145 := n3_; clear n0_ n1_ n2_ n3_; clear ho hb hg hat; have p9 : 0 ≤ (0 : Int) := (by omega); have q9 : (0 : Int) < ((y143.length : Int) : Int) := of_decide_eq_true (by first | (with_reducible assumption) | assumption); have qi9 : (0 < y143.length) = True := eq_true (by omega); obtain ⟨go9, co9, eo9, gb9, gl9, cl9, HG9⟩ := Kd.R_form HO145.out (by omega); (first | cases eo9 | (injection eo9 with ea_ en_ ec_; (first | subst ea_ | (injection ea_ with ea_; subst ea_)); subst ec_; clear en_)); have GB9 := Aside0.mk gb9; have GG9 := Aside0.mk HG9; clear gb9 gl9 HG9; obtain ⟨hx9_0, hf9_0⟩ := Kd.R_celln false HO145.out (0 : Int) p9 q9; (try rw [show ((0 : Int)).toNat = 0 from rfl] at hx9_0); (try simp only [Nat.reduceMul, Nat.zero_mul, Nat.zero_add, Nat.reduceAdd] at hx9_0); (try rw [show ((0 : Int)).toNat = 0 from rfl] at hf9_0); (try simp only [Nat.reduceMul, Nat.zero_mul, Nat.zero_add, Nat.reduceAdd] at hf9_0); replace p9 := eq_true p9; replace q9 := eq_true q9; obtain ⟨hy21_, hz21_⟩ := Kd.R_celln false HO145.out (0 : Int) (by omega) (of_decide_eq_true (by first | (with_reducible assumption) | assumption)); (try simp only [Int.reduceToNat, Int.toNat_zero, Int.toNat_ofNat, Nat.reduceMul, Nat.zero_mul, Nat.zero_add] at hy21_ hz21_); (try rw [show ((0 : Int)).toNat = 0 from rfl] at hy21_); (try rw [show ((0 : Int)).toNat = 0 from rfl] at hz21_); have HP21 := Kd.R_putg HO145.out (0 : Int) (rdOf false x3_1 7)) | ((with_reducible refine gate_store (t := 4) (p := 22) rfl ?_); refine store_event (t := 4) (p := 22) (v := ?vo_w22) (w1 := (w20.setCell ⟨go9, (0 : Int).toNat, none⟩ (.bool (rdOf false x3_1 7)))) ?hg ?ho ?hn ?hr ?_; (case ho => rfl); (case hg => rfl); (case hn => rfl); (case hr => first | (go_simp; done) | (go_simp; rfl)); intro w22 hw; have hg : w20.grownBy w22 (some go9) := (by rw [hw]; exact HP21.2); have hp_ : Kd.R Kd.bool 4 w22 w.heap.size (fun k_ => some k_ ≠ (.slice (some ad135) x3_1.length co16 : Value).ownBlock) (.slice (some ⟨go9, 0, none⟩) y143.length co9) y146 := (by rw [hw, Ny146.out]; exact HP21.1); clear HP21; have n0_ := Aside0.mk (Kd.R_after (v := (.slice (some ⟨go9, 0, none⟩) y143.length co9)) (v1 := (.slice (some ⟨go9, 0, none⟩) y143.length co9)) (ok := (fun _ => True)) (by (with_reducible repeat (first | apply Kd.R_alloc | apply Kd.R_drewN | apply Kd.R_drew)); exact HO_3.out) hg (.inl rfl)); have n1_ := Aside0.mk (hp_); have n2_ := Aside0.mk ((by rw [hw]; exact below_set (HB.out) GB9.out : Below w.heap.size w w22)); have n3_ := Aside0.mk ((show Kd.C Kd.bool w22 (some ad135) y139.length y139 from by rw [Ny139.out]; exact Kd.C_take (m := 7) ((Kd.R_reads' (Kd.R_after (v := (.slice (some ⟨go9, 0, none⟩) y143.length co9)) (v1 := (.slice (some ⟨go9, 0, none⟩) y143.length co9)) (ok := (fun _ => True)) (by (with_reducible repeat (first | apply Kd.R_alloc | apply Kd.R_drewN | apply Kd.R_drew)); exact HO_3.out) hg (.inl rfl))).2.2) KL19.out)); clear HO_3; clear HO145; clear HB; clear HR142; have HO_3 := n0_; have HO145 := n1_; have HB := n2_; have HR142 := n3_; clear n0_ n1_ n2_ n3_; clear hg hw hp_; have p147 : 0 ≤ (4 : Int) := (by omega); have q147 : 4 < (y146.length : Int) := (by have h_ : (4 : Int) < ((y143.length : Int) : Int) := of_decide_eq_true (by first | (with_reducible assumption) | assumption); first | (have e_ := (Kd.R_reads' HO145.out).1; omega) | simpa only [Ny146.out, List.length_set] using h_); have ql147 : ((4 : Int) < ((y143.length : Int) : Int)) = True := eq_true (of_decide_eq_true (by first | (with_reducible assumption) | assumption)); (try have qn147 : (4 < y143.length) = True := eq_true (by have h_ : (4 : Int) < ((y143.length : Int) : Int) := of_decide_eq_true (by first | (with_reducible assumption) | assumption); omega)); obtain ⟨ad147, e147, hx147_0⟩ := Kd.at_bool (Kd.R_reads' HO145.out).2.2 4 p147 q147; obtain rfl : (⟨go9, 0, none⟩ : Addr) = ad147 := (by injection e147); (first | simp only [add_plain] at hx147_0 | simp only [add_at] at hx147_0 | simp only [Addr.add, Nat.zero_add] at hx147_0 | skip); have qi147 : (4 < y146.length) = True := eq_true (by omega); (try rw [show ((4 : Int)).toNat = 4 from rfl] at hx147_0); replace p147 := eq_true p147; replace q147 := eq_true q147; have p11 : 0 ≤ (4 : Int) := (by omega); have q11 : (4 : Int) < ((y143.length : Int) : Int) := of_decide_eq_true (by first | (with_reducible assumption) | assumption); have qi11 : (4 < y143.length) = True := eq_true (by omega); obtain ⟨hx11_0, hf11_0⟩ := Kd.R_celln false HO145.out (4 : Int) p11 q11; (try rw [show ((4 : Int)).toNat = 4 from rfl] at hx11_0); (try simp only [Nat.reduceMul, Nat.zero_mul, Nat.zero_add, Nat.reduceAdd] at hx11_0); (try rw [show ((4 : Int)).toNat = 4 from rfl] at hf11_0); (try simp only [Nat.reduceMul, Nat.zero_mul, Nat.zero_add, Nat.reduceAdd] at hf11_0); replace p11 := eq_true p11; replace q11 := eq_true q11; obtain ⟨hy23_, hz23_⟩ := Kd.R_celln false HO145.out (4 : Int) (by omega) (of_decide_eq_true (by first | (with_reducible assumption) | assumption)); (try simp only [Int.reduceToNat, Int.toNat_zero, Int.toNat_ofNat, Nat.reduceMul, Nat.zero_mul, Nat.zero_add] at hy23_ hz23_); (try rw [show ((4 : Int)).toNat = 4 from rfl] at hy23_); (try rw [show ((4 : Int)).toNat = 4 from rfl] at hz23_); have HP23 := Kd.R_putg HO145.out (4 : Int) ((rdOf false y146 4) != (rdOf false x3_1 7))) | ((with_reducible refine gate_store (t := 4) (p := 29) rfl ?_); refine store_event (t := 4) (p := 29) (v := ?vo_w24) (w1 := (w22.setCell ⟨go9, (4 : Int).toNat, none⟩ (.bool ((rdOf false y146 4) != (rdOf false x3_1 7))))) ?hg ?ho ?hn ?hr ?_; (case ho => rfl); (case hg => rfl); (case hn => rfl); (case hr => first | (go_simp; done) | (go_simp; rfl)); intro w24 hw; have hg : w22.grownBy w24 (some go9) := (by rw [hw]; exact HP23.2); have hp_ : Kd.R Kd.bool 4 w24 w.heap.size (fun k_ => some k_ ≠ (.slice (some ad135) x3_1.length co16 : Value).ownBlock) (.slice (some ⟨go9, 0, none⟩) y143.length co9) y148 := (by rw [hw, Ny148.out]; exact HP23.1); clear HP23; have n0_ := Aside0.mk (Kd.R_after (v := (.slice (some ⟨go9, 0, none⟩) y143.length co9)) (v1 := (.slice (some ⟨go9, 0, none⟩) y143.length co9)) (ok := (fun _ => True)) (by (with_reducible repeat (first | apply Kd.R_alloc | apply Kd.R_drewN | apply Kd.R_drew)); exact HO_3.out) hg (.inl rfl)); have n1_ := Aside0.mk (hp_); have n2_ := Aside0.mk ((by rw [hw]; exact below_set (HB.out) GB9.out : Below w.heap.size w w24)); have n3_ := Aside0.mk ((show Kd.C Kd.bool w24 (some ad135) y139.length y139 from by rw [Ny139.out]; exact Kd.C_take (m := 7) ((Kd.R_reads' (Kd.R_after (v := (.slice (some ⟨go9, 0, none⟩) y143.length co9)) (v1 := (.slice (some ⟨go9, 0, none⟩) y143.length co9)) (ok := (fun _ => True)) (by (with_reducible repeat (first | apply Kd.R_alloc | apply Kd.R_drewN | apply Kd.R_drew)); exact HO_3.out) hg (.inl rfl))).2.2) KL19.out)); clear HO_3; clear HO145; clear HB; clear HR142; have HO_3 := n0_; have HO145 := n1_; have HB := n2_; have HR142 := n3_; clear n0_ n1_ n2_ n3_; clear hg hw hp_; have p149 : 0 ≤ (5 : Int) := (by omega); have q149 : 5 < (y148.length : Int) := (by have h_ : (5 : Int) < ((y143.length : Int) : Int) := of_decide_eq_true (by first | (with_reducible assumption) | assumption); first | (have e_ := (Kd.R_reads' HO145.out).1; omega) | simpa only [Ny146.out, Ny148.out, List.length_set] using h_); have ql149 : ((5 : Int) < ((y143.length : Int) : Int)) = True := eq_true (of_decide_eq_true (by first | (with_reducible assumption) | assumption)); (try have qn149 : (5 < y143.length) = True := eq_true (by have h_ : (5 : Int) < ((y143.length : Int) : Int) := of_decide_eq_true (by first | (with_reducible assumption) | assumption); omega)); obtain ⟨ad149, e149, hx149_0⟩ := Kd.at_bool (Kd.R_reads' HO145.out).2.2 5 p149 q149; obtain rfl : (⟨go9, 0, none⟩ : Addr) = ad149 := (by injection e149); (first | simp only [add_plain] at hx149_0 | simp only [add_at] at hx149_0 | simp only [Addr.add, Nat.zero_add] at hx149_0 | skip); have qi149 : (5 < y148.length) = True := eq_true (by omega); (try rw [show ((5 : Int)).toNat = 5 from rfl] at hx149_0); replace p149 := eq_true p149; replace q149 := eq_true q149; have p13 : 0 ≤ (5 : Int) := (by omega); have q13 : (5 : Int) < ((y143.length : Int) : Int) := of_decide_eq_true (by first | (with_reducible assumption) | assumption); have qi13 : (5 < y143.length) = True := eq_true (by omega); obtain ⟨hx13_0, hf13_0⟩ := Kd.R_celln false HO145.out (5 : Int) p13 q13; (try rw [show ((5 : Int)).toNat = 5 from rfl] at hx13_0); (try simp only [Nat.reduceMul, Nat.zero_mul, Nat.zero_add, Nat.reduceAdd] at hx13_0); (try rw [show ((5 : Int)).toNat = 5 from rfl] at hf13_0); (try simp only [Nat.reduceMul, Nat.zero_mul, Nat.zero_add, Nat.reduceAdd] at hf13_0); replace p13 := eq_true p13; replace q13 := eq_true q13; obtain ⟨hy25_, hz25_⟩ := Kd.R_celln false HO145.out (5 : Int) (by omega) (of_decide_eq_true (by first | (with_reducible assumption) | assumption)); (try simp only [Int.reduceToNat, Int.toNat_zero, Int.toNat_ofNat, Nat.reduceMul, Nat.zero_mul, Nat.zero_add] at hy25_ hz25_); (try rw [show ((5 : Int)).toNat = 5 from rfl] at hy25_); (try rw [show ((5 : Int)).toNat = 5 from rfl] at hz25_); have HP25 := Kd.R_putg HO145.out (5 : Int) ((rdOf false y148 5) != (rdOf false x3_1 7))) | ((with_reducible refine gate_store (t := 4) (p := 36) rfl ?_); refine store_event (t := 4) (p := 36) (v := ?vo_w26) (w1 := (w24.setCell ⟨go9, (5 : Int).toNat, none⟩ (.bool ((rdOf false y148 5) != (rdOf false x3_1 7))))) ?hg ?ho ?hn ?hr ?_; (case ho => rfl); (case hg => rfl); (case hn => rfl); (case hr => first | (go_simp; done) | (go_simp; rfl)); intro w26 hw; have hg : w24.grownBy w26 (some go9) := (by rw [hw]; exact HP25.2); have hp_ : Kd.R Kd.bool 4 w26 w.heap.size (fun k_ => some k_ ≠ (.slice (some ad135) x3_1.length co16 : Value).ownBlock) (.slice (some ⟨go9, 0, none⟩) y143.length co9) y150 := (by rw [hw, Ny150.out]; exact HP25.1); clear HP25; have n0_ := Aside0.mk (Kd.R_after (v := (.slice (some ⟨go9, 0, none⟩) y143.length co9)) (v1 := (.slice (some ⟨go9, 0, none⟩) y143.length co9)) (ok := (fun _ => True)) (by (with_reducible repeat (first | apply Kd.R_alloc | apply Kd.R_drewN | apply Kd.R_drew)); exact HO_3.out) hg (.inl rfl)); have n1_ := Aside0.mk (hp_); have n2_ := Aside0.mk ((by rw [hw]; exact below_set (HB.out) GB9.out : Below w.heap.size w w26)); have n3_ := Aside0.mk ((show Kd.C Kd.bool w26 (some ad135) y139.length y139 from by rw [Ny139.out]; exact Kd.C_take (m := 7) ((Kd.R_reads' (Kd.R_after (v := (.slice (some ⟨go9, 0, none⟩) y143.length co9)) (v1 := (.slice (some ⟨go9, 0, none⟩) y143.length co9)) (ok := (fun _ => True)) (by (with_reducible repeat (first | apply Kd.R_alloc | apply Kd.R_drewN | apply Kd.R_drew)); exact HO_3.out) hg (.inl rfl))).2.2) KL19.out)); clear HO_3; clear HO145; clear HB; clear HR142; have HO_3 := n0_; have HO145 := n1_; have HB := n2_; have HR142 := n3_; clear n0_ n1_ n2_ n3_; clear hg hw hp_; have p151 : 0 ≤ (6 : Int) := (by omega); have q151 : 6 < (y150.length : Int) := (by have h_ : (6 : Int) < ((y143.length : Int) : Int) := of_decide_eq_true (by first | (with_reducible assumption) | assumption); first | (have e_ := (Kd.R_reads' HO145.out).1; omega) | simpa only [Ny146.out, Ny148.out, Ny150.out, List.length_set] using h_); have ql151 : ((6 : Int) < ((y143.length : Int) : Int)) = True := eq_true (of_decide_eq_true (by first | (with_reducible assumption) | assumption)); (try have qn151 : (6 < y143.length) = True := eq_true (by have h_ : (6 : Int) < ((y143.length : Int) : Int) := of_decide_eq_true (by first | (with_reducible assumption) | assumption); omega)); obtain ⟨ad151, e151, hx151_0⟩ := Kd.at_bool (Kd.R_reads' HO145.out).2.2 6 p151 q151; obtain rfl : (⟨go9, 0, none⟩ : Addr) = ad151 := (by injection e151); (first | simp only [add_plain] at hx151_0 | simp only [add_at] at hx151_0 | simp only [Addr.add, Nat.zero_add] at hx151_0 | skip); have qi151 : (6 < y150.length) = True := eq_true (by omega); (try rw [show ((6 : Int)).toNat = 6 from rfl] at hx151_0); replace p151 := eq_true p151; replace q151 := eq_true q151; have p15 : 0 ≤ (6 : Int) := (by omega); have q15 : (6 : Int) < ((y143.length : Int) : Int) := of_decide_eq_true (by first | (with_reducible assumption) | assumption); have qi15 : (6 < y143.length) = True := eq_true (by omega); obtain ⟨hx15_0, hf15_0⟩ := Kd.R_celln false HO145.out (6 : Int) p15 q15; (try rw [show ((6 : Int)).toNat = 6 from rfl] at hx15_0); (try simp only [Nat.reduceMul, Nat.zero_mul, Nat.zero_add, Nat.reduceAdd] at hx15_0); (try rw [show ((6 : Int)).toNat = 6 from rfl] at hf15_0); (try simp only [Nat.reduceMul, Nat.zero_mul, Nat.zero_add, Nat.reduceAdd] at hf15_0); replace p15 := eq_true p15; replace q15 := eq_true q15; obtain ⟨hy27_, hz27_⟩ := Kd.R_celln false HO145.out (6 : Int) (by omega) (of_decide_eq_true (by first | (with_reducible assumption) | assumption)); (try simp only [Int.reduceToNat, Int.toNat_zero, Int.toNat_ofNat, Nat.reduceMul, Nat.zero_mul, Nat.zero_add] at hy27_ hz27_); (try rw [show ((6 : Int)).toNat = 6 from rfl] at hy27_); (try rw [show ((6 : Int)).toNat = 6 from rfl] at hz27_); have HP27 := Kd.R_putg HO145.out (6 : Int) ((rdOf false y150 6) != (rdOf false x3_1 7))) | ((with_reducible refine gate_store (t := 4) (p := 43) rfl ?_); refine store_event (t := 4) (p := 43) (v := ?vo_w28) (w1 := (w26.setCell ⟨go9, (6 : Int).toNat, none⟩ (.bool ((rdOf false y150 6) != (rdOf false x3_1 7))))) ?hg ?ho ?hn ?hr ?_; (case ho => rfl); (case hg => rfl); (case hn => rfl); (case hr => first | (go_simp; done) | (go_simp; rfl)); intro w28 hw; have hg : w26.grownBy w28 (some go9) := (by rw [hw]; exact HP27.2); have hp_ : Kd.R Kd.bool 4 w28 w.heap.size (fun k_ => some k_ ≠ (.slice (some ad135) x3_1.length co16 : Value).ownBlock) (.slice (some ⟨go9, 0, none⟩) y143.length co9) y152 := (by rw [hw, Ny152.out]; exact HP27.1); clear HP27; have n0_ := Aside0.mk (Kd.R_after (v := (.slice (some ⟨go9, 0, none⟩) y143.length co9)) (v1 := (.slice (some ⟨go9, 0, none⟩) y143.length co9)) (ok := (fun _ => True)) (by (with_reducible repeat (first | apply Kd.R_alloc | apply Kd.R_drewN | apply Kd.R_drew)); exact HO_3.out) hg (.inl rfl)); have n1_ := Aside0.mk (hp_); have n2_ := Aside0.mk ((by rw [hw]; exact below_set (HB.out) GB9.out : Below w.heap.size w w28)); have n3_ := Aside0.mk ((show Kd.C Kd.bool w28 (some ad135) y139.length y139 from by rw [Ny139.out]; exact Kd.C_take (m := 7) ((Kd.R_reads' (Kd.R_after (v := (.slice (some ⟨go9, 0, none⟩) y143.length co9)) (v1 := (.slice (some ⟨go9, 0, none⟩) y143.length co9)) (ok := (fun _ => True)) (by (with_reducible repeat (first | apply Kd.R_alloc | apply Kd.R_drewN | apply Kd.R_drew)); exact HO_3.out) hg (.inl rfl))).2.2) KL19.out)); clear HO_3; clear HO145; clear HB; clear HR142; have HO_3 := n0_; have HO145 := n1_; have HB := n2_; have HR142 := n3_; clear n0_ n1_ n2_ n3_; clear hg hw hp_))
                      go_roundg k1
                      case measure => have := HK1.out; omega
                      case rel => exact ⟨(y152), (wrap64 (x4_1 + 1)), (by first | rfl | (simp; done) | (simp [*]; done)), H', ⟨by have := HK1.out; omega⟩, ⟨by (with_reducible repeat (first | apply Kd.R_alloc | apply Kd.R_drewN | apply Kd.R_drew)); exact Kd.R_mono HO145.out (fun _ hk => trivial)⟩, ⟨by repeat (first | (with_reducible first | exact HB.out | apply below_alloc | apply pw_below_drewN | apply below_drew1) | exact HB.out)⟩⟩
                    · rw [if_neg c14] at H
                      exact absurd H (by simp)
                  · rw [if_neg c12] at H
                    exact absurd H (by simp)
                · rw [if_neg c10] at H
                  exact absurd H (by simp)
              · rw [if_neg c8] at H
                exact absurd H (by simp)
            · rw [if_neg c7] at H
              exact absurd H (by simp)
          · rw [if_neg c6] at H
            exact absurd H (by simp)
        · rw [if_neg c5] at H
          exact absurd H (by simp)
      · rw [if_neg c4] at H
        have c4b0 : decide (x4_1 < (Int.tmod a0 255)) = false := decide_eq_false c4
        clear c4
        by_cases c29 : 0 < (x3_1.length : Int)
        · rw [if_pos c29] at H
          have c29b0 : decide (0 < (x3_1.length : Int)) = true := decide_eq_true c29
          have c29b1 : decide (0 < x3_1.length) = true := decide_eq_true (by omega)
          clear c29
          obtain rfl := Option.some.inj H
          obtain ⟨Ao30, co30, eo30⟩ := Kd.R_slice HO_3.out
          subst eo30
          have p153 : 0 ≤ (0 : Int) := (by omega)
          have q153 : 0 < (x3_1.length : Int) := of_decide_eq_true (by first | (with_reducible assumption) | assumption)
          obtain ⟨ad153, e153, hx153_0⟩ := Kd.at_bool (Kd.R_reads' HO_3.out).2.2 0 p153 q153
          cases e153
          have qi153 : (0 < x3_1.length) = True := eq_true (by omega)
          (try rw [show ((0 : Int)).toNat = 0 from rfl] at hx153_0)
          (try rw [Addr.add_zero'] at hx153_0)
          replace p153 := eq_true p153
          replace q153 := eq_true q153
          go_wp2
          go_ret
          exact ⟨by first | rfl | (simp [errW_none, errW_some] <;> rfl) | (simp [*, errW_none, errW_some] <;> rfl), by repeat (first | (with_reducible first | exact HB.out | apply below_alloc | apply pw_below_drewN | apply below_drew1) | exact HB.out)⟩
        · rw [if_neg c29] at H
          exact absurd H (by simp)

/-! ### visorref13_Mark: function 87 -/
mutual
def visorref13_Mark.j0 : Nat → Int → Bool → Option (Int)
  | 0, _, _ => none
  | k + 1, x0, x11 => if x11 = true then (some 0) else (visorref13_Mark.l0 k x0 0 1 0)
def visorref13_Mark.l0 : Nat → Int → Int → Int → Int → Option (Int)
  | 0, _, _, _, _ => none
  | k + 1, x0, x3, x4, x5 => if x5 < 7 then ((visorref13_Bit.f k (wrap64 ((wrap64 (7 * x0)) + x5))).bind fun t154 => (if t154 = true then (if 0 ≤ (IntKind.u64.wrap (wrap64 (x4 - 1))) then (visorref13_Mark.l0 k x0 (IntKind.u64.wrap (x3 + (shl .u64 1 (IntKind.u64.wrap (wrap64 (x4 - 1)))))) (wrap64 (x4 * 2)) (wrap64 (x5 + 1))) else (none)) else (visorref13_Mark.l0 k x0 x3 (wrap64 (x4 * 2)) (wrap64 (x5 + 1))))) else (some x3)
end
def visorref13_Mark.f (k : Nat) (a0 : Int) : Option (Int) := if a0 < 0 then (visorref13_Mark.j0 k a0 true) else (visorref13_Mark.j0 k a0 (decide (a0 > 23)))
theorem visorref13_Mark.mono_l : ∀ k, (∀ y0 y1, LeO (visorref13_Mark.j0 k y0 y1) (visorref13_Mark.j0 (k + 1) y0 y1)) ∧ (∀ y0 y1 y2 y3, LeO (visorref13_Mark.l0 k y0 y1 y2 y3) (visorref13_Mark.l0 (k + 1) y0 y1 y2 y3))
  | 0 => ⟨fun _ _ r h => by simp [visorref13_Mark.j0] at h, fun _ _ _ _ r h => by simp [visorref13_Mark.l0] at h⟩
  | k + 1 => by
    obtain ⟨ih0, ih1⟩ := visorref13_Mark.mono_l k
    refine ⟨?_, ?_⟩
    · intro y0 y1
      unfold visorref13_Mark.j0
      repeat' first
      | (with_reducible exact ih0 _ _)
      | (with_reducible exact ih1 _ _ _ _)
      | (with_reducible exact visorref13_Bit.mono _ _)
      | (with_reducible exact LeO.refl _)
      | (with_reducible exact LeO.none _)
      | (with_reducible refine LeO.ite ?_ ?_)
      | (with_reducible refine LeO.bind ?_ (fun _ => ?_))
      | exact ih0 _ _
      | exact ih1 _ _ _ _
      | exact visorref13_Bit.mono _ _
      | exact LeO.none _
      | refine LeO.ite ?_ ?_
      | refine LeO.bind ?_ (fun _ => ?_)
    · intro y0 y1 y2 y3
      unfold visorref13_Mark.l0
      repeat' first
      | (with_reducible exact ih0 _ _)
      | (with_reducible exact ih1 _ _ _ _)
      | (with_reducible exact visorref13_Bit.mono _ _)
      | (with_reducible exact LeO.refl _)
      | (with_reducible exact LeO.none _)
      | (with_reducible refine LeO.ite ?_ ?_)
      | (with_reducible refine LeO.bind ?_ (fun _ => ?_))
      | exact ih0 _ _
      | exact ih1 _ _ _ _
      | exact visorref13_Bit.mono _ _
      | exact LeO.none _
      | refine LeO.ite ?_ ?_
      | refine LeO.bind ?_ (fun _ => ?_)
theorem visorref13_Mark.mono : ∀ a0 k, LeO (visorref13_Mark.f k a0) (visorref13_Mark.f (k + 1) a0) := by
  intro a0 k
  obtain ⟨ih0, ih1⟩ := visorref13_Mark.mono_l k
  unfold visorref13_Mark.f
  repeat' first
      | (with_reducible exact ih0 _ _)
      | (with_reducible exact ih1 _ _ _ _)
      | (with_reducible exact visorref13_Bit.mono _ _)
      | (with_reducible exact LeO.refl _)
      | (with_reducible exact LeO.none _)
      | (with_reducible refine LeO.ite ?_ ?_)
      | (with_reducible refine LeO.bind ?_ (fun _ => ?_))
      | exact ih0 _ _
      | exact ih1 _ _ _ _
      | exact visorref13_Bit.mono _ _
      | exact LeO.none _
      | refine LeO.ite ?_ ?_
      | refine LeO.bind ?_ (fun _ => ?_)
set_option maxHeartbeats 8000000 in
set_option maxRecDepth 100000 in
theorem visorref13_Mark.calls (k : Nat) (a0 : Int) (r : Int) (w : World) (h : visorref13_Mark.f k a0 = some r) :
    Calls Try.prog 87 #[.int .i64 a0] w fun e w' => e = .returned (.int .u64 r) ∧ Below w.heap.size w w' := by
  have HB := Aside0.mk (Below.refl w.heap.size w)
  have H : (if a0 < 0 then (visorref13_Mark.j0 k a0 true) else (visorref13_Mark.j0 k a0 (decide (a0 > 23)))) = some r := h
  clear h
  have HC2 := Aside0.mk H
  clear H
  go_enter Try.func87, Try.ntmps87
  go_upto_region 1 with (fail)
  go_cut [11] (fun v11 wc => ∃ (kq : Nat) (x11_1 : Bool), v11 = .bool x11_1 ∧ Aside0 (visorref13_Mark.j0 kq a0 x11_1 = some r) ∧ Aside0 (kq ≤ k) ∧ Aside0 (Below w.heap.size w wc))
  case first =>
    have H := HC2.out
    clear HC2
    by_cases c3 : a0 < 0
    · rw [if_pos c3] at H
      have c3b0 : decide (a0 < 0) = true := decide_eq_true c3
      clear c3
      (first | rw [c3b0] | (simp only [i64_w, i32_w]; rw [c3b0]) | skip)
      have H' := Aside0.mk H
      clear H
      go_wp2
      go_meet
      case rel => exact ⟨_, (true), (by first | rfl | (simp; done) | (simp [*]; done)), H', ⟨by first | omega | exact Nat.le_refl _⟩, ⟨by repeat (first | (with_reducible first | exact HB.out | apply below_alloc | apply pw_below_drewN | apply below_drew1) | exact HB.out)⟩⟩
    · rw [if_neg c3] at H
      have c3b0 : decide (a0 < 0) = false := decide_eq_false c3
      clear c3
      (first | rw [c3b0] | (simp only [i64_w, i32_w]; rw [c3b0]) | skip)
      have H' := Aside0.mk H
      clear H
      go_wp2
      go_meet
      case rel => exact ⟨_, (decide (a0 > 23)), (by first | rfl | (simp; done) | (simp [*]; done)), H', ⟨by first | omega | exact Nat.le_refl _⟩, ⟨by repeat (first | (with_reducible first | exact HB.out | apply below_alloc | apply pw_below_drewN | apply below_drew1) | exact HB.out)⟩⟩
  case rest =>
    clear HC2
    try clear p2
    try clear c3
    try clear c3b0
    obtain ⟨kq, x11_1, rfl, HA, HJ1, HB⟩ := hcut
    cases kq with
    | zero => exact absurd HA.out (by simp [visorref13_Mark.j0])
    | succ kj1 =>
      have H := HA.out
      clear HA
      simp only [visorref13_Mark.j0] at H
      by_cases c4 : x11_1 = true
      · subst c4
        have H1 : (some 0) = some r := by rw [if_pos rfl] at H; exact H
        clear H
        have H := H1
        clear H1
        obtain rfl := Option.some.inj H
        go_wp2
        go_ret
        exact ⟨by first | rfl | (simp [errW_none, errW_some] <;> rfl) | (simp [*, errW_none, errW_some] <;> rfl), by repeat (first | (with_reducible first | exact HB.out | apply below_alloc | apply pw_below_drewN | apply below_drew1) | exact HB.out)⟩
      · replace c4 := Bool.eq_false_iff.mpr c4
        subst c4
        have H1 : (visorref13_Mark.l0 kj1 a0 0 1 0) = some r := by rw [if_neg (show ¬ (false = true) by decide)] at H; exact H
        clear H
        have H := H1
        clear H1
        have H' := Aside0.mk H
        clear H
        go_wp2
        go_loopg [3, 4, 5] kj1 (fun kq v3 v4 v5 w' => ∃ (x3_2 : Int) (x4_2 : Int) (x5_2 : Int), v3 = .int .u64 x3_2 ∧ v4 = .int .i64 x4_2 ∧ v5 = .int .i64 x5_2 ∧ Aside0 (visorref13_Mark.l0 kq a0 x3_2 x4_2 x5_2 = some r) ∧ Aside0 (kq ≤ kj1) ∧ Aside0 (Below w.heap.size w w'))
        case atStart => exact ⟨(0), (1), (0), (by first | rfl | (simp; done) | (simp [*]; done)), (by first | rfl | (simp; done) | (simp [*]; done)), (by first | rfl | (simp; done) | (simp [*]; done)), H', ⟨Nat.le_refl _⟩, ⟨by repeat (first | (with_reducible first | exact HB.out | apply below_alloc | apply pw_below_drewN | apply below_drew1) | exact HB.out)⟩⟩
        case round =>
          clear H'
          try clear p2
          try clear c3
          try clear c3b0
          try clear c4
          try clear p2
          obtain ⟨x3_2, x4_2, x5_2, rfl, rfl, rfl, HA, HK2, HB⟩ := hrel
          cases gk with
          | zero => exact absurd HA.out (by simp [visorref13_Mark.l0])
          | succ k2 =>
            have H := HA.out
            clear HA
            simp only [visorref13_Mark.l0] at H
            by_cases c5 : x5_2 < 7
            · rw [if_pos c5] at H
              have c5b0 : decide (x5_2 < 7) = true := decide_eq_true c5
              clear c5
              replace H := Option.bind_eq_some_iff.mp H
              obtain ⟨t154, A60, H⟩ := H
              replace H : (if t154 = true then (if 0 ≤ (IntKind.u64.wrap (wrap64 (x4_2 - 1))) then (visorref13_Mark.l0 k2 a0 (IntKind.u64.wrap (x3_2 + (shl .u64 1 (IntKind.u64.wrap (wrap64 (x4_2 - 1)))))) (wrap64 (x4_2 * 2)) (wrap64 (x5_2 + 1))) else (none)) else (visorref13_Mark.l0 k2 a0 x3_2 (wrap64 (x4_2 * 2)) (wrap64 (x5_2 + 1)))) = some r := H
              have A6 := Aside0.mk A60
              clear A60
              by_cases c7 : t154 = true
              · subst c7
                have H1 : (if 0 ≤ (IntKind.u64.wrap (wrap64 (x4_2 - 1))) then (visorref13_Mark.l0 k2 a0 (IntKind.u64.wrap (x3_2 + (shl .u64 1 (IntKind.u64.wrap (wrap64 (x4_2 - 1)))))) (wrap64 (x4_2 * 2)) (wrap64 (x5_2 + 1))) else (none)) = some r := by rw [if_pos rfl] at H; exact H
                clear H
                have H := H1
                clear H1
                obtain ⟨ji8, hji8⟩ : ∃ j_ : Int, (IntKind.u64.wrap (wrap64 (x4_2 - 1))) = j_ := ⟨_, rfl⟩
                replace H : (if 0 ≤ (ji8) then (visorref13_Mark.l0 k2 a0 (IntKind.u64.wrap (x3_2 + (shl .u64 1 (ji8)))) (wrap64 (x4_2 * 2)) (wrap64 (x5_2 + 1))) else (none)) = some r := by first | (rw [hji8] at H; exact H) | (simp only [hji8] at H ⊢; exact H)
                (try rw [hji8] at A6)
                by_cases c9 : 0 ≤ (ji8)
                · rw [if_pos c9] at H
                  have c9b0 := eq_true c9
                  have c9b1 : decide (0 ≤ (ji8)) = true := decide_eq_true c9
                  clear c9
                  obtain ⟨ji10, hji10⟩ : ∃ j_ : Int, (shl .u64 1 (ji8)) = j_ := ⟨_, rfl⟩
                  replace H : (visorref13_Mark.l0 k2 a0 (IntKind.u64.wrap (x3_2 + (ji10))) (wrap64 (x4_2 * 2)) (wrap64 (x5_2 + 1))) = some r := by first | (rw [hji10] at H; exact H) | (simp only [hji10] at H ⊢; exact H)
                  (try rw [hji10] at A6)
                  have hji10_ : (IntKind.u64.wrap (1 * 2 ^ min (ji8).toNat 64)) = ji10 := hji10
                  have hji10z : (ji8) ≤ 64 → (IntKind.u64.wrap (1 * 2 ^ (ji8).toNat)) = ji10 := shl_small hji10
                  have hji10u : (IntKind.u64.wrap (2 ^ min (ji8).toNat 64)) = ji10 := by have h_ := hji10_; rw [Int.one_mul] at h_; exact h_
                  have hji10v : (ji8) ≤ 64 → (IntKind.u64.wrap (2 ^ (ji8).toNat)) = ji10 := fun hle_ => by have h_ := hji10z hle_; rw [Int.one_mul] at h_; exact h_
                  have H' := Aside0.mk H
                  clear H
                  go_wp2_with (first | ((with_reducible refine gate_callee (f := 125) rfl ?_); refine goesL_ (some 20) rfl rfl Try.func125 (by kernel_rfl) rfl #[.int .i64 (wrap64 ((wrap64 (7 * a0)) + x5_2))] rfl (by (try simp only [List.map_toArray, List.map_cons, List.map_nil]); first | done | rfl | (simp only [List.length_drop, List.length_take]; rfl)) ?_; (with_reducible refine (visorref13_Bit.calls k2 (wrap64 ((wrap64 (7 * a0)) + x5_2)) true _ A6.out).mono ?_); rintro e w11 ⟨rfl, hb⟩; refine ⟨_, rfl, ?_⟩; have n0_ := Aside0.mk (below_step (by repeat (first | (with_reducible first | exact HB.out | apply below_alloc | apply pw_below_drewN | apply below_drew1) | exact HB.out)) hb); clear HB; have HB := n0_; clear n0_; (try clear hb); (try clear hb2); (try clear hk); (try clear hi)))
                  go_roundg k2
                  case measure => have := HJ1.out; have := HK2.out; omega
                  case rel => exact ⟨(IntKind.u64.wrap (x3_2 + (ji10))), (wrap64 (x4_2 * 2)), (wrap64 (x5_2 + 1)), (by first | rfl | (simp; done) | (simp only [← hji10] <;> (first | rfl | simp)) | (simp [*]; done)), (by first | rfl | (simp; done) | (simp [*]; done)), (by first | rfl | (simp; done) | (simp [*]; done)), H', ⟨by have := HJ1.out; have := HK2.out; omega⟩, ⟨by repeat (first | (with_reducible first | exact HB.out | apply below_alloc | apply pw_below_drewN | apply below_drew1) | exact HB.out)⟩⟩
                · rw [if_neg c9] at H
                  exact absurd H (by simp)
              · replace c7 := Bool.eq_false_iff.mpr c7
                subst c7
                have H1 : (visorref13_Mark.l0 k2 a0 x3_2 (wrap64 (x4_2 * 2)) (wrap64 (x5_2 + 1))) = some r := by rw [if_neg (show ¬ (false = true) by decide)] at H; exact H
                clear H
                have H := H1
                clear H1
                have H' := Aside0.mk H
                clear H
                go_wp2_with (first | ((with_reducible refine gate_callee (f := 125) rfl ?_); refine goesL_ (some 20) rfl rfl Try.func125 (by kernel_rfl) rfl #[.int .i64 (wrap64 ((wrap64 (7 * a0)) + x5_2))] rfl (by (try simp only [List.map_toArray, List.map_cons, List.map_nil]); first | done | rfl | (simp only [List.length_drop, List.length_take]; rfl)) ?_; (with_reducible refine (visorref13_Bit.calls k2 (wrap64 ((wrap64 (7 * a0)) + x5_2)) false _ A6.out).mono ?_); rintro e w12 ⟨rfl, hb⟩; refine ⟨_, rfl, ?_⟩; have n0_ := Aside0.mk (below_step (by repeat (first | (with_reducible first | exact HB.out | apply below_alloc | apply pw_below_drewN | apply below_drew1) | exact HB.out)) hb); clear HB; have HB := n0_; clear n0_; (try clear hb); (try clear hb2); (try clear hk); (try clear hi)))
                go_roundg k2
                case measure => have := HJ1.out; have := HK2.out; omega
                case rel => exact ⟨(x3_2), (wrap64 (x4_2 * 2)), (wrap64 (x5_2 + 1)), (by first | rfl | (simp; done) | (simp [*]; done)), (by first | rfl | (simp; done) | (simp [*]; done)), (by first | rfl | (simp; done) | (simp [*]; done)), H', ⟨by have := HJ1.out; have := HK2.out; omega⟩, ⟨by repeat (first | (with_reducible first | exact HB.out | apply below_alloc | apply pw_below_drewN | apply below_drew1) | exact HB.out)⟩⟩
            · rw [if_neg c5] at H
              have c5b0 : decide (x5_2 < 7) = false := decide_eq_false c5
              clear c5
              obtain rfl := Option.some.inj H
              go_wp2
              go_ret
              exact ⟨by first | rfl | (simp [errW_none, errW_some] <;> rfl) | (simp [*, errW_none, errW_some] <;> rfl), by repeat (first | (with_reducible first | exact HB.out | apply below_alloc | apply pw_below_drewN | apply below_drew1) | exact HB.out)⟩

-- NOT PRINTED: function 61 (visorref13_Permute)

/-! ### visorref01_Store: function 62 -/
def visorref01_Store.l0 : Nat → Int → Int → List Int → Int → Option (List Int)
  | 0, _, _, _, _ => none
  | k + 1, x0, x1, x5, x6 => if x6 < x1 then (if x6 < 8 then (if x5.length < 140737488355328 then (visorref01_Store.l0 k (IntKind.u64.wrap (Int.tdiv x0 256)) x1 (x5 ++ [(Int.tmod x0 256) % 256]) (wrap64 (x6 + 1))) else (none)) else (some x5)) else (some x5)
def visorref01_Store.f (k : Nat) (a0 : Int) (a1 : Int) : Option (List Int) := visorref01_Store.l0 k a0 a1 (([] : List Int)) 0
theorem visorref01_Store.mono_l : ∀ k, (∀ y0 y1 y2 y3, LeO (visorref01_Store.l0 k y0 y1 y2 y3) (visorref01_Store.l0 (k + 1) y0 y1 y2 y3))
  | 0 => fun _ _ _ _ r h => by simp [visorref01_Store.l0] at h
  | k + 1 => by
    have ih0 := visorref01_Store.mono_l k
    · intro y0 y1 y2 y3
      unfold visorref01_Store.l0
      repeat' first
      | (with_reducible exact ih0 _ _ _ _)
      | (with_reducible exact LeO.refl _)
      | (with_reducible exact LeO.none _)
      | (with_reducible refine LeO.ite ?_ ?_)
      | (with_reducible refine LeO.bind ?_ (fun _ => ?_))
      | exact ih0 _ _ _ _
      | exact LeO.none _
      | refine LeO.ite ?_ ?_
      | refine LeO.bind ?_ (fun _ => ?_)
theorem visorref01_Store.mono : ∀ a0 a1 k, LeO (visorref01_Store.f k a0 a1) (visorref01_Store.f (k + 1) a0 a1) := by
  intro a0 a1 k
  have ih0 := visorref01_Store.mono_l k
  unfold visorref01_Store.f
  repeat' first
      | (with_reducible exact ih0 _ _ _ _)
      | (with_reducible exact LeO.refl _)
      | (with_reducible exact LeO.none _)
      | (with_reducible refine LeO.ite ?_ ?_)
      | (with_reducible refine LeO.bind ?_ (fun _ => ?_))
      | exact ih0 _ _ _ _
      | exact LeO.none _
      | refine LeO.ite ?_ ?_
      | refine LeO.bind ?_ (fun _ => ?_)
set_option maxHeartbeats 8000000 in
set_option maxRecDepth 100000 in
theorem visorref01_Store.calls (k : Nat) (a0 : Int) (a1 : Int) (r : List Int) (w : World) (h : visorref01_Store.f k a0 a1 = some r) :
    Calls Try.prog 62 #[.int .u64 a0, .int .i64 a1] w fun e w' => ∃ v0_ : Value, e = .returned (v0_) ∧ Kd.R (Kd.int .u8) 5 w' w.heap.size (fun _ => True) v0_ r ∧ Below w.heap.size w w' := by
  have HB := Aside0.mk (Below.refl w.heap.size w)
  have H : (visorref01_Store.l0 k a0 a1 (([] : List Int)) 0) = some r := h
  clear h
  obtain ⟨y155, hy155⟩ : ∃ y_ : List Int, y_ = (([] : List Int)) := ⟨_, rfl⟩
  replace H : (visorref01_Store.l0 k a0 a1 y155 0) = some r := by first | (rw [hy155]; with_reducible exact H) | (have H2_ := (Option.bind_some _ _).symm.trans H; rw [hy155]; with_reducible exact H2_) | (have H2_ := (Option.bind_some _ _).symm.trans H; with_reducible exact H2_) | with_reducible exact H | (rw [hy155]; exact H) | exact H
  have Ny155 := Aside0.mk hy155
  clear hy155
  have H' := Aside0.mk H
  clear H
  go_enter Try.func62, Try.ntmps62
  go_wp2_with (first | ((with_reducible refine gate_dst (N := 7) rfl ?_); refine Kd.R_lit (Kd.int .u8) _ 5 ?hg (N := 7) ?hd (xs := ([] : List Int)) (inner := []) (ok := fun _ => True) (okp := fun _ => True) ?hr ?hp (fun _ hk => hk) trivial (Below.refl _ _) (Nat.le_refl _) (by simp) ?_; (case hd => rfl); (case hg => rfl); (case hr => first | (go_simp; done) | (go_simp; rfl)); (case hp => exact (Reps.none _ _)); intro v156 w3 ho4 hb hg_ hnew_; clear hg_ hnew_; (first | rw [← Ny155.out] at ho4 | (simp only [Int.reduceToNat] at ho4; rw [← Ny155.out] at ho4)); have n0_ := Aside0.mk (Kd.R_lower ho4 (below_size (by repeat (first | (with_reducible first | exact HB.out | apply below_alloc | apply pw_below_drewN | apply below_drew1) | exact HB.out)))); have n1_ := Aside0.mk (below_step (by repeat (first | (with_reducible first | exact HB.out | apply below_alloc | apply pw_below_drewN | apply below_drew1) | exact HB.out)) hb); clear HB; have HO157 := n0_; have HB := n1_; clear n0_ n1_; clear hb ho4))
  go_loopg [0, 5, 6] k (fun kq v0 v5 v6 w' => ∃ (x0_1 : Int) (x5_1 : List Int) (x6_1 : Int), v0 = .int .u64 x0_1 ∧ v6 = .int .i64 x6_1 ∧ Aside0 (visorref01_Store.l0 kq x0_1 a1 x5_1 x6_1 = some r) ∧ Aside0 (kq ≤ k) ∧ Aside0 (Kd.R (Kd.int .u8) 5 w' w.heap.size (fun _ => True) v5 x5_1) ∧ Aside0 (Below w.heap.size w w'))
  case atStart => exact ⟨(a0), (y155), (0), (by first | rfl | (simp; done) | (simp [*]; done)), (by first | rfl | (simp; done) | (simp [*]; done)), H', ⟨Nat.le_refl _⟩, ⟨by (with_reducible repeat (first | apply Kd.R_alloc | apply Kd.R_drewN | apply Kd.R_drew)); exact HO157.out⟩, ⟨by repeat (first | (with_reducible first | exact HB.out | apply below_alloc | apply pw_below_drewN | apply below_drew1) | exact HB.out)⟩⟩
  case round =>
    clear H'
    try clear p2
    obtain ⟨x0_1, x5_1, x6_1, rfl, rfl, HA, HK1, HO_5, HB⟩ := hrel
    cases gk with
    | zero => exact absurd HA.out (by simp [visorref01_Store.l0])
    | succ k1 =>
      have H := HA.out
      clear HA
      simp only [visorref01_Store.l0] at H
      by_cases c5 : x6_1 < a1
      · rw [if_pos c5] at H
        have c5b0 : decide (x6_1 < a1) = true := decide_eq_true c5
        clear c5
        by_cases c6 : x6_1 < 8
        · rw [if_pos c6] at H
          have c6b0 : decide (x6_1 < 8) = true := decide_eq_true c6
          clear c6
          by_cases c7 : x5_1.length < 140737488355328
          · rw [if_pos c7] at H
            have LMc7 := Aside0.mk c7
            clear c7
            obtain ⟨y158, hy158⟩ : ∃ y_ : List Int, y_ = (x5_1 ++ [(Int.tmod x0_1 256) % 256]) := ⟨_, rfl⟩
            replace H : (visorref01_Store.l0 k1 (IntKind.u64.wrap (Int.tdiv x0_1 256)) a1 y158 (wrap64 (x6_1 + 1))) = some r := by first | (rw [hy158]; with_reducible exact H) | (have H2_ := (Option.bind_some _ _).symm.trans H; rw [hy158]; with_reducible exact H2_) | (have H2_ := (Option.bind_some _ _).symm.trans H; with_reducible exact H2_) | with_reducible exact H | (rw [hy158]; exact H) | exact H
            have Ny158 := Aside0.mk hy158
            clear hy158
            have H' := Aside0.mk H
            clear H
            go_wp2_with (first | ((with_reducible refine gate_builtin (b := .append) (xs := #[.tmp 17, .tmp 21]) rfl ?_); at_builtin; refine Kd.R_append (Kd.int .u8) (w0 := w) w.heap.size rfl (.tmp 17) (.tmp 21) 22 5 (.int .u8 0) 1 rfl Try.underlying22 info5 rfl (by decide) (by omega) u5 x5_1 ((Int.tmod x0_1 256) % 256) [.int .u8 ((Int.tmod x0_1 256) % 256)] (fun _ => True) (fun _ => False) rfl rfl ?aP (fun _ hk => hk.elim) ?aF ?aO ?aB ?aS ?aL ?_; (case aP => exact rfl); (case aB => exact (by repeat (first | (with_reducible first | exact HB.out | apply below_alloc | apply pw_below_drewN | apply below_drew1) | exact HB.out))); (case aF => exact (fun _ _ => trivial)); (case aO => exact (by (with_reducible repeat (first | apply Kd.R_alloc | apply Kd.R_drewN | apply Kd.R_drew)); exact HO_5.out)); (case aS => exact (below_size (by repeat (first | (with_reducible first | exact HB.out | apply below_alloc | apply pw_below_drewN | apply below_drew1) | exact HB.out)))); (case aL => have := LMc7.out; omega); intro v159 w8 ho hb hg hat; rw [← Ny158.out] at ho; have n0_ := Aside0.mk (hb); have n1_ := Aside0.mk (ho); clear HB; clear HO_5; have HB := n0_; have HO160 := n1_; clear n0_ n1_; clear ho hb hg hat))
            go_roundg k1
            case measure => have := HK1.out; omega
            case rel => exact ⟨(IntKind.u64.wrap (Int.tdiv x0_1 256)), (y158), (wrap64 (x6_1 + 1)), (by first | rfl | (simp; done) | (simp [*]; done)), (by first | rfl | (simp; done) | (simp [*]; done)), H', ⟨by have := HK1.out; omega⟩, ⟨by (with_reducible repeat (first | apply Kd.R_alloc | apply Kd.R_drewN | apply Kd.R_drew)); exact HO160.out⟩, ⟨by repeat (first | (with_reducible first | exact HB.out | apply below_alloc | apply pw_below_drewN | apply below_drew1) | exact HB.out)⟩⟩
          · rw [if_neg c7] at H
            exact absurd H (by simp)
        · rw [if_neg c6] at H
          have c6b0 : decide (x6_1 < 8) = false := decide_eq_false c6
          clear c6
          obtain rfl := Option.some.inj H
          go_wp2
          go_ret
          exact ⟨_, by first | rfl | (simp [errW_none, errW_some] <;> rfl) | (simp [*, errW_none, errW_some] <;> rfl), by (with_reducible repeat (first | apply Kd.R_alloc | apply Kd.R_drewN | apply Kd.R_drew)); exact HO_5.out, by repeat (first | (with_reducible first | exact HB.out | apply below_alloc | apply pw_below_drewN | apply below_drew1) | exact HB.out)⟩
      · rw [if_neg c5] at H
        have c5b0 : decide (x6_1 < a1) = false := decide_eq_false c5
        clear c5
        obtain rfl := Option.some.inj H
        go_wp2
        go_ret
        exact ⟨_, by first | rfl | (simp [errW_none, errW_some] <;> rfl) | (simp [*, errW_none, errW_some] <;> rfl), by (with_reducible repeat (first | apply Kd.R_alloc | apply Kd.R_drewN | apply Kd.R_drew)); exact HO_5.out, by repeat (first | (with_reducible first | exact HB.out | apply below_alloc | apply pw_below_drewN | apply below_drew1) | exact HB.out)⟩

-- NOT PRINTED: function 33 (visorref15_Sum)

-- NOT PRINTED: function 6 (visorlaw15_SpongeTells)

end Go.Proofs.Ythijjpiddelefaa.PKec
