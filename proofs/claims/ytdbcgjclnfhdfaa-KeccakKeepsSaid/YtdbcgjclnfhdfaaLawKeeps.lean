/-
  The law of Keccak's keeping, walked: for any two states.
-/
import Derived.Test.YtdbcgjclnfhdfaaLawTells
namespace Go.Proofs.Ytdbcgjclnfhdfaa.Keccak
open Go.RowKit Go.Proofs.YtdbcgjclnfhdfaaW.PrintWords Go.Proofs.YtdbcgjclnfhdfaaW.PrintLast Go.Proofs.YtdbcgjclnfhdfaaW.PrintMore Byte Sl Arr Mem Gives RotC KecT ArrEq OctMath
set_option linter.unusedVariables false
set_option linter.unusedSimpArgs false
theorem cc2 {f : FuncId} {a b l' : List Int} (h : GivesB f #[arrV .u64 a, arrV .u64 b] (arrV .u64 l')) : GivesB f #[.agg (cellsOf .u64 a), .agg (cellsOf .u64 b)] (.agg (cellsOf .u64 l')) := h
theorem theta_sum' (a b : List Int) (ha : a.length = 25) (hb : b.length = 25) (wa : Words a) (wb : Words b) : sumL (thetaL a) (thetaL b) = thetaL (sumL a b) := by
  obtain ⟨f, rfl⟩ := St_of a ha wa
  obtain ⟨g, rfl⟩ := St_of b hb wb
  exact (theta_sum f g).symm
theorem move_sum' (a b : List Int) (ha : a.length = 25) (hb : b.length = 25) (wa : Words a) (wb : Words b) : sumL (moveL a) (moveL b) = moveL (sumL a b) := by
  obtain ⟨f, rfl⟩ := St_of a ha wa
  obtain ⟨g, rfl⟩ := St_of b hb wb
  exact (move_sum f g).symm
set_option maxHeartbeats 4000000 in
set_option maxRecDepth 100000 in
theorem keeps_ (a b : List Int) (ha : a.length = 25) (hb : b.length = 25) (wa : Words a) (wb : Words b) (w : World) : Calls Try.prog 7 #[.agg (cellsOf .u64 a), .agg (cellsOf .u64 b)] w fun e w' => e = .returned (.bool true) ∧ Below w.heap.size w w' := by
  have hs := sumL_length a b
  have ws := sumL_words a b wa wb
  have c1 := cc2 (sum_c a b ha hb)
  have c2 := cc (theta_c (sumL a b) hs ws)
  have c3 := cc (theta_c a ha wa)
  have c4 := cc (theta_c b hb wb)
  have c5 := cc2 (sum_c (thetaL a) (thetaL b) (thetaL_length _) (thetaL_length _))
  have c6 := cc (move_c (sumL a b) hs ws)
  have c7 := cc (move_c a ha wa)
  have c8 := cc (move_c b hb wb)
  have c9 := cc2 (sum_c (moveL a) (moveL b) (moveL_length _) (moveL_length _))
  rw [theta_sum' a b ha hb wa wb] at c5
  rw [move_sum' a b ha hb wa wb] at c9
  have c10 := cc (permute_c a ha wa)
  have c11 := cc (permute_c b hb wb)
  have c12 := cc (chi_c a ha)
  have c13 := cc (chi_c b hb)
  have E1 := nsame_ (thetaL (sumL a b)) (thetaL_length _)
  have E2 := nsame_ (moveL (sumL a b)) (moveL_length _)
  have E3 := eqs a b ha hb
  have E4 := eqs (permTo a 24) (permTo b 24) (permTo_length a ha 24) (permTo_length b hb 24)
  have E5 := eqs (chiL a) (chiL b) (chiL_length _) (chiL_length _)
  have E6 := eqs (thetaL a) (thetaL b) (thetaL_length _) (thetaL_length _)
  rw [permute_inj a b ha hb wa wb] at E4
  rw [chi_inj a b ha hb wa wb] at E5
  rw [theta_inj a b ha hb wa wb] at E6
  generalize decide (a = b) = d at *
  have C1 := Aside0.mk c1
  have C2 := Aside0.mk c2
  have C3 := Aside0.mk c3
  have C4 := Aside0.mk c4
  have C5 := Aside0.mk c5
  have C6 := Aside0.mk c6
  have C7 := Aside0.mk c7
  have C8 := Aside0.mk c8
  have C9 := Aside0.mk c9
  have C10 := Aside0.mk c10
  have C11 := Aside0.mk c11
  have C12 := Aside0.mk c12
  have C13 := Aside0.mk c13
  clear c1 c2 c3 c4 c5 c6 c7 c8 c9 c10 c11 c12 c13
  have C14 := Aside0.mk awake_c
  have HA := Aside0.mk ha
  have HB_ := Aside0.mk hb
  have M1 := Aside0.mk (Mem.alloc (Mem.new .u64 w 42 a) (.cells (cellsOf .u64 b) 42))
  have M2 := Aside0.mk (Mem.new2 .u64 w (.cells (cellsOf .u64 a) 42) 42 b)
  have HB := Aside0.mk (below_alloc (below_alloc (Below.refl w.heap.size w) (.cells (cellsOf .u64 a) 42)) (.cells (cellsOf .u64 b) 42))
  clear ha hb hs ws
  generalize thetaL (sumL a b) = l1 at *
  generalize moveL (sumL a b) = l2 at *
  generalize sumL a b = l3 at *
  generalize thetaL a = l4 at *
  generalize thetaL b = l5 at *
  generalize moveL a = l6 at *
  generalize moveL b = l7 at *
  generalize permTo a 24 = l8 at *
  generalize permTo b 24 = l9 at *
  generalize chiL a = l10 at *
  generalize chiL b = l11 at *
  obtain ⟨ca, hca⟩ : ∃ cs, cs = cellsOf .u64 a := ⟨_, rfl⟩
  obtain ⟨cb, hcb⟩ : ∃ cs, cs = cellsOf .u64 b := ⟨_, rfl⟩
  have HCA := Aside0.mk hca
  have HCB := Aside0.mk hcb
  rw [← hca] at C1 C3 C7 C10 C12 E3 M1 M2 HB ⊢
  rw [← hcb] at C1 C4 C8 C11 C13 E3 M1 M2 HB ⊢
  generalize cellsOf .u64 l1 = c1 at *
  generalize cellsOf .u64 l2 = c2 at *
  generalize cellsOf .u64 l3 = c3 at *
  generalize cellsOf .u64 l4 = c4 at *
  generalize cellsOf .u64 l5 = c5 at *
  generalize cellsOf .u64 l6 = c6 at *
  generalize cellsOf .u64 l7 = c7 at *
  generalize cellsOf .u64 l8 = c8 at *
  generalize cellsOf .u64 l9 = c9 at *
  generalize cellsOf .u64 l10 = c10 at *
  generalize cellsOf .u64 l11 = c11 at *
  clear hca hcb
  go_enter Try.func7, Try.ntmps7
  go_wp2
  have hl0 := mem_loads (Mem.drew M1.out) HA.out
  have hl1 := mem_loads (Mem.drew M2.out) HB_.out
  rw [← HCA.out] at hl0
  rw [← HCB.out] at hl1
  refine start_ (n := 22) (S := fun w' => (loadVar 42 ⟨w.heap.size, 0, none⟩).run Try.prog w' = .ok (.agg ca) w' ∧ (loadVar 42 ⟨w.heap.size + 1, 0, none⟩).run Try.prog w' = .ok (.agg cb) w') (ds := []) #[false, false, false, false, false, false, false, false, false, false, false, false, false, false, false, false, false, false, false, false, false, false] (by kernel_rfl) rfl rfl ⟨hl0, hl1⟩ (fun hHeld => ?_)
  refine take_ (i := 0) (N := some 5) (v := ?_) (a' := ?_) #[true, false, false, false, false, false, false, false, false, false, false, false, false, false, false, false, false, false, false, false, false, false] rfl rfl (by kernel_rfl) (fun _ _ _ h => h) (Or.inl ⟨by rfl, ?_⟩) hHeld ?_ ?_
  rotate_left
  · rintro w' ⟨s0, s1⟩
    refine (load_yields rfl rfl s0).trans ?_
    with_reducible rfl
  rotate_left
  · simp only [Act.put, List.setIfInBounds_toArray, List.set_cons_zero, List.set_cons_succ, i64_w, i32_w]
    rfl
  refine take_ (i := 1) (N := some 6) (v := ?_) (a' := ?_) #[true, true, false, false, false, false, false, false, false, false, false, false, false, false, false, false, false, false, false, false, false, false] rfl rfl (by kernel_rfl) (fun _ _ _ h => h) (Or.inl ⟨by rfl, ?_⟩) hHeld ?_ ?_
  rotate_left
  · rintro w' ⟨s0, s1⟩
    refine (load_yields rfl rfl s1).trans ?_
    with_reducible rfl
  rotate_left
  · simp only [Act.put, List.setIfInBounds_toArray, List.set_cons_zero, List.set_cons_succ, i64_w, i32_w]
    rfl
  refine take_ (i := 4) (N := some 9) (v := ?_) (a' := ?_) #[true, true, false, false, true, false, false, false, false, false, false, false, false, false, false, false, false, false, false, false, false, false] rfl rfl (by kernel_rfl) (fun _ _ _ h => h) (Or.inl ⟨by rfl, ?_⟩) hHeld ?_ ?_
  rotate_left
  · rintro w' ⟨s0, s1⟩
    refine (load_yields rfl rfl s0).trans ?_
    with_reducible rfl
  rotate_left
  · simp only [Act.put, List.setIfInBounds_toArray, List.set_cons_zero, List.set_cons_succ, i64_w, i32_w]
    rfl
  refine take_ (i := 6) (N := some 11) (v := ?_) (a' := ?_) #[true, true, false, false, true, false, true, false, false, false, false, false, false, false, false, false, false, false, false, false, false, false] rfl rfl (by kernel_rfl) (fun _ _ _ h => h) (Or.inl ⟨by rfl, ?_⟩) hHeld ?_ ?_
  rotate_left
  · rintro w' ⟨s0, s1⟩
    refine (load_yields rfl rfl s1).trans ?_
    with_reducible rfl
  rotate_left
  · simp only [Act.put, List.setIfInBounds_toArray, List.set_cons_zero, List.set_cons_succ, i64_w, i32_w]
    rfl
  refine one_ (i := 2) (N := some 7) #[true, true, true, false, true, false, true, false, false, false, false, false, false, false, false, false, false, false, false, false, false, false] rfl rfl (by kernel_rfl) (by decide) (fun K hK => ?_)
  refine goes_ Try.func41 (by kernel_rfl) rfl #[.agg ca, .agg cb] (by rfl) rfl rfl (by simp only [List.map_toArray, List.map_cons, List.map_nil]; rfl) ?_
  with_reducible refine (C1.out.q _).mono ?_
  rintro e w21 ⟨rfl, hb21⟩
  refine ⟨_, rfl, ?_⟩
  have M1 := Aside0.mk (Mem.drew M1.out)
  have M2 := Aside0.mk (Mem.drew M2.out)
  have HB := Aside0.mk (below_drew HB.out)
  have M1 := Aside0.mk (Mem.below M1.out hb21)
  have M2 := Aside0.mk (Mem.below M2.out hb21)
  have HB := Aside0.mk (below_step HB.out hb21)
  refine hK.out _ _ ⟨(by have := mem_loads M1.out HA.out; rw [← HCA.out] at this; exact this), (by have := mem_loads M2.out HB_.out; rw [← HCB.out] at this; exact this)⟩ (fun hHeld => ?_)
  clear hK K
  refine norm_ (a' := ?_) ?_ ?_
  rotate_left
  · show Act.put _ (some 7) _ = _
    simp only [Act.put, List.setIfInBounds_toArray, List.set_cons_zero, List.set_cons_succ, i64_w, i32_w]
    rfl
  refine one_ (i := 3) (N := some 8) #[true, true, true, true, true, false, true, false, false, false, false, false, false, false, false, false, false, false, false, false, false, false] rfl rfl (by kernel_rfl) (by decide) (fun K hK => ?_)
  refine goes_ Try.func32 (by kernel_rfl) rfl #[.agg c3] (by rfl) rfl rfl (by simp only [List.map_toArray, List.map_cons, List.map_nil]; rfl) ?_
  with_reducible refine (C2.out.q _).mono ?_
  rintro e w22 ⟨rfl, hb22⟩
  refine ⟨_, rfl, ?_⟩
  have M1 := Aside0.mk (Mem.below M1.out hb22)
  have M2 := Aside0.mk (Mem.below M2.out hb22)
  have HB := Aside0.mk (below_step HB.out hb22)
  refine hK.out _ _ ⟨(by have := mem_loads M1.out HA.out; rw [← HCA.out] at this; exact this), (by have := mem_loads M2.out HB_.out; rw [← HCB.out] at this; exact this)⟩ (fun hHeld => ?_)
  clear hK K
  refine norm_ (a' := ?_) ?_ ?_
  rotate_left
  · show Act.put _ (some 8) _ = _
    simp only [Act.put, List.setIfInBounds_toArray, List.set_cons_zero, List.set_cons_succ, i64_w, i32_w]
    rfl
  refine one_ (i := 5) (N := some 10) #[true, true, true, true, true, true, true, false, false, false, false, false, false, false, false, false, false, false, false, false, false, false] rfl rfl (by kernel_rfl) (by decide) (fun K hK => ?_)
  refine goes_ Try.func32 (by kernel_rfl) rfl #[.agg ca] (by rfl) rfl rfl (by simp only [List.map_toArray, List.map_cons, List.map_nil]; rfl) ?_
  with_reducible refine (C3.out.q _).mono ?_
  rintro e w23 ⟨rfl, hb23⟩
  refine ⟨_, rfl, ?_⟩
  have M1 := Aside0.mk (Mem.below M1.out hb23)
  have M2 := Aside0.mk (Mem.below M2.out hb23)
  have HB := Aside0.mk (below_step HB.out hb23)
  refine hK.out _ _ ⟨(by have := mem_loads M1.out HA.out; rw [← HCA.out] at this; exact this), (by have := mem_loads M2.out HB_.out; rw [← HCB.out] at this; exact this)⟩ (fun hHeld => ?_)
  clear hK K
  refine norm_ (a' := ?_) ?_ ?_
  rotate_left
  · show Act.put _ (some 10) _ = _
    simp only [Act.put, List.setIfInBounds_toArray, List.set_cons_zero, List.set_cons_succ, i64_w, i32_w]
    rfl
  refine one_ (i := 7) (N := some 12) #[true, true, true, true, true, true, true, true, false, false, false, false, false, false, false, false, false, false, false, false, false, false] rfl rfl (by kernel_rfl) (by decide) (fun K hK => ?_)
  refine goes_ Try.func32 (by kernel_rfl) rfl #[.agg cb] (by rfl) rfl rfl (by simp only [List.map_toArray, List.map_cons, List.map_nil]; rfl) ?_
  with_reducible refine (C4.out.q _).mono ?_
  rintro e w24 ⟨rfl, hb24⟩
  refine ⟨_, rfl, ?_⟩
  have M1 := Aside0.mk (Mem.below M1.out hb24)
  have M2 := Aside0.mk (Mem.below M2.out hb24)
  have HB := Aside0.mk (below_step HB.out hb24)
  refine hK.out _ _ ⟨(by have := mem_loads M1.out HA.out; rw [← HCA.out] at this; exact this), (by have := mem_loads M2.out HB_.out; rw [← HCB.out] at this; exact this)⟩ (fun hHeld => ?_)
  clear hK K
  refine norm_ (a' := ?_) ?_ ?_
  rotate_left
  · show Act.put _ (some 12) _ = _
    simp only [Act.put, List.setIfInBounds_toArray, List.set_cons_zero, List.set_cons_succ, i64_w, i32_w]
    rfl
  refine one_ (i := 8) (N := some 13) #[true, true, true, true, true, true, true, true, true, false, false, false, false, false, false, false, false, false, false, false, false, false] rfl rfl (by kernel_rfl) (by decide) (fun K hK => ?_)
  refine goes_ Try.func41 (by kernel_rfl) rfl #[.agg c4, .agg c5] (by rfl) rfl rfl (by simp only [List.map_toArray, List.map_cons, List.map_nil]; rfl) ?_
  with_reducible refine (C5.out.q _).mono ?_
  rintro e w25 ⟨rfl, hb25⟩
  refine ⟨_, rfl, ?_⟩
  have M1 := Aside0.mk (Mem.below M1.out hb25)
  have M2 := Aside0.mk (Mem.below M2.out hb25)
  have HB := Aside0.mk (below_step HB.out hb25)
  refine hK.out _ _ ⟨(by have := mem_loads M1.out HA.out; rw [← HCA.out] at this; exact this), (by have := mem_loads M2.out HB_.out; rw [← HCB.out] at this; exact this)⟩ (fun hHeld => ?_)
  clear hK K
  refine norm_ (a' := ?_) ?_ ?_
  rotate_left
  · show Act.put _ (some 13) _ = _
    simp only [Act.put, List.setIfInBounds_toArray, List.set_cons_zero, List.set_cons_succ, i64_w, i32_w]
    rfl
  refine pure_ (i := 9) (N := some 14) (v := ?_) (a' := ?_) #[true, true, true, true, true, true, true, true, true, true, false, false, false, false, false, false, false, false, false, false, false, false] rfl rfl (by kernel_rfl) (fun _ _ _ h => h) (Or.inl ⟨by rfl, ?_⟩) ?_ ?_
  rotate_left
  · intro w'
    refine (eql_yields rfl rfl rfl guard42 (E1 w')).trans ?_
    with_reducible rfl
  rotate_left
  · simp only [Act.put, List.setIfInBounds_toArray, List.set_cons_zero, List.set_cons_succ, i64_w, i32_w]
    rfl
  refine pure_ (i := 10) (N := some 15) (v := ?_) (a' := ?_) #[true, true, true, true, true, true, true, true, true, true, true, false, false, false, false, false, false, false, false, false, false, false] rfl rfl (by kernel_rfl) (fun _ _ _ h => h) (Or.inl ⟨by rfl, ?_⟩) ?_ ?_
  rotate_left
  · intro w'
    go_simp
    with_reducible rfl
  rotate_left
  · simp only [Act.put, List.setIfInBounds_toArray, List.set_cons_zero, List.set_cons_succ, i64_w, i32_w]
    rfl
  refine take_ (i := 11) (N := some 16) (v := ?_) (a' := ?_) #[true, true, true, true, true, true, true, true, true, true, true, true, false, false, false, false, false, false, false, false, false, false] rfl rfl (by kernel_rfl) (fun _ _ _ h => h) (Or.inl ⟨by rfl, ?_⟩) hHeld ?_ ?_
  rotate_left
  · rintro w' ⟨s0, s1⟩
    refine (load_yields rfl rfl s0).trans ?_
    with_reducible rfl
  rotate_left
  · simp only [Act.put, List.setIfInBounds_toArray, List.set_cons_zero, List.set_cons_succ, i64_w, i32_w]
    rfl
  refine take_ (i := 12) (N := some 17) (v := ?_) (a' := ?_) #[true, true, true, true, true, true, true, true, true, true, true, true, true, false, false, false, false, false, false, false, false, false] rfl rfl (by kernel_rfl) (fun _ _ _ h => h) (Or.inl ⟨by rfl, ?_⟩) hHeld ?_ ?_
  rotate_left
  · rintro w' ⟨s0, s1⟩
    refine (load_yields rfl rfl s1).trans ?_
    with_reducible rfl
  rotate_left
  · simp only [Act.put, List.setIfInBounds_toArray, List.set_cons_zero, List.set_cons_succ, i64_w, i32_w]
    rfl
  refine take_ (i := 15) (N := some 20) (v := ?_) (a' := ?_) #[true, true, true, true, true, true, true, true, true, true, true, true, true, false, false, true, false, false, false, false, false, false] rfl rfl (by kernel_rfl) (fun _ _ _ h => h) (Or.inl ⟨by rfl, ?_⟩) hHeld ?_ ?_
  rotate_left
  · rintro w' ⟨s0, s1⟩
    refine (load_yields rfl rfl s0).trans ?_
    with_reducible rfl
  rotate_left
  · simp only [Act.put, List.setIfInBounds_toArray, List.set_cons_zero, List.set_cons_succ, i64_w, i32_w]
    rfl
  refine take_ (i := 17) (N := some 22) (v := ?_) (a' := ?_) #[true, true, true, true, true, true, true, true, true, true, true, true, true, false, false, true, false, true, false, false, false, false] rfl rfl (by kernel_rfl) (fun _ _ _ h => h) (Or.inl ⟨by rfl, ?_⟩) hHeld ?_ ?_
  rotate_left
  · rintro w' ⟨s0, s1⟩
    refine (load_yields rfl rfl s1).trans ?_
    with_reducible rfl
  rotate_left
  · simp only [Act.put, List.setIfInBounds_toArray, List.set_cons_zero, List.set_cons_succ, i64_w, i32_w]
    rfl
  refine one_ (i := 13) (N := some 18) #[true, true, true, true, true, true, true, true, true, true, true, true, true, true, false, true, false, true, false, false, false, false] rfl rfl (by kernel_rfl) (by decide) (fun K hK => ?_)
  refine goes_ Try.func41 (by kernel_rfl) rfl #[.agg ca, .agg cb] (by rfl) rfl rfl (by simp only [List.map_toArray, List.map_cons, List.map_nil]; rfl) ?_
  with_reducible refine (C1.out.q _).mono ?_
  rintro e w26 ⟨rfl, hb26⟩
  refine ⟨_, rfl, ?_⟩
  have M1 := Aside0.mk (Mem.below M1.out hb26)
  have M2 := Aside0.mk (Mem.below M2.out hb26)
  have HB := Aside0.mk (below_step HB.out hb26)
  refine hK.out _ _ ⟨(by have := mem_loads M1.out HA.out; rw [← HCA.out] at this; exact this), (by have := mem_loads M2.out HB_.out; rw [← HCB.out] at this; exact this)⟩ (fun hHeld => ?_)
  clear hK K
  refine norm_ (a' := ?_) ?_ ?_
  rotate_left
  · show Act.put _ (some 18) _ = _
    simp only [Act.put, List.setIfInBounds_toArray, List.set_cons_zero, List.set_cons_succ, i64_w, i32_w]
    rfl
  refine one_ (i := 14) (N := some 19) #[true, true, true, true, true, true, true, true, true, true, true, true, true, true, true, true, false, true, false, false, false, false] rfl rfl (by kernel_rfl) (by decide) (fun K hK => ?_)
  refine goes_ Try.func34 (by kernel_rfl) rfl #[.agg c3] (by rfl) rfl rfl (by simp only [List.map_toArray, List.map_cons, List.map_nil]; rfl) ?_
  with_reducible refine (C6.out.q _).mono ?_
  rintro e w27 ⟨rfl, hb27⟩
  refine ⟨_, rfl, ?_⟩
  have M1 := Aside0.mk (Mem.below M1.out hb27)
  have M2 := Aside0.mk (Mem.below M2.out hb27)
  have HB := Aside0.mk (below_step HB.out hb27)
  refine hK.out _ _ ⟨(by have := mem_loads M1.out HA.out; rw [← HCA.out] at this; exact this), (by have := mem_loads M2.out HB_.out; rw [← HCB.out] at this; exact this)⟩ (fun hHeld => ?_)
  clear hK K
  refine norm_ (a' := ?_) ?_ ?_
  rotate_left
  · show Act.put _ (some 19) _ = _
    simp only [Act.put, List.setIfInBounds_toArray, List.set_cons_zero, List.set_cons_succ, i64_w, i32_w]
    rfl
  refine one_ (i := 16) (N := some 21) #[true, true, true, true, true, true, true, true, true, true, true, true, true, true, true, true, true, true, false, false, false, false] rfl rfl (by kernel_rfl) (by decide) (fun K hK => ?_)
  refine goes_ Try.func34 (by kernel_rfl) rfl #[.agg ca] (by rfl) rfl rfl (by simp only [List.map_toArray, List.map_cons, List.map_nil]; rfl) ?_
  with_reducible refine (C7.out.q _).mono ?_
  rintro e w28 ⟨rfl, hb28⟩
  refine ⟨_, rfl, ?_⟩
  have M1 := Aside0.mk (Mem.below M1.out hb28)
  have M2 := Aside0.mk (Mem.below M2.out hb28)
  have HB := Aside0.mk (below_step HB.out hb28)
  refine hK.out _ _ ⟨(by have := mem_loads M1.out HA.out; rw [← HCA.out] at this; exact this), (by have := mem_loads M2.out HB_.out; rw [← HCB.out] at this; exact this)⟩ (fun hHeld => ?_)
  clear hK K
  refine norm_ (a' := ?_) ?_ ?_
  rotate_left
  · show Act.put _ (some 21) _ = _
    simp only [Act.put, List.setIfInBounds_toArray, List.set_cons_zero, List.set_cons_succ, i64_w, i32_w]
    rfl
  refine one_ (i := 18) (N := some 23) #[true, true, true, true, true, true, true, true, true, true, true, true, true, true, true, true, true, true, true, false, false, false] rfl rfl (by kernel_rfl) (by decide) (fun K hK => ?_)
  refine goes_ Try.func34 (by kernel_rfl) rfl #[.agg cb] (by rfl) rfl rfl (by simp only [List.map_toArray, List.map_cons, List.map_nil]; rfl) ?_
  with_reducible refine (C8.out.q _).mono ?_
  rintro e w29 ⟨rfl, hb29⟩
  refine ⟨_, rfl, ?_⟩
  have M1 := Aside0.mk (Mem.below M1.out hb29)
  have M2 := Aside0.mk (Mem.below M2.out hb29)
  have HB := Aside0.mk (below_step HB.out hb29)
  refine hK.out _ _ ⟨(by have := mem_loads M1.out HA.out; rw [← HCA.out] at this; exact this), (by have := mem_loads M2.out HB_.out; rw [← HCB.out] at this; exact this)⟩ (fun hHeld => ?_)
  clear hK K
  refine norm_ (a' := ?_) ?_ ?_
  rotate_left
  · show Act.put _ (some 23) _ = _
    simp only [Act.put, List.setIfInBounds_toArray, List.set_cons_zero, List.set_cons_succ, i64_w, i32_w]
    rfl
  refine one_ (i := 19) (N := some 24) #[true, true, true, true, true, true, true, true, true, true, true, true, true, true, true, true, true, true, true, true, false, false] rfl rfl (by kernel_rfl) (by decide) (fun K hK => ?_)
  refine goes_ Try.func41 (by kernel_rfl) rfl #[.agg c6, .agg c7] (by rfl) rfl rfl (by simp only [List.map_toArray, List.map_cons, List.map_nil]; rfl) ?_
  with_reducible refine (C9.out.q _).mono ?_
  rintro e w30 ⟨rfl, hb30⟩
  refine ⟨_, rfl, ?_⟩
  have M1 := Aside0.mk (Mem.below M1.out hb30)
  have M2 := Aside0.mk (Mem.below M2.out hb30)
  have HB := Aside0.mk (below_step HB.out hb30)
  refine hK.out _ _ ⟨(by have := mem_loads M1.out HA.out; rw [← HCA.out] at this; exact this), (by have := mem_loads M2.out HB_.out; rw [← HCB.out] at this; exact this)⟩ (fun hHeld => ?_)
  clear hK K
  refine norm_ (a' := ?_) ?_ ?_
  rotate_left
  · show Act.put _ (some 24) _ = _
    simp only [Act.put, List.setIfInBounds_toArray, List.set_cons_zero, List.set_cons_succ, i64_w, i32_w]
    rfl
  refine pure_ (i := 20) (N := some 25) (v := ?_) (a' := ?_) #[true, true, true, true, true, true, true, true, true, true, true, true, true, true, true, true, true, true, true, true, true, false] rfl rfl (by kernel_rfl) (fun _ _ _ h => h) (Or.inl ⟨by rfl, ?_⟩) ?_ ?_
  rotate_left
  · intro w'
    refine (eql_yields rfl rfl rfl guard42 (E2 w')).trans ?_
    with_reducible rfl
  rotate_left
  · simp only [Act.put, List.setIfInBounds_toArray, List.set_cons_zero, List.set_cons_succ, i64_w, i32_w]
    rfl
  refine pure_ (i := 21) (N := some 26) (v := ?_) (a' := ?_) #[true, true, true, true, true, true, true, true, true, true, true, true, true, true, true, true, true, true, true, true, true, true] rfl rfl (by kernel_rfl) (fun _ _ _ h => h) (Or.inl ⟨by rfl, ?_⟩) ?_ ?_
  rotate_left
  · intro w'
    go_simp
    with_reducible rfl
  rotate_left
  · simp only [Act.put, List.setIfInBounds_toArray, List.set_cons_zero, List.set_cons_succ, i64_w, i32_w]
    rfl
  refine done_ (by kernel_rfl) ?_
  clear hl0 hl1
  go_wp2
  have hl0 := mem_loads (Mem.drew M1.out) HA.out
  have hl1 := mem_loads (Mem.drew M2.out) HB_.out
  rw [← HCA.out] at hl0
  rw [← HCB.out] at hl1
  refine start_ (n := 35) (S := fun w' => (loadVar 42 ⟨w.heap.size, 0, none⟩).run Try.prog w' = .ok (.agg ca) w' ∧ (loadVar 42 ⟨w.heap.size + 1, 0, none⟩).run Try.prog w' = .ok (.agg cb) w') (ds := []) #[false, false, false, false, false, false, false, false, false, false, false, false, false, false, false, false, false, false, false, false, false, false, false, false, false, false, false, false, false, false, false, false, false, false, false] (by kernel_rfl) rfl rfl ⟨hl0, hl1⟩ (fun hHeld => ?_)
  refine take_ (i := 0) (N := some 27) (v := ?_) (a' := ?_) #[true, false, false, false, false, false, false, false, false, false, false, false, false, false, false, false, false, false, false, false, false, false, false, false, false, false, false, false, false, false, false, false, false, false, false] rfl rfl (by kernel_rfl) (fun _ _ _ h => h) (Or.inl ⟨by rfl, ?_⟩) hHeld ?_ ?_
  rotate_left
  · rintro w' ⟨s0, s1⟩
    refine (load_yields rfl rfl s0).trans ?_
    with_reducible rfl
  rotate_left
  · simp only [Act.put, List.setIfInBounds_toArray, List.set_cons_zero, List.set_cons_succ, i64_w, i32_w]
    rfl
  refine take_ (i := 2) (N := some 29) (v := ?_) (a' := ?_) #[true, false, true, false, false, false, false, false, false, false, false, false, false, false, false, false, false, false, false, false, false, false, false, false, false, false, false, false, false, false, false, false, false, false, false] rfl rfl (by kernel_rfl) (fun _ _ _ h => h) (Or.inl ⟨by rfl, ?_⟩) hHeld ?_ ?_
  rotate_left
  · rintro w' ⟨s0, s1⟩
    refine (load_yields rfl rfl s1).trans ?_
    with_reducible rfl
  rotate_left
  · simp only [Act.put, List.setIfInBounds_toArray, List.set_cons_zero, List.set_cons_succ, i64_w, i32_w]
    rfl
  refine take_ (i := 5) (N := some 32) (v := ?_) (a' := ?_) #[true, false, true, false, false, true, false, false, false, false, false, false, false, false, false, false, false, false, false, false, false, false, false, false, false, false, false, false, false, false, false, false, false, false, false] rfl rfl (by kernel_rfl) (fun _ _ _ h => h) (Or.inl ⟨by rfl, ?_⟩) hHeld ?_ ?_
  rotate_left
  · rintro w' ⟨s0, s1⟩
    refine (load_yields rfl rfl s0).trans ?_
    with_reducible rfl
  rotate_left
  · simp only [Act.put, List.setIfInBounds_toArray, List.set_cons_zero, List.set_cons_succ, i64_w, i32_w]
    rfl
  refine take_ (i := 6) (N := some 33) (v := ?_) (a' := ?_) #[true, false, true, false, false, true, true, false, false, false, false, false, false, false, false, false, false, false, false, false, false, false, false, false, false, false, false, false, false, false, false, false, false, false, false] rfl rfl (by kernel_rfl) (fun _ _ _ h => h) (Or.inl ⟨by rfl, ?_⟩) hHeld ?_ ?_
  rotate_left
  · rintro w' ⟨s0, s1⟩
    refine (load_yields rfl rfl s1).trans ?_
    with_reducible rfl
  rotate_left
  · simp only [Act.put, List.setIfInBounds_toArray, List.set_cons_zero, List.set_cons_succ, i64_w, i32_w]
    rfl
  refine pure_ (i := 7) (N := some 34) (v := ?_) (a' := ?_) #[true, false, true, false, false, true, true, true, false, false, false, false, false, false, false, false, false, false, false, false, false, false, false, false, false, false, false, false, false, false, false, false, false, false, false] rfl rfl (by kernel_rfl) (fun _ _ _ h => h) (Or.inl ⟨by rfl, ?_⟩) ?_ ?_
  rotate_left
  · intro w'
    refine (eql_yields rfl rfl rfl guard42 (E3 w')).trans ?_
    with_reducible rfl
  rotate_left
  · simp only [Act.put, List.setIfInBounds_toArray, List.set_cons_zero, List.set_cons_succ, i64_w, i32_w]
    rfl
  refine one_ (i := 1) (N := some 28) #[true, true, true, false, false, true, true, true, false, false, false, false, false, false, false, false, false, false, false, false, false, false, false, false, false, false, false, false, false, false, false, false, false, false, false] rfl rfl (by kernel_rfl) (by decide) (fun K hK => ?_)
  refine goes_ Try.func38 (by kernel_rfl) rfl #[.agg ca] (by rfl) rfl rfl (by simp only [List.map_toArray, List.map_cons, List.map_nil]; rfl) ?_
  with_reducible refine (C10.out.q _).mono ?_
  rintro e w31 ⟨rfl, hb31⟩
  refine ⟨_, rfl, ?_⟩
  have M1 := Aside0.mk (Mem.drew M1.out)
  have M2 := Aside0.mk (Mem.drew M2.out)
  have HB := Aside0.mk (below_drew HB.out)
  have M1 := Aside0.mk (Mem.below M1.out hb31)
  have M2 := Aside0.mk (Mem.below M2.out hb31)
  have HB := Aside0.mk (below_step HB.out hb31)
  refine hK.out _ _ ⟨(by have := mem_loads M1.out HA.out; rw [← HCA.out] at this; exact this), (by have := mem_loads M2.out HB_.out; rw [← HCB.out] at this; exact this)⟩ (fun hHeld => ?_)
  clear hK K
  refine norm_ (a' := ?_) ?_ ?_
  rotate_left
  · show Act.put _ (some 28) _ = _
    simp only [Act.put, List.setIfInBounds_toArray, List.set_cons_zero, List.set_cons_succ, i64_w, i32_w]
    rfl
  refine one_ (i := 3) (N := some 30) #[true, true, true, true, false, true, true, true, false, false, false, false, false, false, false, false, false, false, false, false, false, false, false, false, false, false, false, false, false, false, false, false, false, false, false] rfl rfl (by kernel_rfl) (by decide) (fun K hK => ?_)
  refine goes_ Try.func38 (by kernel_rfl) rfl #[.agg cb] (by rfl) rfl rfl (by simp only [List.map_toArray, List.map_cons, List.map_nil]; rfl) ?_
  with_reducible refine (C11.out.q _).mono ?_
  rintro e w32 ⟨rfl, hb32⟩
  refine ⟨_, rfl, ?_⟩
  have M1 := Aside0.mk (Mem.below M1.out hb32)
  have M2 := Aside0.mk (Mem.below M2.out hb32)
  have HB := Aside0.mk (below_step HB.out hb32)
  refine hK.out _ _ ⟨(by have := mem_loads M1.out HA.out; rw [← HCA.out] at this; exact this), (by have := mem_loads M2.out HB_.out; rw [← HCB.out] at this; exact this)⟩ (fun hHeld => ?_)
  clear hK K
  refine norm_ (a' := ?_) ?_ ?_
  rotate_left
  · show Act.put _ (some 30) _ = _
    simp only [Act.put, List.setIfInBounds_toArray, List.set_cons_zero, List.set_cons_succ, i64_w, i32_w]
    rfl
  refine pure_ (i := 4) (N := some 31) (v := ?_) (a' := ?_) #[true, true, true, true, true, true, true, true, false, false, false, false, false, false, false, false, false, false, false, false, false, false, false, false, false, false, false, false, false, false, false, false, false, false, false] rfl rfl (by kernel_rfl) (fun _ _ _ h => h) (Or.inl ⟨by rfl, ?_⟩) ?_ ?_
  rotate_left
  · intro w'
    refine (eql_yields rfl rfl rfl guard42 (E4 w')).trans ?_
    with_reducible rfl
  rotate_left
  · simp only [Act.put, List.setIfInBounds_toArray, List.set_cons_zero, List.set_cons_succ, i64_w, i32_w]
    rfl
  refine pure_ (i := 8) (N := some 35) (v := ?_) (a' := ?_) #[true, true, true, true, true, true, true, true, true, false, false, false, false, false, false, false, false, false, false, false, false, false, false, false, false, false, false, false, false, false, false, false, false, false, false] rfl rfl (by kernel_rfl) (fun _ _ _ h => h) (Or.inl ⟨by rfl, ?_⟩) ?_ ?_
  rotate_left
  · intro w'
    go_simp
    with_reducible rfl
  rotate_left
  · simp only [Act.put, List.setIfInBounds_toArray, List.set_cons_zero, List.set_cons_succ, i64_w, i32_w]
    rfl
  refine pure_ (i := 9) (N := some 36) (v := ?_) (a' := ?_) #[true, true, true, true, true, true, true, true, true, true, false, false, false, false, false, false, false, false, false, false, false, false, false, false, false, false, false, false, false, false, false, false, false, false, false] rfl rfl (by kernel_rfl) (fun _ _ _ h => h) (Or.inl ⟨by rfl, ?_⟩) ?_ ?_
  rotate_left
  · intro w'
    go_simp
    with_reducible rfl
  rotate_left
  · simp only [Act.put, List.setIfInBounds_toArray, List.set_cons_zero, List.set_cons_succ, i64_w, i32_w]
    rfl
  refine take_ (i := 10) (N := some 37) (v := ?_) (a' := ?_) #[true, true, true, true, true, true, true, true, true, true, true, false, false, false, false, false, false, false, false, false, false, false, false, false, false, false, false, false, false, false, false, false, false, false, false] rfl rfl (by kernel_rfl) (fun _ _ _ h => h) (Or.inl ⟨by rfl, ?_⟩) hHeld ?_ ?_
  rotate_left
  · rintro w' ⟨s0, s1⟩
    refine (load_yields rfl rfl s0).trans ?_
    with_reducible rfl
  rotate_left
  · simp only [Act.put, List.setIfInBounds_toArray, List.set_cons_zero, List.set_cons_succ, i64_w, i32_w]
    rfl
  refine take_ (i := 12) (N := some 39) (v := ?_) (a' := ?_) #[true, true, true, true, true, true, true, true, true, true, true, false, true, false, false, false, false, false, false, false, false, false, false, false, false, false, false, false, false, false, false, false, false, false, false] rfl rfl (by kernel_rfl) (fun _ _ _ h => h) (Or.inl ⟨by rfl, ?_⟩) hHeld ?_ ?_
  rotate_left
  · rintro w' ⟨s0, s1⟩
    refine (load_yields rfl rfl s1).trans ?_
    with_reducible rfl
  rotate_left
  · simp only [Act.put, List.setIfInBounds_toArray, List.set_cons_zero, List.set_cons_succ, i64_w, i32_w]
    rfl
  refine take_ (i := 15) (N := some 42) (v := ?_) (a' := ?_) #[true, true, true, true, true, true, true, true, true, true, true, false, true, false, false, true, false, false, false, false, false, false, false, false, false, false, false, false, false, false, false, false, false, false, false] rfl rfl (by kernel_rfl) (fun _ _ _ h => h) (Or.inl ⟨by rfl, ?_⟩) hHeld ?_ ?_
  rotate_left
  · rintro w' ⟨s0, s1⟩
    refine (load_yields rfl rfl s0).trans ?_
    with_reducible rfl
  rotate_left
  · simp only [Act.put, List.setIfInBounds_toArray, List.set_cons_zero, List.set_cons_succ, i64_w, i32_w]
    rfl
  refine take_ (i := 16) (N := some 43) (v := ?_) (a' := ?_) #[true, true, true, true, true, true, true, true, true, true, true, false, true, false, false, true, true, false, false, false, false, false, false, false, false, false, false, false, false, false, false, false, false, false, false] rfl rfl (by kernel_rfl) (fun _ _ _ h => h) (Or.inl ⟨by rfl, ?_⟩) hHeld ?_ ?_
  rotate_left
  · rintro w' ⟨s0, s1⟩
    refine (load_yields rfl rfl s1).trans ?_
    with_reducible rfl
  rotate_left
  · simp only [Act.put, List.setIfInBounds_toArray, List.set_cons_zero, List.set_cons_succ, i64_w, i32_w]
    rfl
  refine pure_ (i := 17) (N := some 44) (v := ?_) (a' := ?_) #[true, true, true, true, true, true, true, true, true, true, true, false, true, false, false, true, true, true, false, false, false, false, false, false, false, false, false, false, false, false, false, false, false, false, false] rfl rfl (by kernel_rfl) (fun _ _ _ h => h) (Or.inl ⟨by rfl, ?_⟩) ?_ ?_
  rotate_left
  · intro w'
    refine (eql_yields rfl rfl rfl guard42 (E3 w')).trans ?_
    with_reducible rfl
  rotate_left
  · simp only [Act.put, List.setIfInBounds_toArray, List.set_cons_zero, List.set_cons_succ, i64_w, i32_w]
    rfl
  refine one_ (i := 11) (N := some 38) #[true, true, true, true, true, true, true, true, true, true, true, true, true, false, false, true, true, true, false, false, false, false, false, false, false, false, false, false, false, false, false, false, false, false, false] rfl rfl (by kernel_rfl) (by decide) (fun K hK => ?_)
  refine goes_ Try.func36 (by kernel_rfl) rfl #[.agg ca] (by rfl) rfl rfl (by simp only [List.map_toArray, List.map_cons, List.map_nil]; rfl) ?_
  with_reducible refine (C12.out.q _).mono ?_
  rintro e w33 ⟨rfl, hb33⟩
  refine ⟨_, rfl, ?_⟩
  have M1 := Aside0.mk (Mem.below M1.out hb33)
  have M2 := Aside0.mk (Mem.below M2.out hb33)
  have HB := Aside0.mk (below_step HB.out hb33)
  refine hK.out _ _ ⟨(by have := mem_loads M1.out HA.out; rw [← HCA.out] at this; exact this), (by have := mem_loads M2.out HB_.out; rw [← HCB.out] at this; exact this)⟩ (fun hHeld => ?_)
  clear hK K
  refine norm_ (a' := ?_) ?_ ?_
  rotate_left
  · show Act.put _ (some 38) _ = _
    simp only [Act.put, List.setIfInBounds_toArray, List.set_cons_zero, List.set_cons_succ, i64_w, i32_w]
    rfl
  refine one_ (i := 13) (N := some 40) #[true, true, true, true, true, true, true, true, true, true, true, true, true, true, false, true, true, true, false, false, false, false, false, false, false, false, false, false, false, false, false, false, false, false, false] rfl rfl (by kernel_rfl) (by decide) (fun K hK => ?_)
  refine goes_ Try.func36 (by kernel_rfl) rfl #[.agg cb] (by rfl) rfl rfl (by simp only [List.map_toArray, List.map_cons, List.map_nil]; rfl) ?_
  with_reducible refine (C13.out.q _).mono ?_
  rintro e w34 ⟨rfl, hb34⟩
  refine ⟨_, rfl, ?_⟩
  have M1 := Aside0.mk (Mem.below M1.out hb34)
  have M2 := Aside0.mk (Mem.below M2.out hb34)
  have HB := Aside0.mk (below_step HB.out hb34)
  refine hK.out _ _ ⟨(by have := mem_loads M1.out HA.out; rw [← HCA.out] at this; exact this), (by have := mem_loads M2.out HB_.out; rw [← HCB.out] at this; exact this)⟩ (fun hHeld => ?_)
  clear hK K
  refine norm_ (a' := ?_) ?_ ?_
  rotate_left
  · show Act.put _ (some 40) _ = _
    simp only [Act.put, List.setIfInBounds_toArray, List.set_cons_zero, List.set_cons_succ, i64_w, i32_w]
    rfl
  refine pure_ (i := 14) (N := some 41) (v := ?_) (a' := ?_) #[true, true, true, true, true, true, true, true, true, true, true, true, true, true, true, true, true, true, false, false, false, false, false, false, false, false, false, false, false, false, false, false, false, false, false] rfl rfl (by kernel_rfl) (fun _ _ _ h => h) (Or.inl ⟨by rfl, ?_⟩) ?_ ?_
  rotate_left
  · intro w'
    refine (eql_yields rfl rfl rfl guard42 (E5 w')).trans ?_
    with_reducible rfl
  rotate_left
  · simp only [Act.put, List.setIfInBounds_toArray, List.set_cons_zero, List.set_cons_succ, i64_w, i32_w]
    rfl
  refine pure_ (i := 18) (N := some 45) (v := ?_) (a' := ?_) #[true, true, true, true, true, true, true, true, true, true, true, true, true, true, true, true, true, true, true, false, false, false, false, false, false, false, false, false, false, false, false, false, false, false, false] rfl rfl (by kernel_rfl) (fun _ _ _ h => h) (Or.inl ⟨by rfl, ?_⟩) ?_ ?_
  rotate_left
  · intro w'
    go_simp
    with_reducible rfl
  rotate_left
  · simp only [Act.put, List.setIfInBounds_toArray, List.set_cons_zero, List.set_cons_succ, i64_w, i32_w]
    rfl
  refine pure_ (i := 19) (N := some 46) (v := ?_) (a' := ?_) #[true, true, true, true, true, true, true, true, true, true, true, true, true, true, true, true, true, true, true, true, false, false, false, false, false, false, false, false, false, false, false, false, false, false, false] rfl rfl (by kernel_rfl) (fun _ _ _ h => h) (Or.inl ⟨by rfl, ?_⟩) ?_ ?_
  rotate_left
  · intro w'
    go_simp
    with_reducible rfl
  rotate_left
  · simp only [Act.put, List.setIfInBounds_toArray, List.set_cons_zero, List.set_cons_succ, i64_w, i32_w]
    rfl
  refine pure_ (i := 20) (N := some 47) (v := ?_) (a' := ?_) #[true, true, true, true, true, true, true, true, true, true, true, true, true, true, true, true, true, true, true, true, true, false, false, false, false, false, false, false, false, false, false, false, false, false, false] rfl rfl (by kernel_rfl) (fun _ _ _ h => h) (Or.inl ⟨by rfl, ?_⟩) ?_ ?_
  rotate_left
  · intro w'
    go_simp
    with_reducible rfl
  rotate_left
  · simp only [Act.put, List.setIfInBounds_toArray, List.set_cons_zero, List.set_cons_succ, i64_w, i32_w]
    rfl
  refine take_ (i := 21) (N := some 48) (v := ?_) (a' := ?_) #[true, true, true, true, true, true, true, true, true, true, true, true, true, true, true, true, true, true, true, true, true, true, false, false, false, false, false, false, false, false, false, false, false, false, false] rfl rfl (by kernel_rfl) (fun _ _ _ h => h) (Or.inl ⟨by rfl, ?_⟩) hHeld ?_ ?_
  rotate_left
  · rintro w' ⟨s0, s1⟩
    refine (load_yields rfl rfl s0).trans ?_
    with_reducible rfl
  rotate_left
  · simp only [Act.put, List.setIfInBounds_toArray, List.set_cons_zero, List.set_cons_succ, i64_w, i32_w]
    rfl
  refine take_ (i := 23) (N := some 50) (v := ?_) (a' := ?_) #[true, true, true, true, true, true, true, true, true, true, true, true, true, true, true, true, true, true, true, true, true, true, false, true, false, false, false, false, false, false, false, false, false, false, false] rfl rfl (by kernel_rfl) (fun _ _ _ h => h) (Or.inl ⟨by rfl, ?_⟩) hHeld ?_ ?_
  rotate_left
  · rintro w' ⟨s0, s1⟩
    refine (load_yields rfl rfl s1).trans ?_
    with_reducible rfl
  rotate_left
  · simp only [Act.put, List.setIfInBounds_toArray, List.set_cons_zero, List.set_cons_succ, i64_w, i32_w]
    rfl
  refine take_ (i := 26) (N := some 53) (v := ?_) (a' := ?_) #[true, true, true, true, true, true, true, true, true, true, true, true, true, true, true, true, true, true, true, true, true, true, false, true, false, false, true, false, false, false, false, false, false, false, false] rfl rfl (by kernel_rfl) (fun _ _ _ h => h) (Or.inl ⟨by rfl, ?_⟩) hHeld ?_ ?_
  rotate_left
  · rintro w' ⟨s0, s1⟩
    refine (load_yields rfl rfl s0).trans ?_
    with_reducible rfl
  rotate_left
  · simp only [Act.put, List.setIfInBounds_toArray, List.set_cons_zero, List.set_cons_succ, i64_w, i32_w]
    rfl
  refine take_ (i := 27) (N := some 54) (v := ?_) (a' := ?_) #[true, true, true, true, true, true, true, true, true, true, true, true, true, true, true, true, true, true, true, true, true, true, false, true, false, false, true, true, false, false, false, false, false, false, false] rfl rfl (by kernel_rfl) (fun _ _ _ h => h) (Or.inl ⟨by rfl, ?_⟩) hHeld ?_ ?_
  rotate_left
  · rintro w' ⟨s0, s1⟩
    refine (load_yields rfl rfl s1).trans ?_
    with_reducible rfl
  rotate_left
  · simp only [Act.put, List.setIfInBounds_toArray, List.set_cons_zero, List.set_cons_succ, i64_w, i32_w]
    rfl
  refine pure_ (i := 28) (N := some 55) (v := ?_) (a' := ?_) #[true, true, true, true, true, true, true, true, true, true, true, true, true, true, true, true, true, true, true, true, true, true, false, true, false, false, true, true, true, false, false, false, false, false, false] rfl rfl (by kernel_rfl) (fun _ _ _ h => h) (Or.inl ⟨by rfl, ?_⟩) ?_ ?_
  rotate_left
  · intro w'
    refine (eql_yields rfl rfl rfl guard42 (E3 w')).trans ?_
    with_reducible rfl
  rotate_left
  · simp only [Act.put, List.setIfInBounds_toArray, List.set_cons_zero, List.set_cons_succ, i64_w, i32_w]
    rfl
  refine one_ (i := 22) (N := some 49) #[true, true, true, true, true, true, true, true, true, true, true, true, true, true, true, true, true, true, true, true, true, true, true, true, false, false, true, true, true, false, false, false, false, false, false] rfl rfl (by kernel_rfl) (by decide) (fun K hK => ?_)
  refine goes_ Try.func32 (by kernel_rfl) rfl #[.agg ca] (by rfl) rfl rfl (by simp only [List.map_toArray, List.map_cons, List.map_nil]; rfl) ?_
  with_reducible refine (C3.out.q _).mono ?_
  rintro e w35 ⟨rfl, hb35⟩
  refine ⟨_, rfl, ?_⟩
  have M1 := Aside0.mk (Mem.below M1.out hb35)
  have M2 := Aside0.mk (Mem.below M2.out hb35)
  have HB := Aside0.mk (below_step HB.out hb35)
  refine hK.out _ _ ⟨(by have := mem_loads M1.out HA.out; rw [← HCA.out] at this; exact this), (by have := mem_loads M2.out HB_.out; rw [← HCB.out] at this; exact this)⟩ (fun hHeld => ?_)
  clear hK K
  refine norm_ (a' := ?_) ?_ ?_
  rotate_left
  · show Act.put _ (some 49) _ = _
    simp only [Act.put, List.setIfInBounds_toArray, List.set_cons_zero, List.set_cons_succ, i64_w, i32_w]
    rfl
  refine one_ (i := 24) (N := some 51) #[true, true, true, true, true, true, true, true, true, true, true, true, true, true, true, true, true, true, true, true, true, true, true, true, true, false, true, true, true, false, false, false, false, false, false] rfl rfl (by kernel_rfl) (by decide) (fun K hK => ?_)
  refine goes_ Try.func32 (by kernel_rfl) rfl #[.agg cb] (by rfl) rfl rfl (by simp only [List.map_toArray, List.map_cons, List.map_nil]; rfl) ?_
  with_reducible refine (C4.out.q _).mono ?_
  rintro e w36 ⟨rfl, hb36⟩
  refine ⟨_, rfl, ?_⟩
  have M1 := Aside0.mk (Mem.below M1.out hb36)
  have M2 := Aside0.mk (Mem.below M2.out hb36)
  have HB := Aside0.mk (below_step HB.out hb36)
  refine hK.out _ _ ⟨(by have := mem_loads M1.out HA.out; rw [← HCA.out] at this; exact this), (by have := mem_loads M2.out HB_.out; rw [← HCB.out] at this; exact this)⟩ (fun hHeld => ?_)
  clear hK K
  refine norm_ (a' := ?_) ?_ ?_
  rotate_left
  · show Act.put _ (some 51) _ = _
    simp only [Act.put, List.setIfInBounds_toArray, List.set_cons_zero, List.set_cons_succ, i64_w, i32_w]
    rfl
  refine pure_ (i := 25) (N := some 52) (v := ?_) (a' := ?_) #[true, true, true, true, true, true, true, true, true, true, true, true, true, true, true, true, true, true, true, true, true, true, true, true, true, true, true, true, true, false, false, false, false, false, false] rfl rfl (by kernel_rfl) (fun _ _ _ h => h) (Or.inl ⟨by rfl, ?_⟩) ?_ ?_
  rotate_left
  · intro w'
    refine (eql_yields rfl rfl rfl guard42 (E6 w')).trans ?_
    with_reducible rfl
  rotate_left
  · simp only [Act.put, List.setIfInBounds_toArray, List.set_cons_zero, List.set_cons_succ, i64_w, i32_w]
    rfl
  refine pure_ (i := 29) (N := some 56) (v := ?_) (a' := ?_) #[true, true, true, true, true, true, true, true, true, true, true, true, true, true, true, true, true, true, true, true, true, true, true, true, true, true, true, true, true, true, false, false, false, false, false] rfl rfl (by kernel_rfl) (fun _ _ _ h => h) (Or.inl ⟨by rfl, ?_⟩) ?_ ?_
  rotate_left
  · intro w'
    go_simp
    with_reducible rfl
  rotate_left
  · simp only [Act.put, List.setIfInBounds_toArray, List.set_cons_zero, List.set_cons_succ, i64_w, i32_w]
    rfl
  refine pure_ (i := 30) (N := some 57) (v := ?_) (a' := ?_) #[true, true, true, true, true, true, true, true, true, true, true, true, true, true, true, true, true, true, true, true, true, true, true, true, true, true, true, true, true, true, true, false, false, false, false] rfl rfl (by kernel_rfl) (fun _ _ _ h => h) (Or.inl ⟨by rfl, ?_⟩) ?_ ?_
  rotate_left
  · intro w'
    go_simp
    with_reducible rfl
  rotate_left
  · simp only [Act.put, List.setIfInBounds_toArray, List.set_cons_zero, List.set_cons_succ, i64_w, i32_w]
    rfl
  refine pure_ (i := 31) (N := some 58) (v := ?_) (a' := ?_) #[true, true, true, true, true, true, true, true, true, true, true, true, true, true, true, true, true, true, true, true, true, true, true, true, true, true, true, true, true, true, true, true, false, false, false] rfl rfl (by kernel_rfl) (fun _ _ _ h => h) (Or.inl ⟨by rfl, ?_⟩) ?_ ?_
  rotate_left
  · intro w'
    go_simp
    with_reducible rfl
  rotate_left
  · simp only [Act.put, List.setIfInBounds_toArray, List.set_cons_zero, List.set_cons_succ, i64_w, i32_w]
    rfl
  refine one_ (i := 32) (N := some 59) #[true, true, true, true, true, true, true, true, true, true, true, true, true, true, true, true, true, true, true, true, true, true, true, true, true, true, true, true, true, true, true, true, true, false, false] rfl rfl (by kernel_rfl) (by decide) (fun K hK => ?_)
  refine goes_ Try.func40 (by kernel_rfl) rfl #[] (by rfl) rfl rfl (by simp only [List.map_toArray, List.map_cons, List.map_nil]) ?_
  with_reducible refine (C14.out.q _).mono ?_
  rintro e w37 ⟨rfl, hb37⟩
  refine ⟨_, rfl, ?_⟩
  have M1 := Aside0.mk (Mem.below M1.out hb37)
  have M2 := Aside0.mk (Mem.below M2.out hb37)
  have HB := Aside0.mk (below_step HB.out hb37)
  refine hK.out _ _ ⟨(by have := mem_loads M1.out HA.out; rw [← HCA.out] at this; exact this), (by have := mem_loads M2.out HB_.out; rw [← HCB.out] at this; exact this)⟩ (fun hHeld => ?_)
  clear hK K
  refine norm_ (a' := ?_) ?_ ?_
  rotate_left
  · show Act.put _ (some 59) _ = _
    simp only [Act.put, List.setIfInBounds_toArray, List.set_cons_zero, List.set_cons_succ, i64_w, i32_w]
    rfl
  refine pure_ (i := 33) (N := some 60) (v := ?_) (a' := ?_) #[true, true, true, true, true, true, true, true, true, true, true, true, true, true, true, true, true, true, true, true, true, true, true, true, true, true, true, true, true, true, true, true, true, true, false] rfl rfl (by kernel_rfl) (fun _ _ _ h => h) (Or.inl ⟨by rfl, ?_⟩) ?_ ?_
  rotate_left
  · intro w'
    go_simp
    with_reducible rfl
  rotate_left
  · simp only [Act.put, List.setIfInBounds_toArray, List.set_cons_zero, List.set_cons_succ, i64_w, i32_w]
    rfl
  refine pure_ (i := 34) (N := some 4) (v := ?_) (a' := ?_) #[true, true, true, true, true, true, true, true, true, true, true, true, true, true, true, true, true, true, true, true, true, true, true, true, true, true, true, true, true, true, true, true, true, true, true] rfl rfl (by kernel_rfl) (fun _ _ _ h => h) (Or.inl ⟨by rfl, ?_⟩) ?_ ?_
  rotate_left
  · intro w'
    go_simp
    with_reducible rfl
  rotate_left
  · simp only [Act.put, List.setIfInBounds_toArray, List.set_cons_zero, List.set_cons_succ, i64_w, i32_w]
    rfl
  refine done_ (by kernel_rfl) ?_
  go_wp2
  go_ret
  exact ⟨rfl, HB.out⟩
theorem keeps_walk (a b : List Int) (w : World) (na : a.length = 25) (wa : ∀ x ∈ a, (Lit.int .u64 x).wf = true) (nb : b.length = 25) (wb : ∀ x ∈ b, (Lit.int .u64 x).wf = true) :
    Calls Try.prog 7 #[arrV .u64 a, arrV .u64 b] w fun e w' => e = .returned (.bool true) ∧ Below w.heap.size w w' :=
  keeps_ a b na nb (wf_words wa) (wf_words wb) w
end Go.Proofs.Ytdbcgjclnfhdfaa.Keccak
