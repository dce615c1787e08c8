/-
  The law of Keccak's way back, walked: for any state.
-/
import Derived.Test.YtdbcgjclnfhdfaaLawTells
namespace Go.Proofs.Ytdbcgjclnfhdfaa.Keccak
open Go.RowKit Go.Proofs.YtdbcgjclnfhdfaaW.PrintWords Go.Proofs.YtdbcgjclnfhdfaaW.PrintLast Go.Proofs.YtdbcgjclnfhdfaaW.PrintMore Byte Sl Arr Mem Gives RotC KecT ArrEq OctMath
set_option linter.unusedVariables false
set_option linter.unusedSimpArgs false
theorem wpList_eql_row {P : Program} {ops : Array Oper} {rest : List Oper} {o : Oper} {a : Act} {w : World} {Q : Exit → Act → World → Prop} (hgd : o.guard = none) {op : BinOp} {ty z : TypeId} {x y : Operand} (ho : o.op = .binOp op ty x y z) {xs ys : Array Value} (hx : a.eval x = .agg xs) (hy : a.eval y = .agg ys) (hm : P.eqGuardType P.depth ty = false) {v : Value} (h : (binOp op ty (.agg xs) (.agg ys)).run P w = .ok v w)
    (hK : wpList P ops Q rest (a.put o.dst v) w) : wpList P ops Q (o :: rest) a w :=
  wpList_plain hgd fun _ hK' => by
    unfold Oper.wp execOp
    simp only [ho, hx, hy, Sem.run_bind, Sem.run_pure, Result.andThen_ok, run_eqGuard_agg _ _ _ _ _ _ _ hm, h]
    exact hK' _ _ hK
set_option maxHeartbeats 4000000 in
set_option maxRecDepth 100000 in
theorem kback_ (a : List Int) (ha : a.length = 25) (wa : Words a) (w : World) : Calls Try.prog 8 #[.agg (cellsOf .u64 a)] w fun e w' => e = .returned (.bool true) ∧ Below w.heap.size w w' := by
  have pl := permTo_length a ha 24
  have pw := permTo_words a wa 24 (Nat.le_refl _)
  have bl := backTo_length a ha 24
  have bw := backTo_words a wa 24
  have c1 := cc (permute_c a ha wa)
  have c2 := cc (back_c (permTo a 24) pl pw)
  rw [back_permute a ha wa] at c2
  have c3 := cc (back_c a ha wa)
  have c4 := cc (rpermute_c (backTo a 24) bl bw)
  rw [permute_back a ha wa] at c4
  have c5 := cc (bchi_c a ha)
  have c6 := cc (rchi_c (bchiL a) (bchiL_length _) (bchiL_words _ wa))
  rw [chi_bchi a ha wa] at c6
  have c7 := cc (bmove_c a ha wa)
  have c8 := cc (rmove_c (bmoveL a) (bmoveL_length _) (bmoveL_words _))
  rw [move_bmove a ha wa] at c8
  have c9 := cc (rchi_c a ha wa)
  have c10 := cc (bchi_c (chiL a) (chiL_length _))
  rw [bchi_chi a ha wa] at c10
  have E1 := nsame_ a ha
  have E2 := same_ a ha
  have C1 := Aside0.mk c1
  have C2 := Aside0.mk c2
  have C3 := Aside0.mk c3
  have C4 := Aside0.mk c4
  have C5 := Aside0.mk c5
  have C6 := Aside0.mk c6
  have C7 := Aside0.mk c7
  have C8 := Aside0.mk c8
  have C9 := Aside0.mk c9
  have C10 := Aside0.mk c10
  clear c1 c2 c3 c4 c5 c6 c7 c8 c9 c10
  have C14 := Aside0.mk awake_c
  have HA := Aside0.mk ha
  have WA := Aside0.mk wa
  have M1 := Aside0.mk (Mem.new .u64 w 42 a)
  have HB := Aside0.mk (below_alloc (Below.refl w.heap.size w) (.cells (cellsOf .u64 a) 42))
  clear ha wa pl pw bl bw
  generalize permTo a 24 = l1 at *
  generalize backTo a 24 = l2 at *
  generalize bchiL a = l3 at *
  generalize bmoveL a = l4 at *
  generalize chiL a = l5 at *
  obtain ⟨ca, hca⟩ : ∃ cs, cs = cellsOf .u64 a := ⟨_, rfl⟩
  have HCA := Aside0.mk hca
  rw [← hca] at C1 C2 C3 C4 C5 C6 C7 C8 C9 C10 E1 E2 M1 HB ⊢
  generalize cellsOf .u64 l1 = c1 at *
  generalize cellsOf .u64 l2 = c2 at *
  generalize cellsOf .u64 l3 = c3 at *
  generalize cellsOf .u64 l4 = c4 at *
  generalize cellsOf .u64 l5 = c5 at *
  clear hca
  go_enter Try.func8, Try.ntmps8
  go_wp2
  have hl0 := mem_loads (Mem.drew M1.out) HA.out
  rw [← HCA.out] at hl0
  refine start_ (n := 33) (S := fun w' => (loadVar 42 ⟨w.heap.size, 0, none⟩).run Try.prog w' = .ok (.agg ca) w') (ds := []) #[false, false, false, false, false, false, false, false, false, false, false, false, false, false, false, false, false, false, false, false, false, false, false, false, false, false, false, false, false, false, false, false, false] (by kernel_rfl) rfl rfl (hl0) (fun hHeld => ?_)
  refine take_ (i := 0) (N := some 5) (v := ?_) (a' := ?_) #[true, false, false, false, false, false, false, false, false, false, false, false, false, false, false, false, false, false, false, false, false, false, false, false, false, false, false, false, false, false, false, false, false] rfl rfl (by kernel_rfl) (fun _ _ _ h => h) (Or.inl ⟨by rfl, ?_⟩) hHeld ?_ ?_
  rotate_left
  · intro w' s0
    refine (load_yields rfl rfl s0).trans ?_
    with_reducible rfl
  rotate_left
  · simp only [Act.put, List.setIfInBounds_toArray, List.set_cons_zero, List.set_cons_succ, i64_w, i32_w]
    rfl
  refine take_ (i := 3) (N := some 8) (v := ?_) (a' := ?_) #[true, false, false, true, false, false, false, false, false, false, false, false, false, false, false, false, false, false, false, false, false, false, false, false, false, false, false, false, false, false, false, false, false] rfl rfl (by kernel_rfl) (fun _ _ _ h => h) (Or.inl ⟨by rfl, ?_⟩) hHeld ?_ ?_
  rotate_left
  · intro w' s0
    refine (load_yields rfl rfl s0).trans ?_
    with_reducible rfl
  rotate_left
  · simp only [Act.put, List.setIfInBounds_toArray, List.set_cons_zero, List.set_cons_succ, i64_w, i32_w]
    rfl
  refine one_ (i := 1) (N := some 6) #[true, true, false, true, false, false, false, false, false, false, false, false, false, false, false, false, false, false, false, false, false, false, false, false, false, false, false, false, false, false, false, false, false] rfl rfl (by kernel_rfl) (by decide) (fun K hK => ?_)
  refine goes_ Try.func38 (by kernel_rfl) rfl #[.agg ca] (by rfl) rfl rfl (by simp only [List.map_toArray, List.map_cons, List.map_nil]; rfl) ?_
  with_reducible refine (C1.out.q _).mono ?_
  rintro e w21 ⟨rfl, hb21⟩
  refine ⟨_, rfl, ?_⟩
  have M1 := Aside0.mk (Mem.drew M1.out)
  have HB := Aside0.mk (below_drew HB.out)
  have M1 := Aside0.mk (Mem.below M1.out hb21)
  have HB := Aside0.mk (below_step HB.out hb21)
  refine hK.out _ _ ((by have := mem_loads M1.out HA.out; rw [← HCA.out] at this; exact this)) (fun hHeld => ?_)
  clear hK K
  refine norm_ (a' := ?_) ?_ ?_
  rotate_left
  · show Act.put _ (some 6) _ = _
    simp only [Act.put, List.setIfInBounds_toArray, List.set_cons_zero, List.set_cons_succ, i64_w, i32_w]
    rfl
  refine one_ (i := 2) (N := some 7) #[true, true, true, true, false, false, false, false, false, false, false, false, false, false, false, false, false, false, false, false, false, false, false, false, false, false, false, false, false, false, false, false, false] rfl rfl (by kernel_rfl) (by decide) (fun K hK => ?_)
  refine goes_ Try.func42 (by kernel_rfl) rfl #[.agg c1] (by rfl) rfl rfl (by simp only [List.map_toArray, List.map_cons, List.map_nil]; rfl) ?_
  with_reducible refine (C2.out.q _).mono ?_
  rintro e w22 ⟨rfl, hb22⟩
  refine ⟨_, rfl, ?_⟩
  have M1 := Aside0.mk (Mem.below M1.out hb22)
  have HB := Aside0.mk (below_step HB.out hb22)
  refine hK.out _ _ ((by have := mem_loads M1.out HA.out; rw [← HCA.out] at this; exact this)) (fun hHeld => ?_)
  clear hK K
  refine norm_ (a' := ?_) ?_ ?_
  rotate_left
  · show Act.put _ (some 7) _ = _
    simp only [Act.put, List.setIfInBounds_toArray, List.set_cons_zero, List.set_cons_succ, i64_w, i32_w]
    rfl
  refine pure_ (i := 4) (N := some 9) (v := ?_) (a' := ?_) #[true, true, true, true, true, false, false, false, false, false, false, false, false, false, false, false, false, false, false, false, false, false, false, false, false, false, false, false, false, false, false, false, false] rfl rfl (by kernel_rfl) (fun _ _ _ h => h) (Or.inl ⟨by rfl, ?_⟩) ?_ ?_
  rotate_left
  · intro w'
    refine (eql_yields rfl rfl rfl guard42 (E1 w')).trans ?_
    with_reducible rfl
  rotate_left
  · simp only [Act.put, List.setIfInBounds_toArray, List.set_cons_zero, List.set_cons_succ, i64_w, i32_w]
    rfl
  refine pure_ (i := 5) (N := some 10) (v := ?_) (a' := ?_) #[true, true, true, true, true, true, false, false, false, false, false, false, false, false, false, false, false, false, false, false, false, false, false, false, false, false, false, false, false, false, false, false, false] rfl rfl (by kernel_rfl) (fun _ _ _ h => h) (Or.inl ⟨by rfl, ?_⟩) ?_ ?_
  rotate_left
  · intro w'
    go_simp
    with_reducible rfl
  rotate_left
  · simp only [Act.put, List.setIfInBounds_toArray, List.set_cons_zero, List.set_cons_succ, i64_w, i32_w]
    rfl
  refine take_ (i := 6) (N := some 11) (v := ?_) (a' := ?_) #[true, true, true, true, true, true, true, false, false, false, false, false, false, false, false, false, false, false, false, false, false, false, false, false, false, false, false, false, false, false, false, false, false] rfl rfl (by kernel_rfl) (fun _ _ _ h => h) (Or.inl ⟨by rfl, ?_⟩) hHeld ?_ ?_
  rotate_left
  · intro w' s0
    refine (load_yields rfl rfl s0).trans ?_
    with_reducible rfl
  rotate_left
  · simp only [Act.put, List.setIfInBounds_toArray, List.set_cons_zero, List.set_cons_succ, i64_w, i32_w]
    rfl
  refine take_ (i := 9) (N := some 14) (v := ?_) (a' := ?_) #[true, true, true, true, true, true, true, false, false, true, false, false, false, false, false, false, false, false, false, false, false, false, false, false, false, false, false, false, false, false, false, false, false] rfl rfl (by kernel_rfl) (fun _ _ _ h => h) (Or.inl ⟨by rfl, ?_⟩) hHeld ?_ ?_
  rotate_left
  · intro w' s0
    refine (load_yields rfl rfl s0).trans ?_
    with_reducible rfl
  rotate_left
  · simp only [Act.put, List.setIfInBounds_toArray, List.set_cons_zero, List.set_cons_succ, i64_w, i32_w]
    rfl
  refine one_ (i := 7) (N := some 12) #[true, true, true, true, true, true, true, true, false, true, false, false, false, false, false, false, false, false, false, false, false, false, false, false, false, false, false, false, false, false, false, false, false] rfl rfl (by kernel_rfl) (by decide) (fun K hK => ?_)
  refine goes_ Try.func42 (by kernel_rfl) rfl #[.agg ca] (by rfl) rfl rfl (by simp only [List.map_toArray, List.map_cons, List.map_nil]; rfl) ?_
  with_reducible refine (C3.out.q _).mono ?_
  rintro e w23 ⟨rfl, hb23⟩
  refine ⟨_, rfl, ?_⟩
  have M1 := Aside0.mk (Mem.below M1.out hb23)
  have HB := Aside0.mk (below_step HB.out hb23)
  refine hK.out _ _ ((by have := mem_loads M1.out HA.out; rw [← HCA.out] at this; exact this)) (fun hHeld => ?_)
  clear hK K
  refine norm_ (a' := ?_) ?_ ?_
  rotate_left
  · show Act.put _ (some 12) _ = _
    simp only [Act.put, List.setIfInBounds_toArray, List.set_cons_zero, List.set_cons_succ, i64_w, i32_w]
    rfl
  refine one_ (i := 8) (N := some 13) #[true, true, true, true, true, true, true, true, true, true, false, false, false, false, false, false, false, false, false, false, false, false, false, false, false, false, false, false, false, false, false, false, false] rfl rfl (by kernel_rfl) (by decide) (fun K hK => ?_)
  refine goes_ Try.func39 (by kernel_rfl) rfl #[.agg c2] (by rfl) rfl rfl (by simp only [List.map_toArray, List.map_cons, List.map_nil]; rfl) ?_
  with_reducible refine (C4.out.q _).mono ?_
  rintro e w24 ⟨rfl, hb24⟩
  refine ⟨_, rfl, ?_⟩
  have M1 := Aside0.mk (Mem.below M1.out hb24)
  have HB := Aside0.mk (below_step HB.out hb24)
  refine hK.out _ _ ((by have := mem_loads M1.out HA.out; rw [← HCA.out] at this; exact this)) (fun hHeld => ?_)
  clear hK K
  refine norm_ (a' := ?_) ?_ ?_
  rotate_left
  · show Act.put _ (some 13) _ = _
    simp only [Act.put, List.setIfInBounds_toArray, List.set_cons_zero, List.set_cons_succ, i64_w, i32_w]
    rfl
  refine pure_ (i := 10) (N := some 15) (v := ?_) (a' := ?_) #[true, true, true, true, true, true, true, true, true, true, true, false, false, false, false, false, false, false, false, false, false, false, false, false, false, false, false, false, false, false, false, false, false] rfl rfl (by kernel_rfl) (fun _ _ _ h => h) (Or.inl ⟨by rfl, ?_⟩) ?_ ?_
  rotate_left
  · intro w'
    refine (eql_yields rfl rfl rfl guard42 (E1 w')).trans ?_
    with_reducible rfl
  rotate_left
  · simp only [Act.put, List.setIfInBounds_toArray, List.set_cons_zero, List.set_cons_succ, i64_w, i32_w]
    rfl
  refine pure_ (i := 11) (N := some 16) (v := ?_) (a' := ?_) #[true, true, true, true, true, true, true, true, true, true, true, true, false, false, false, false, false, false, false, false, false, false, false, false, false, false, false, false, false, false, false, false, false] rfl rfl (by kernel_rfl) (fun _ _ _ h => h) (Or.inl ⟨by rfl, ?_⟩) ?_ ?_
  rotate_left
  · intro w'
    go_simp
    with_reducible rfl
  rotate_left
  · simp only [Act.put, List.setIfInBounds_toArray, List.set_cons_zero, List.set_cons_succ, i64_w, i32_w]
    rfl
  refine pure_ (i := 12) (N := some 17) (v := ?_) (a' := ?_) #[true, true, true, true, true, true, true, true, true, true, true, true, true, false, false, false, false, false, false, false, false, false, false, false, false, false, false, false, false, false, false, false, false] rfl rfl (by kernel_rfl) (fun _ _ _ h => h) (Or.inl ⟨by rfl, ?_⟩) ?_ ?_
  rotate_left
  · intro w'
    go_simp
    with_reducible rfl
  rotate_left
  · simp only [Act.put, List.setIfInBounds_toArray, List.set_cons_zero, List.set_cons_succ, i64_w, i32_w]
    rfl
  refine take_ (i := 13) (N := some 18) (v := ?_) (a' := ?_) #[true, true, true, true, true, true, true, true, true, true, true, true, true, true, false, false, false, false, false, false, false, false, false, false, false, false, false, false, false, false, false, false, false] rfl rfl (by kernel_rfl) (fun _ _ _ h => h) (Or.inl ⟨by rfl, ?_⟩) hHeld ?_ ?_
  rotate_left
  · intro w' s0
    refine (load_yields rfl rfl s0).trans ?_
    with_reducible rfl
  rotate_left
  · simp only [Act.put, List.setIfInBounds_toArray, List.set_cons_zero, List.set_cons_succ, i64_w, i32_w]
    rfl
  refine take_ (i := 16) (N := some 21) (v := ?_) (a' := ?_) #[true, true, true, true, true, true, true, true, true, true, true, true, true, true, false, false, true, false, false, false, false, false, false, false, false, false, false, false, false, false, false, false, false] rfl rfl (by kernel_rfl) (fun _ _ _ h => h) (Or.inl ⟨by rfl, ?_⟩) hHeld ?_ ?_
  rotate_left
  · intro w' s0
    refine (load_yields rfl rfl s0).trans ?_
    with_reducible rfl
  rotate_left
  · simp only [Act.put, List.setIfInBounds_toArray, List.set_cons_zero, List.set_cons_succ, i64_w, i32_w]
    rfl
  refine one_ (i := 14) (N := some 19) #[true, true, true, true, true, true, true, true, true, true, true, true, true, true, true, false, true, false, false, false, false, false, false, false, false, false, false, false, false, false, false, false, false] rfl rfl (by kernel_rfl) (by decide) (fun K hK => ?_)
  refine goes_ Try.func43 (by kernel_rfl) rfl #[.agg ca] (by rfl) rfl rfl (by simp only [List.map_toArray, List.map_cons, List.map_nil]; rfl) ?_
  with_reducible refine (C5.out.q _).mono ?_
  rintro e w25 ⟨rfl, hb25⟩
  refine ⟨_, rfl, ?_⟩
  have M1 := Aside0.mk (Mem.below M1.out hb25)
  have HB := Aside0.mk (below_step HB.out hb25)
  refine hK.out _ _ ((by have := mem_loads M1.out HA.out; rw [← HCA.out] at this; exact this)) (fun hHeld => ?_)
  clear hK K
  refine norm_ (a' := ?_) ?_ ?_
  rotate_left
  · show Act.put _ (some 19) _ = _
    simp only [Act.put, List.setIfInBounds_toArray, List.set_cons_zero, List.set_cons_succ, i64_w, i32_w]
    rfl
  refine one_ (i := 15) (N := some 20) #[true, true, true, true, true, true, true, true, true, true, true, true, true, true, true, true, true, false, false, false, false, false, false, false, false, false, false, false, false, false, false, false, false] rfl rfl (by kernel_rfl) (by decide) (fun K hK => ?_)
  refine goes_ Try.func37 (by kernel_rfl) rfl #[.agg c3] (by rfl) rfl rfl (by simp only [List.map_toArray, List.map_cons, List.map_nil]; rfl) ?_
  with_reducible refine (C6.out.q _).mono ?_
  rintro e w26 ⟨rfl, hb26⟩
  refine ⟨_, rfl, ?_⟩
  have M1 := Aside0.mk (Mem.below M1.out hb26)
  have HB := Aside0.mk (below_step HB.out hb26)
  refine hK.out _ _ ((by have := mem_loads M1.out HA.out; rw [← HCA.out] at this; exact this)) (fun hHeld => ?_)
  clear hK K
  refine norm_ (a' := ?_) ?_ ?_
  rotate_left
  · show Act.put _ (some 20) _ = _
    simp only [Act.put, List.setIfInBounds_toArray, List.set_cons_zero, List.set_cons_succ, i64_w, i32_w]
    rfl
  refine pure_ (i := 17) (N := some 22) (v := ?_) (a' := ?_) #[true, true, true, true, true, true, true, true, true, true, true, true, true, true, true, true, true, true, false, false, false, false, false, false, false, false, false, false, false, false, false, false, false] rfl rfl (by kernel_rfl) (fun _ _ _ h => h) (Or.inl ⟨by rfl, ?_⟩) ?_ ?_
  rotate_left
  · intro w'
    refine (eql_yields rfl rfl rfl guard42 (E1 w')).trans ?_
    with_reducible rfl
  rotate_left
  · simp only [Act.put, List.setIfInBounds_toArray, List.set_cons_zero, List.set_cons_succ, i64_w, i32_w]
    rfl
  refine pure_ (i := 18) (N := some 23) (v := ?_) (a' := ?_) #[true, true, true, true, true, true, true, true, true, true, true, true, true, true, true, true, true, true, true, false, false, false, false, false, false, false, false, false, false, false, false, false, false] rfl rfl (by kernel_rfl) (fun _ _ _ h => h) (Or.inl ⟨by rfl, ?_⟩) ?_ ?_
  rotate_left
  · intro w'
    go_simp
    with_reducible rfl
  rotate_left
  · simp only [Act.put, List.setIfInBounds_toArray, List.set_cons_zero, List.set_cons_succ, i64_w, i32_w]
    rfl
  refine pure_ (i := 19) (N := some 24) (v := ?_) (a' := ?_) #[true, true, true, true, true, true, true, true, true, true, true, true, true, true, true, true, true, true, true, true, false, false, false, false, false, false, false, false, false, false, false, false, false] rfl rfl (by kernel_rfl) (fun _ _ _ h => h) (Or.inl ⟨by rfl, ?_⟩) ?_ ?_
  rotate_left
  · intro w'
    go_simp
    with_reducible rfl
  rotate_left
  · simp only [Act.put, List.setIfInBounds_toArray, List.set_cons_zero, List.set_cons_succ, i64_w, i32_w]
    rfl
  refine take_ (i := 20) (N := some 25) (v := ?_) (a' := ?_) #[true, true, true, true, true, true, true, true, true, true, true, true, true, true, true, true, true, true, true, true, true, false, false, false, false, false, false, false, false, false, false, false, false] rfl rfl (by kernel_rfl) (fun _ _ _ h => h) (Or.inl ⟨by rfl, ?_⟩) hHeld ?_ ?_
  rotate_left
  · intro w' s0
    refine (load_yields rfl rfl s0).trans ?_
    with_reducible rfl
  rotate_left
  · simp only [Act.put, List.setIfInBounds_toArray, List.set_cons_zero, List.set_cons_succ, i64_w, i32_w]
    rfl
  refine take_ (i := 23) (N := some 28) (v := ?_) (a' := ?_) #[true, true, true, true, true, true, true, true, true, true, true, true, true, true, true, true, true, true, true, true, true, false, false, true, false, false, false, false, false, false, false, false, false] rfl rfl (by kernel_rfl) (fun _ _ _ h => h) (Or.inl ⟨by rfl, ?_⟩) hHeld ?_ ?_
  rotate_left
  · intro w' s0
    refine (load_yields rfl rfl s0).trans ?_
    with_reducible rfl
  rotate_left
  · simp only [Act.put, List.setIfInBounds_toArray, List.set_cons_zero, List.set_cons_succ, i64_w, i32_w]
    rfl
  refine one_ (i := 21) (N := some 26) #[true, true, true, true, true, true, true, true, true, true, true, true, true, true, true, true, true, true, true, true, true, true, false, true, false, false, false, false, false, false, false, false, false] rfl rfl (by kernel_rfl) (by decide) (fun K hK => ?_)
  refine goes_ Try.func44 (by kernel_rfl) rfl #[.agg ca] (by rfl) rfl rfl (by simp only [List.map_toArray, List.map_cons, List.map_nil]; rfl) ?_
  with_reducible refine (C7.out.q _).mono ?_
  rintro e w27 ⟨rfl, hb27⟩
  refine ⟨_, rfl, ?_⟩
  have M1 := Aside0.mk (Mem.below M1.out hb27)
  have HB := Aside0.mk (below_step HB.out hb27)
  refine hK.out _ _ ((by have := mem_loads M1.out HA.out; rw [← HCA.out] at this; exact this)) (fun hHeld => ?_)
  clear hK K
  refine norm_ (a' := ?_) ?_ ?_
  rotate_left
  · show Act.put _ (some 26) _ = _
    simp only [Act.put, List.setIfInBounds_toArray, List.set_cons_zero, List.set_cons_succ, i64_w, i32_w]
    rfl
  refine one_ (i := 22) (N := some 27) #[true, true, true, true, true, true, true, true, true, true, true, true, true, true, true, true, true, true, true, true, true, true, true, true, false, false, false, false, false, false, false, false, false] rfl rfl (by kernel_rfl) (by decide) (fun K hK => ?_)
  refine goes_ Try.func35 (by kernel_rfl) rfl #[.agg c4] (by rfl) rfl rfl (by simp only [List.map_toArray, List.map_cons, List.map_nil]; rfl) ?_
  with_reducible refine (C8.out.q _).mono ?_
  rintro e w28 ⟨rfl, hb28⟩
  refine ⟨_, rfl, ?_⟩
  have M1 := Aside0.mk (Mem.below M1.out hb28)
  have HB := Aside0.mk (below_step HB.out hb28)
  refine hK.out _ _ ((by have := mem_loads M1.out HA.out; rw [← HCA.out] at this; exact this)) (fun hHeld => ?_)
  clear hK K
  refine norm_ (a' := ?_) ?_ ?_
  rotate_left
  · show Act.put _ (some 27) _ = _
    simp only [Act.put, List.setIfInBounds_toArray, List.set_cons_zero, List.set_cons_succ, i64_w, i32_w]
    rfl
  refine pure_ (i := 24) (N := some 29) (v := ?_) (a' := ?_) #[true, true, true, true, true, true, true, true, true, true, true, true, true, true, true, true, true, true, true, true, true, true, true, true, true, false, false, false, false, false, false, false, false] rfl rfl (by kernel_rfl) (fun _ _ _ h => h) (Or.inl ⟨by rfl, ?_⟩) ?_ ?_
  rotate_left
  · intro w'
    refine (eql_yields rfl rfl rfl guard42 (E1 w')).trans ?_
    with_reducible rfl
  rotate_left
  · simp only [Act.put, List.setIfInBounds_toArray, List.set_cons_zero, List.set_cons_succ, i64_w, i32_w]
    rfl
  refine pure_ (i := 25) (N := some 30) (v := ?_) (a' := ?_) #[true, true, true, true, true, true, true, true, true, true, true, true, true, true, true, true, true, true, true, true, true, true, true, true, true, true, false, false, false, false, false, false, false] rfl rfl (by kernel_rfl) (fun _ _ _ h => h) (Or.inl ⟨by rfl, ?_⟩) ?_ ?_
  rotate_left
  · intro w'
    go_simp
    with_reducible rfl
  rotate_left
  · simp only [Act.put, List.setIfInBounds_toArray, List.set_cons_zero, List.set_cons_succ, i64_w, i32_w]
    rfl
  refine pure_ (i := 26) (N := some 31) (v := ?_) (a' := ?_) #[true, true, true, true, true, true, true, true, true, true, true, true, true, true, true, true, true, true, true, true, true, true, true, true, true, true, true, false, false, false, false, false, false] rfl rfl (by kernel_rfl) (fun _ _ _ h => h) (Or.inl ⟨by rfl, ?_⟩) ?_ ?_
  rotate_left
  · intro w'
    go_simp
    with_reducible rfl
  rotate_left
  · simp only [Act.put, List.setIfInBounds_toArray, List.set_cons_zero, List.set_cons_succ, i64_w, i32_w]
    rfl
  refine take_ (i := 27) (N := some 32) (v := ?_) (a' := ?_) #[true, true, true, true, true, true, true, true, true, true, true, true, true, true, true, true, true, true, true, true, true, true, true, true, true, true, true, true, false, false, false, false, false] rfl rfl (by kernel_rfl) (fun _ _ _ h => h) (Or.inl ⟨by rfl, ?_⟩) hHeld ?_ ?_
  rotate_left
  · intro w' s0
    refine (load_yields rfl rfl s0).trans ?_
    with_reducible rfl
  rotate_left
  · simp only [Act.put, List.setIfInBounds_toArray, List.set_cons_zero, List.set_cons_succ, i64_w, i32_w]
    rfl
  refine take_ (i := 30) (N := some 35) (v := ?_) (a' := ?_) #[true, true, true, true, true, true, true, true, true, true, true, true, true, true, true, true, true, true, true, true, true, true, true, true, true, true, true, true, false, false, true, false, false] rfl rfl (by kernel_rfl) (fun _ _ _ h => h) (Or.inl ⟨by rfl, ?_⟩) hHeld ?_ ?_
  rotate_left
  · intro w' s0
    refine (load_yields rfl rfl s0).trans ?_
    with_reducible rfl
  rotate_left
  · simp only [Act.put, List.setIfInBounds_toArray, List.set_cons_zero, List.set_cons_succ, i64_w, i32_w]
    rfl
  refine one_ (i := 28) (N := some 33) #[true, true, true, true, true, true, true, true, true, true, true, true, true, true, true, true, true, true, true, true, true, true, true, true, true, true, true, true, true, false, true, false, false] rfl rfl (by kernel_rfl) (by decide) (fun K hK => ?_)
  refine goes_ Try.func37 (by kernel_rfl) rfl #[.agg ca] (by rfl) rfl rfl (by simp only [List.map_toArray, List.map_cons, List.map_nil]; rfl) ?_
  with_reducible refine (C9.out.q _).mono ?_
  rintro e w29 ⟨rfl, hb29⟩
  refine ⟨_, rfl, ?_⟩
  have M1 := Aside0.mk (Mem.below M1.out hb29)
  have HB := Aside0.mk (below_step HB.out hb29)
  refine hK.out _ _ ((by have := mem_loads M1.out HA.out; rw [← HCA.out] at this; exact this)) (fun hHeld => ?_)
  clear hK K
  refine norm_ (a' := ?_) ?_ ?_
  rotate_left
  · show Act.put _ (some 33) _ = _
    simp only [Act.put, List.setIfInBounds_toArray, List.set_cons_zero, List.set_cons_succ, i64_w, i32_w]
    rfl
  refine one_ (i := 29) (N := some 34) #[true, true, true, true, true, true, true, true, true, true, true, true, true, true, true, true, true, true, true, true, true, true, true, true, true, true, true, true, true, true, true, false, false] rfl rfl (by kernel_rfl) (by decide) (fun K hK => ?_)
  refine goes_ Try.func43 (by kernel_rfl) rfl #[.agg c5] (by rfl) rfl rfl (by simp only [List.map_toArray, List.map_cons, List.map_nil]; rfl) ?_
  with_reducible refine (C10.out.q _).mono ?_
  rintro e w30 ⟨rfl, hb30⟩
  refine ⟨_, rfl, ?_⟩
  have M1 := Aside0.mk (Mem.below M1.out hb30)
  have HB := Aside0.mk (below_step HB.out hb30)
  refine hK.out _ _ ((by have := mem_loads M1.out HA.out; rw [← HCA.out] at this; exact this)) (fun hHeld => ?_)
  clear hK K
  refine norm_ (a' := ?_) ?_ ?_
  rotate_left
  · show Act.put _ (some 34) _ = _
    simp only [Act.put, List.setIfInBounds_toArray, List.set_cons_zero, List.set_cons_succ, i64_w, i32_w]
    rfl
  refine pure_ (i := 31) (N := some 36) (v := ?_) (a' := ?_) #[true, true, true, true, true, true, true, true, true, true, true, true, true, true, true, true, true, true, true, true, true, true, true, true, true, true, true, true, true, true, true, true, false] rfl rfl (by kernel_rfl) (fun _ _ _ h => h) (Or.inl ⟨by rfl, ?_⟩) ?_ ?_
  rotate_left
  · intro w'
    refine (eql_yields rfl rfl rfl guard42 (E1 w')).trans ?_
    with_reducible rfl
  rotate_left
  · simp only [Act.put, List.setIfInBounds_toArray, List.set_cons_zero, List.set_cons_succ, i64_w, i32_w]
    rfl
  refine pure_ (i := 32) (N := some 37) (v := ?_) (a' := ?_) #[true, true, true, true, true, true, true, true, true, true, true, true, true, true, true, true, true, true, true, true, true, true, true, true, true, true, true, true, true, true, true, true, true] rfl rfl (by kernel_rfl) (fun _ _ _ h => h) (Or.inl ⟨by rfl, ?_⟩) ?_ ?_
  rotate_left
  · intro w'
    go_simp
    with_reducible rfl
  rotate_left
  · simp only [Act.put, List.setIfInBounds_toArray, List.set_cons_zero, List.set_cons_succ, i64_w, i32_w]
    rfl
  refine done_ (by kernel_rfl) ?_
  clear hl0 hHeld
  rw [HCA.out] at E2 ⊢
  have N1 := Aside0.mk (Mem.alloc M1.out (.cells (cellsOf .u64 zst) 42))
  have N3 := Aside0.mk (Mem.new .u64 w30 42 zst)
  have NB := Aside0.mk (below_alloc HB.out (.cells (cellsOf .u64 zst) 42))
  have hlt := M1.out.lt
  have HG := Aside0.mk hlt
  go_wp2_with (first
    | ((with_reducible refine gate_dst (N := 38) rfl ?_); refine Mem.load M1.out rfl 42 (.tmp 1) rfl rfl Try.underlying42 (by rw [HA.out]; exact info_st) ?_)
    | ((with_reducible refine gate_store (t := 42) (p := 3) rfl ?_); refine Mem.store (l' := a) N3.out rfl 42 (.tmp 3) (.tmp 38) rfl rfl rfl (by rw [HA.out]; exact info_st) (by rw [HA.out, zst_length]) ?_))
  have O1 := Aside0.mk (Mem.row N1.out (g' := w30.heap.size) (by omega) (cellsOf .u64 a))
  have O3 := Aside0.mk (Mem.put N3.out a)
  have OB := Aside0.mk (below_setRow NB.out (g := w30.heap.size) (by omega) (cellsOf .u64 a))
  clear M1 HB N1 N3 NB
  obtain ⟨g3, hg3⟩ : ∃ g, g = w30.heap.size := ⟨_, rfl⟩
  rw [← hg3] at O1 O3 OB hlt ⊢
  clear hg3 HG
  go_loopg [4] 192 (fun kq i w' => ∃ j : Nat, j + kq = 192 ∧ i = .int .i64 j ∧ Aside0 (Mem .u64 w' w.heap.size 42 a) ∧ Aside0 (Mem .u64 w' g3 42 (thetaN a j)) ∧ Aside0 (Below w.heap.size w w'))
  case atStart => exact ⟨0, by omega, rfl, O1, O3, OB⟩
  case round =>
    clear O1 O3 OB
    obtain ⟨j, hj, rfl, M1, M3, HB⟩ := hrel
    cases gk with
    | zero =>
      obtain rfl : j = 192 := by omega
      rw [theta192 a HA.out WA.out] at M3
      clear hj
      go_wp2_with (first
        | ((with_reducible refine gate_dst (N := 45) rfl ?_); refine Mem.load M3.out rfl 42 (.tmp 3) rfl rfl Try.underlying42 (by rw [HA.out]; exact info_st) ?_)
        | ((with_reducible refine gate_dst (N := 46) rfl ?_); refine Mem.load M1.out rfl 42 (.tmp 1) rfl rfl Try.underlying42 (by rw [HA.out]; exact info_st) ?_)
        | ((with_reducible refine gate_dst (N := 47) rfl ?_); refine wpList_eql_row rfl rfl rfl rfl guard42 (E2 _) ?_)
        | (go_at_call 40; (with_reducible refine (C14.out.q _).mono ?_); rintro e w40 ⟨rfl, hb40⟩; have HB := Aside0.mk (below_step HB.out hb40)))
      go_ret
      exact ⟨rfl, HB.out⟩
    | succ k1 =>
      have hlt2 : j < 192 := by omega
      have HJ := Aside0.mk hj
      clear hj
      have HP := Aside0.mk (thetaN_length a HA.out j)
      have HQ := Aside0.mk (thetaN_length a HA.out (j + 1))
      have C1 := Aside0.mk (cc (theta_c (thetaN a j) (thetaN_length a HA.out j) (thetaN_words a HA.out WA.out j)))
      rw [show thetaL (thetaN a j) = thetaN a (j + 1) from rfl] at C1
      generalize thetaN a j = p at *
      obtain ⟨p', hp'⟩ : ∃ z, z = thetaN a (j + 1) := ⟨_, rfl⟩
      rw [← hp'] at C1 HQ
      have HV := Aside0.mk hp'
      clear hp'
      go_wp2_with (first
        | ((with_reducible refine gate_dst (N := 43) rfl ?_); refine Mem.load M3.out rfl 42 (.tmp 3) rfl rfl Try.underlying42 (by rw [HP.out]; exact info_st) ?_)
        | (go_at_call 32; (with_reducible refine (C1.out.q _).mono ?_); rintro e w1 ⟨rfl, hb1⟩; have M1 := Aside0.mk (Mem.below M1.out hb1); have M3 := Aside0.mk (Mem.below M3.out hb1); have HB := Aside0.mk (below_step HB.out hb1))
        | ((with_reducible refine gate_store (t := 42) (p := 3) rfl ?_); refine Mem.store (l' := p') M3.out rfl 42 (.tmp 3) (.tmp 44) rfl rfl rfl (by rw [HQ.out]; exact info_st) (by rw [HQ.out, HP.out]) ?_))
      go_roundg k1
      case measure => omega
      case rel => exact ⟨j + 1, by have := HJ.out; omega, by go_num, ⟨Mem.row M1.out (by omega) _⟩, ⟨by rw [← HV.out]; exact Mem.put M3.out _⟩, ⟨below_setRow HB.out (by omega) _⟩⟩
theorem kback_walk (a : List Int) (w : World) (na : a.length = 25) (wa : ∀ x ∈ a, (Lit.int .u64 x).wf = true) :
    Calls Try.prog 8 #[arrV .u64 a] w fun e w' => e = .returned (.bool true) ∧ Below w.heap.size w w' :=
  kback_ a na (wf_words wa) w
end Go.Proofs.Ytdbcgjclnfhdfaa.Keccak
