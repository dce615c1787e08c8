/-
  The law of what the tower keeps, walked.
-/
import Derived.Test.YtphdlidaigalkaaTowL1
namespace Go.Proofs.Ytphdlidaigalkaa.Mat
open Go.RowKit Go.Proofs.Ytphdlidaigalkaa.PNib Go.Proofs.YtphdlidaigalkaaW.PrintWords Go.Proofs.YtphdlidaigalkaaW.PrintLast Go.Proofs.YtphdlidaigalkaaW.PrintMore Byte Sl Arr Mem Gives ArrEq
set_option linter.unusedVariables false
set_option linter.unusedSimpArgs false
set_option maxHeartbeats 4000000
set_option maxRecDepth 100000
theorem rgmul_c (a b : BitVec 8) : GivesB 44 #[.int .u8 (I8 a), .int .u8 (I8 b)] (.int .u8 (I8 (GfMath.mul a b))) := Gives.b fun w => visorref03_Mul.calls 100 _ _ _ w (GfE.RMul_eq a b 100 (by decide))
theorem ginv_c (a : BitVec 8) : GivesB 45 #[.int .u8 (I8 a)] (.int .u8 (I8 (GfMath.pow a 254))) := Gives.b fun w => gf_Inv.calls 100 _ _ w (GfE.Inv_eq a 100 (by decide))
theorem ninv_c (a : BitVec 8) : GivesB 47 #[.int .u8 (I8 a)] (.int .u8 (I8 (TowMath.ninv a))) := fun w => nib_Inv.calls 100 _ _ w (by rw [NibE.Inv_eq a 100 (by decide), TowE.ninv_eq])
/-! ### what is turned in -/
theorem in_mul_units : ∀ i j : Fin 8, app inR (GfMath.mul (TowMath.unit8 i.val) (TowMath.unit8 j.val)) = TowMath.tmul (app inR (TowMath.unit8 i.val)) (app inR (TowMath.unit8 j.val)) := by decide +kernel
theorem in_mul (a b : BitVec 8) : app inF (GfMath.mul a b) = TowMath.tmul (app inF a) (app inF b) := by
  rw [in_app, in_app, in_app]
  refine TowMath.lin_ext (F := fun a => app inR (GfMath.mul a b)) (G := fun a => TowMath.tmul (app inR a) (app inR b)) (fun x y => by simp only [GfMath.mul_left, app_xor]) (fun x y => by simp only [app_xor, TowMath.xor_tmul]) (fun i hi => ?_) a
  refine TowMath.lin_ext (F := fun b => app inR (GfMath.mul (TowMath.unit8 i) b)) (G := fun b => TowMath.tmul (app inR (TowMath.unit8 i)) (app inR b)) (fun x y => by simp only [GfMath.mul_right, app_xor]) (fun x y => by simp only [app_xor, TowMath.tmul_xor]) (fun j hj => ?_) b
  exact in_mul_units ⟨i, hi⟩ ⟨j, hj⟩
theorem in_one : app inF 1#8 = 1#8 := by rw [in_app]; decide +kernel
theorem g_inv (a : BitVec 8) (h : a ≠ 0#8) : GfMath.mul a (GfMath.pow a 254) = 1#8 := by
  obtain ⟨e, _, rfl⟩ := GfMath.is_pow a h
  rw [GfMath.mul_comm]
  show GfMath.pow (GfMath.pow 3#8 e) 255 = 1#8
  rw [← GfMath.pow_mul, Nat.mul_comm, GfMath.pow_mul, GfMath.pow_255, GfMath.one_pow]
theorem in_inv (a : BitVec 8) : app inF (GfMath.pow a 254) = TowMath.tinv (app inF a) := by
  by_cases h : a = 0#8
  · subst h
    rw [show GfMath.pow 0#8 254 = 0#8 from GfMath.zero_pow 253, app_zero, TowMath.tinv_zero]
  · exact TowMath.tinv_uniq _ _ (by rw [← in_mul, g_inv a h, in_one])
theorem tinv_add (a : BitVec 8) : (I8 (NibMath.mul (TowMath.hi a) (TowMath.ninv (TowMath.nor a)) <<< 4) + I8 (NibMath.mul (TowMath.hi a ^^^ TowMath.lw a) (TowMath.ninv (TowMath.nor a)))) % 256 = I8 (TowMath.tinv a) := by
  rw [TowE.add8, TowMath.add_xor _ _ (NibMath.mul_nib _ _)]
  unfold TowMath.tinv
  rw [TowMath.or_xor _ _ (NibMath.mul_nib _ _)]
theorem tower_keeps (a b c : BitVec 8) (w : World) : Calls Try.prog 7 #[.int .u8 (I8 a), .int .u8 (I8 b), .int .u8 (I8 c)] w fun e w' => e = .returned (.bool true) ∧ Below w.heap.size w w' := by
  have HB := Aside0.mk (Below.refl w.heap.size w)
  have C0 := Aside0.mk new_c
  obtain ⟨x, hx⟩ : ∃ x, x = app inF a := ⟨_, rfl⟩
  obtain ⟨y, hy⟩ : ∃ y, y = app inF b := ⟨_, rfl⟩
  have c1 := rapp_c inF a
  have c2 := rapp_c inF b
  have c3 := rapp_c outF x
  have c4 := rapp_c inF (GfMath.mul a b)
  have c5 := rapp_c inF (a ^^^ b)
  have c6 := rapp_c inF (GfMath.pow a 254)
  have c7 := app_c inF 1#8
  rw [← hx] at c1
  rw [← hy] at c2
  rw [hx, out_in] at c3
  rw [← hx] at c3
  rw [in_mul, ← hx, ← hy] at c4
  rw [app_xor, ← hx, ← hy, ← xor8 a b, ← xor8 x y] at c5
  rw [in_inv, ← hx] at c6
  rw [in_one, show I8 1#8 = 1 from rfl] at c7
  have C1 := Aside0.mk c1
  have C2 := Aside0.mk c2
  have C3 := Aside0.mk c3
  have C4 := Aside0.mk c4
  have C5 := Aside0.mk c5
  have C6 := Aside0.mk c6
  have C7 := Aside0.mk c7
  rw [matV_eq] at C1 C2 C3 C4 C5 C6 C7
  have D1 := Aside0.mk (rgmul_c a b)
  have D2 := Aside0.mk (tmul_c x y).b
  have D3 := Aside0.mk (ginv_c a)
  have D4 := Aside0.mk (tinv_c x)
  have F1 := Aside0.mk (tmul_c b c).b
  have F2 := Aside0.mk (tmul_c a (TowMath.tmul b c)).b
  have F3 := Aside0.mk (tmul_c a b).b
  have f4 := (tmul_c (TowMath.tmul a b) c).b
  rw [← TowMath.tmul_assoc] at f4
  have F4 := Aside0.mk f4
  have f5 := (tmul_c a (b ^^^ c)).b
  rw [TowMath.tmul_xor, ← xor8 b c, ← xor8 (TowMath.tmul a b)] at f5
  have F5 := Aside0.mk f5
  have F6 := Aside0.mk (tmul_c a c).b
  have F7 := Aside0.mk (norm_c a)
  have F8 := Aside0.mk (ninv_c (TowMath.nor a))
  have F9 := Aside0.mk (tinv_c a)
  have F10 := Aside0.mk (rnib_c (TowMath.hi a) (TowMath.ninv (TowMath.nor a)))
  have f11 := rnib_c (TowMath.hi a ^^^ TowMath.lw a) (TowMath.ninv (TowMath.nor a))
  have F11 := Aside0.mk f11
  have F12 := Aside0.mk (tmul_c a (TowMath.tinv a)).b
  have F13 := Aside0.mk tawake_c
  have e1 := tinv_add a
  have e2 := TowE.shl16 (NibMath.mul (TowMath.hi a) (TowMath.ninv (TowMath.nor a)))
  have e3 := xor8 (TowMath.hi a) (TowMath.lw a)
  have q1 := (quo16 a).2.1
  have q2 := mod256 (TowMath.hi a)
  have q3 := (quo16 a).2.2.2
  have HT := Aside0.mk (TowMath.tinv_mul a)
  clear hx hy c1 c2 c3 c4 c5 c6 c7 f4 f5 f11
  generalize TowMath.hi a = h at *
  generalize TowMath.lw a = l at *
  generalize TowMath.nor a = nn at *
  generalize TowMath.ninv nn = ni at *
  generalize NibMath.mul h ni <<< 4 = s4 at *
  generalize NibMath.mul h ni = p1 at *
  generalize NibMath.mul (h ^^^ l) ni = p2 at *
  generalize h ^^^ l = hl at *
  generalize GfMath.mul a b = gm at *
  generalize GfMath.pow a 254 = gi at *
  generalize TowMath.tmul a (TowMath.tinv a) = one at *
  generalize TowMath.tinv a = va at *
  generalize TowMath.tinv x = vx at *
  generalize TowMath.tmul x y = txy at *
  generalize TowMath.tmul a (TowMath.tmul b c) = tabc at *
  generalize TowMath.tmul a b = tab at *
  generalize TowMath.tmul a c = tac at *
  generalize TowMath.tmul b c = tbc at *
  go_enter Try.func7, Try.ntmps7
  go_wp2_with (first
    | (go_at_call 29; (with_reducible refine (C0.out _).mono ?_); rintro e w1 ⟨g, rfl, hg, hF, hb1⟩; have H0 := Aside0.mk hF; have HG := Aside0.mk hg; have HB := Aside0.mk (below_step HB.out hb1); clear hg hF hb1)
    | (go_at_call 30; (refine (in_first H0.out).mono ?_); rintro e w2 ⟨rfl, hF, hc⟩; have HB := Aside0.mk (hc.below HB.out HB.out.size HG.out); have H := Aside0.mk hF; clear hF hc H0)
    | (go_at_call 32; (refine (out_done H.out).mono ?_); rintro e w3 ⟨rfl, hF, hb3⟩; have HB := Aside0.mk (below_step HB.out hb3); have HS3 := Aside0.mk HB.out.size; have N8 := Aside0.mk (Mem.alloc (Mem.new .u8 w3 67 (cells8 zrow)) (.cells (cellsOf .u8 (cells8 zrow)) 67)); have N9 := Aside0.mk (Mem.new2 .u8 w3 (.cells (cellsOf .u8 (cells8 zrow)) 67) 67 (cells8 zrow)); have HB := Aside0.mk (below_alloc (below_alloc HB.out (.cells (cellsOf .u8 (cells8 zrow)) 67)) (.cells (cellsOf .u8 (cells8 zrow)) 67)); clear hF hb3 H)
    | ((with_reducible refine gate_store (t := 67) (p := 8) rfl ?_); refine Mem.store (l' := cells8 inF) N8.out rfl 67 (.tmp 8) (.tmp 17) rfl rfl rfl (by rw [cells8_length]; exact info_mat) (by simp only [cells8_length]) ?_)
    | ((with_reducible refine gate_store (t := 67) (p := 9) rfl ?_); refine Mem.store (l' := cells8 outF) (Mem.row N9.out (g' := w3.heap.size) (by omega) (cellsOf .u8 (cells8 inF))) rfl 67 (.tmp 9) (.tmp 19) rfl rfl rfl (by rw [cells8_length]; exact info_mat) (by simp only [cells8_length]) ?_))
  have M8 := Aside0.mk (Mem.row (Mem.put N8.out (cells8 inF)) (g' := w3.heap.size + 1) (by omega) (cellsOf .u8 (cells8 outF)))
  have M9 := Aside0.mk (Mem.put (Mem.row N9.out (g' := w3.heap.size) (by omega) (cellsOf .u8 (cells8 inF))) (cells8 outF))
  have HB := Aside0.mk (below_setRow (below_setRow HB.out (g := w3.heap.size) HS3.out (cellsOf .u8 (cells8 inF))) (g := w3.heap.size + 1) (by have := HS3.out; omega) (cellsOf .u8 (cells8 outF)))
  clear N8 N9
  have hl0 := mem_loads (Mem.drew M8.out)
  have hl1 := mem_loads (Mem.drew M9.out)
  refine start_ (n := 8) (S := fun w' => (loadVar 67 ⟨w3.heap.size, 0, none⟩).run Try.prog w' = .ok (.agg (cellsOf .u8 (cells8 inF))) w' ∧ (loadVar 67 ⟨w3.heap.size + 1, 0, none⟩).run Try.prog w' = .ok (.agg (cellsOf .u8 (cells8 outF))) w') (ds := []) #[false, false, false, false, false, false, false, false] (by kernel_rfl) rfl rfl ⟨hl0, hl1⟩ (fun hHeld => ?_)
  refine pure_ (i := 1) (N := some 21) (v := ?_) (a' := ?_) #[false, true, false, false, false, false, false, false] rfl rfl (by kernel_rfl) (fun _ _ _ h => h) (Or.inl ⟨by rfl, ?_⟩) ?_ ?_
  rotate_left
  · intro w'
    go_simp
    with_reducible rfl
  rotate_left
  · simp only [Act.put, List.setIfInBounds_toArray, List.set_cons_zero, List.set_cons_succ, i64_w, i32_w]
    rfl
  refine pure_ (i := 4) (N := some 24) (v := ?_) (a' := ?_) #[false, true, false, false, true, false, false, false] rfl rfl (by kernel_rfl) (fun _ _ _ h => h) (Or.inl ⟨by rfl, ?_⟩) ?_ ?_
  rotate_left
  · intro w'
    go_simp
    with_reducible rfl
  rotate_left
  · simp only [Act.put, List.setIfInBounds_toArray, List.set_cons_zero, List.set_cons_succ, i64_w, i32_w]
    rfl
  refine take_ (i := 0) (N := some 20) (v := ?_) (a' := ?_) #[true, true, false, false, true, false, false, false] rfl rfl (by kernel_rfl) (fun _ _ _ h => h) (Or.inl ⟨by rfl, ?_⟩) hHeld ?_ ?_
  rotate_left
  · rintro w' ⟨s0, s1⟩
    refine (load_yields rfl rfl s0).trans ?_
    with_reducible rfl
  rotate_left
  · simp only [Act.put, List.setIfInBounds_toArray, List.set_cons_zero, List.set_cons_succ, i64_w, i32_w]
    rfl
  refine take_ (i := 3) (N := some 23) (v := ?_) (a' := ?_) #[true, true, false, true, true, false, false, false] rfl rfl (by kernel_rfl) (fun _ _ _ h => h) (Or.inl ⟨by rfl, ?_⟩) hHeld ?_ ?_
  rotate_left
  · rintro w' ⟨s0, s1⟩
    refine (load_yields rfl rfl s0).trans ?_
    with_reducible rfl
  rotate_left
  · simp only [Act.put, List.setIfInBounds_toArray, List.set_cons_zero, List.set_cons_succ, i64_w, i32_w]
    rfl
  refine one_ (i := 2) (N := some 22) #[true, true, true, true, true, false, false, false] rfl rfl (by kernel_rfl) (by decide) (fun K hK => ?_)
  refine goes_ Try.func43 (by kernel_rfl) rfl #[.agg (cellsOf .u8 (cells8 inF)), .int .u8 (I8 a)] (by rfl) rfl rfl (by simp only [List.map_toArray, List.map_cons, List.map_nil]; rfl) ?_
  with_reducible refine (C1.out.q _).mono ?_
  rintro e w51 ⟨rfl, hb51⟩
  refine ⟨_, rfl, ?_⟩
  have M8 := Aside0.mk (Mem.drew M8.out)
  have M9 := Aside0.mk (Mem.drew M9.out)
  have HB := Aside0.mk (below_drew HB.out)
  have M8 := Aside0.mk (Mem.below M8.out hb51)
  have M9 := Aside0.mk (Mem.below M9.out hb51)
  have HB := Aside0.mk (below_step HB.out hb51)
  refine hK.out _ _ ⟨(mem_loads M8.out), (mem_loads M9.out)⟩ (fun hHeld => ?_)
  clear hK K
  refine norm_ (a' := ?_) ?_ ?_
  rotate_left
  · show Act.put _ (some 22) _ = _
    simp only [Act.put, List.setIfInBounds_toArray, List.set_cons_zero, List.set_cons_succ, i64_w, i32_w]
    rfl
  refine one_ (i := 5) (N := some 25) #[true, true, true, true, true, true, false, false] rfl rfl (by kernel_rfl) (by decide) (fun K hK => ?_)
  refine goes_ Try.func43 (by kernel_rfl) rfl #[.agg (cellsOf .u8 (cells8 inF)), .int .u8 (I8 b)] (by rfl) rfl rfl (by simp only [List.map_toArray, List.map_cons, List.map_nil]; rfl) ?_
  with_reducible refine (C2.out.q _).mono ?_
  rintro e w52 ⟨rfl, hb52⟩
  refine ⟨_, rfl, ?_⟩
  have M8 := Aside0.mk (Mem.below M8.out hb52)
  have M9 := Aside0.mk (Mem.below M9.out hb52)
  have HB := Aside0.mk (below_step HB.out hb52)
  refine hK.out _ _ ⟨(mem_loads M8.out), (mem_loads M9.out)⟩ (fun hHeld => ?_)
  clear hK K
  refine norm_ (a' := ?_) ?_ ?_
  rotate_left
  · show Act.put _ (some 25) _ = _
    simp only [Act.put, List.setIfInBounds_toArray, List.set_cons_zero, List.set_cons_succ, i64_w, i32_w]
    rfl
  refine pure_ (i := 6) (N := some 10) (v := ?_) (a' := ?_) #[true, true, true, true, true, true, true, false] rfl rfl (by kernel_rfl) (fun _ _ _ h => h) (Or.inl ⟨by rfl, ?_⟩) ?_ ?_
  rotate_left
  · intro w'
    go_simp
    with_reducible rfl
  rotate_left
  · simp only [Act.put, List.setIfInBounds_toArray, List.set_cons_zero, List.set_cons_succ, i64_w, i32_w]
    rfl
  refine pure_ (i := 7) (N := some 11) (v := ?_) (a' := ?_) #[true, true, true, true, true, true, true, true] rfl rfl (by kernel_rfl) (fun _ _ _ h => h) (Or.inl ⟨by rfl, ?_⟩) ?_ ?_
  rotate_left
  · intro w'
    go_simp
    with_reducible rfl
  rotate_left
  · simp only [Act.put, List.setIfInBounds_toArray, List.set_cons_zero, List.set_cons_succ, i64_w, i32_w]
    rfl
  refine done_ (by kernel_rfl) ?_
  clear hl0 hl1
  go_wp2
  have hl0 := mem_loads (Mem.drew M8.out)
  have hl1 := mem_loads (Mem.drew M9.out)
  refine start_ (n := 41) (S := fun w' => (loadVar 67 ⟨w3.heap.size, 0, none⟩).run Try.prog w' = .ok (.agg (cellsOf .u8 (cells8 inF))) w' ∧ (loadVar 67 ⟨w3.heap.size + 1, 0, none⟩).run Try.prog w' = .ok (.agg (cellsOf .u8 (cells8 outF))) w') (ds := []) #[false, false, false, false, false, false, false, false, false, false, false, false, false, false, false, false, false, false, false, false, false, false, false, false, false, false, false, false, false, false, false, false, false, false, false, false, false, false, false, false, false] (by kernel_rfl) rfl rfl ⟨hl0, hl1⟩ (fun hHeld => ?_)
  refine pure_ (i := 1) (N := some 27) (v := ?_) (a' := ?_) #[false, true, false, false, false, false, false, false, false, false, false, false, false, false, false, false, false, false, false, false, false, false, false, false, false, false, false, false, false, false, false, false, false, false, false, false, false, false, false, false, false] rfl rfl (by kernel_rfl) (fun _ _ _ h => h) (Or.inl ⟨by rfl, ?_⟩) ?_ ?_
  rotate_left
  · intro w'
    go_simp
    with_reducible rfl
  rotate_left
  · simp only [Act.put, List.setIfInBounds_toArray, List.set_cons_zero, List.set_cons_succ, i64_w, i32_w]
    rfl
  refine pure_ (i := 3) (N := some 29) (v := ?_) (a' := ?_) #[false, true, false, true, false, false, false, false, false, false, false, false, false, false, false, false, false, false, false, false, false, false, false, false, false, false, false, false, false, false, false, false, false, false, false, false, false, false, false, false, false] rfl rfl (by kernel_rfl) (fun _ _ _ h => h) (Or.inl ⟨by rfl, ?_⟩) ?_ ?_
  rotate_left
  · intro w'
    go_simp
    with_reducible rfl
  rotate_left
  · simp only [Act.put, List.setIfInBounds_toArray, List.set_cons_zero, List.set_cons_succ, i64_w, i32_w]
    rfl
  refine take_ (i := 0) (N := some 26) (v := ?_) (a' := ?_) #[true, true, false, true, false, false, false, false, false, false, false, false, false, false, false, false, false, false, false, false, false, false, false, false, false, false, false, false, false, false, false, false, false, false, false, false, false, false, false, false, false] rfl rfl (by kernel_rfl) (fun _ _ _ h => h) (Or.inl ⟨by rfl, ?_⟩) hHeld ?_ ?_
  rotate_left
  · rintro w' ⟨s0, s1⟩
    refine (load_yields rfl rfl s1).trans ?_
    with_reducible rfl
  rotate_left
  · simp only [Act.put, List.setIfInBounds_toArray, List.set_cons_zero, List.set_cons_succ, i64_w, i32_w]
    rfl
  refine one_ (i := 2) (N := some 28) #[true, true, true, true, false, false, false, false, false, false, false, false, false, false, false, false, false, false, false, false, false, false, false, false, false, false, false, false, false, false, false, false, false, false, false, false, false, false, false, false, false] rfl rfl (by kernel_rfl) (by decide) (fun K hK => ?_)
  refine goes_ Try.func43 (by kernel_rfl) rfl #[.agg (cellsOf .u8 (cells8 outF)), .int .u8 (I8 x)] (by rfl) rfl rfl (by simp only [List.map_toArray, List.map_cons, List.map_nil]; rfl) ?_
  with_reducible refine (C3.out.q _).mono ?_
  rintro e w51 ⟨rfl, hb51⟩
  refine ⟨_, rfl, ?_⟩
  have M8 := Aside0.mk (Mem.drew M8.out)
  have M9 := Aside0.mk (Mem.drew M9.out)
  have HB := Aside0.mk (below_drew HB.out)
  have M8 := Aside0.mk (Mem.below M8.out hb51)
  have M9 := Aside0.mk (Mem.below M9.out hb51)
  have HB := Aside0.mk (below_step HB.out hb51)
  refine hK.out _ _ ⟨(mem_loads M8.out), (mem_loads M9.out)⟩ (fun hHeld => ?_)
  clear hK K
  refine norm_ (a' := ?_) ?_ ?_
  rotate_left
  · show Act.put _ (some 28) _ = _
    simp only [Act.put, List.setIfInBounds_toArray, List.set_cons_zero, List.set_cons_succ, i64_w, i32_w]
    rfl
  refine pure_ (i := 4) (N := some 30) (v := ?_) (a' := ?_) #[true, true, true, true, true, false, false, false, false, false, false, false, false, false, false, false, false, false, false, false, false, false, false, false, false, false, false, false, false, false, false, false, false, false, false, false, false, false, false, false, false] rfl rfl (by kernel_rfl) (fun _ _ _ h => h) (Or.inl ⟨by rfl, ?_⟩) ?_ ?_
  rotate_left
  · intro w'
    go_simp
    with_reducible rfl
  rotate_left
  · simp only [Act.put, List.setIfInBounds_toArray, List.set_cons_zero, List.set_cons_succ, i64_w, i32_w]
    rfl
  refine pure_ (i := 5) (N := some 31) (v := ?_) (a' := ?_) #[true, true, true, true, true, true, false, false, false, false, false, false, false, false, false, false, false, false, false, false, false, false, false, false, false, false, false, false, false, false, false, false, false, false, false, false, false, false, false, false, false] rfl rfl (by kernel_rfl) (fun _ _ _ h => h) (Or.inl ⟨by rfl, ?_⟩) ?_ ?_
  rotate_left
  · intro w'
    go_simp
    with_reducible rfl
  rotate_left
  · simp only [Act.put, List.setIfInBounds_toArray, List.set_cons_zero, List.set_cons_succ, i64_w, i32_w]
    rfl
  refine pure_ (i := 7) (N := some 33) (v := ?_) (a' := ?_) #[true, true, true, true, true, true, false, true, false, false, false, false, false, false, false, false, false, false, false, false, false, false, false, false, false, false, false, false, false, false, false, false, false, false, false, false, false, false, false, false, false] rfl rfl (by kernel_rfl) (fun _ _ _ h => h) (Or.inl ⟨by rfl, ?_⟩) ?_ ?_
  rotate_left
  · intro w'
    go_simp
    with_reducible rfl
  rotate_left
  · simp only [Act.put, List.setIfInBounds_toArray, List.set_cons_zero, List.set_cons_succ, i64_w, i32_w]
    rfl
  refine pure_ (i := 8) (N := some 34) (v := ?_) (a' := ?_) #[true, true, true, true, true, true, false, true, true, false, false, false, false, false, false, false, false, false, false, false, false, false, false, false, false, false, false, false, false, false, false, false, false, false, false, false, false, false, false, false, false] rfl rfl (by kernel_rfl) (fun _ _ _ h => h) (Or.inl ⟨by rfl, ?_⟩) ?_ ?_
  rotate_left
  · intro w'
    go_simp
    with_reducible rfl
  rotate_left
  · simp only [Act.put, List.setIfInBounds_toArray, List.set_cons_zero, List.set_cons_succ, i64_w, i32_w]
    rfl
  refine pure_ (i := 11) (N := some 37) (v := ?_) (a' := ?_) #[true, true, true, true, true, true, false, true, true, false, false, true, false, false, false, false, false, false, false, false, false, false, false, false, false, false, false, false, false, false, false, false, false, false, false, false, false, false, false, false, false] rfl rfl (by kernel_rfl) (fun _ _ _ h => h) (Or.inl ⟨by rfl, ?_⟩) ?_ ?_
  rotate_left
  · intro w'
    go_simp
    with_reducible rfl
  rotate_left
  · simp only [Act.put, List.setIfInBounds_toArray, List.set_cons_zero, List.set_cons_succ, i64_w, i32_w]
    rfl
  refine pure_ (i := 12) (N := some 38) (v := ?_) (a' := ?_) #[true, true, true, true, true, true, false, true, true, false, false, true, true, false, false, false, false, false, false, false, false, false, false, false, false, false, false, false, false, false, false, false, false, false, false, false, false, false, false, false, false] rfl rfl (by kernel_rfl) (fun _ _ _ h => h) (Or.inl ⟨by rfl, ?_⟩) ?_ ?_
  rotate_left
  · intro w'
    go_simp
    with_reducible rfl
  rotate_left
  · simp only [Act.put, List.setIfInBounds_toArray, List.set_cons_zero, List.set_cons_succ, i64_w, i32_w]
    rfl
  refine take_ (i := 6) (N := some 32) (v := ?_) (a' := ?_) #[true, true, true, true, true, true, true, true, true, false, false, true, true, false, false, false, false, false, false, false, false, false, false, false, false, false, false, false, false, false, false, false, false, false, false, false, false, false, false, false, false] rfl rfl (by kernel_rfl) (fun _ _ _ h => h) (Or.inl ⟨by rfl, ?_⟩) hHeld ?_ ?_
  rotate_left
  · rintro w' ⟨s0, s1⟩
    refine (load_yields rfl rfl s0).trans ?_
    with_reducible rfl
  rotate_left
  · simp only [Act.put, List.setIfInBounds_toArray, List.set_cons_zero, List.set_cons_succ, i64_w, i32_w]
    rfl
  refine one_ (i := 9) (N := some 35) #[true, true, true, true, true, true, true, true, true, true, false, true, true, false, false, false, false, false, false, false, false, false, false, false, false, false, false, false, false, false, false, false, false, false, false, false, false, false, false, false, false] rfl rfl (by kernel_rfl) (by decide) (fun K hK => ?_)
  refine goes_ Try.func44 (by kernel_rfl) rfl #[.int .u8 (I8 a), .int .u8 (I8 b)] (by rfl) rfl rfl (by simp only [List.map_toArray, List.map_cons, List.map_nil]; rfl) ?_
  with_reducible refine (D1.out.q _).mono ?_
  rintro e w52 ⟨rfl, hb52⟩
  refine ⟨_, rfl, ?_⟩
  have M8 := Aside0.mk (Mem.below M8.out hb52)
  have M9 := Aside0.mk (Mem.below M9.out hb52)
  have HB := Aside0.mk (below_step HB.out hb52)
  refine hK.out _ _ ⟨(mem_loads M8.out), (mem_loads M9.out)⟩ (fun hHeld => ?_)
  clear hK K
  refine norm_ (a' := ?_) ?_ ?_
  rotate_left
  · show Act.put _ (some 35) _ = _
    simp only [Act.put, List.setIfInBounds_toArray, List.set_cons_zero, List.set_cons_succ, i64_w, i32_w]
    rfl
  refine one_ (i := 10) (N := some 36) #[true, true, true, true, true, true, true, true, true, true, true, true, true, false, false, false, false, false, false, false, false, false, false, false, false, false, false, false, false, false, false, false, false, false, false, false, false, false, false, false, false] rfl rfl (by kernel_rfl) (by decide) (fun K hK => ?_)
  refine goes_ Try.func43 (by kernel_rfl) rfl #[.agg (cellsOf .u8 (cells8 inF)), .int .u8 (I8 gm)] (by rfl) rfl rfl (by simp only [List.map_toArray, List.map_cons, List.map_nil]; rfl) ?_
  with_reducible refine (C4.out.q _).mono ?_
  rintro e w53 ⟨rfl, hb53⟩
  refine ⟨_, rfl, ?_⟩
  have M8 := Aside0.mk (Mem.below M8.out hb53)
  have M9 := Aside0.mk (Mem.below M9.out hb53)
  have HB := Aside0.mk (below_step HB.out hb53)
  refine hK.out _ _ ⟨(mem_loads M8.out), (mem_loads M9.out)⟩ (fun hHeld => ?_)
  clear hK K
  refine norm_ (a' := ?_) ?_ ?_
  rotate_left
  · show Act.put _ (some 36) _ = _
    simp only [Act.put, List.setIfInBounds_toArray, List.set_cons_zero, List.set_cons_succ, i64_w, i32_w]
    rfl
  refine one_ (i := 13) (N := some 39) #[true, true, true, true, true, true, true, true, true, true, true, true, true, true, false, false, false, false, false, false, false, false, false, false, false, false, false, false, false, false, false, false, false, false, false, false, false, false, false, false, false] rfl rfl (by kernel_rfl) (by decide) (fun K hK => ?_)
  refine goes_ Try.func35 (by kernel_rfl) rfl #[.int .u8 (I8 x), .int .u8 (I8 y)] (by rfl) rfl rfl (by simp only [List.map_toArray, List.map_cons, List.map_nil]; rfl) ?_
  with_reducible refine (D2.out.q _).mono ?_
  rintro e w54 ⟨rfl, hb54⟩
  refine ⟨_, rfl, ?_⟩
  have M8 := Aside0.mk (Mem.below M8.out hb54)
  have M9 := Aside0.mk (Mem.below M9.out hb54)
  have HB := Aside0.mk (below_step HB.out hb54)
  refine hK.out _ _ ⟨(mem_loads M8.out), (mem_loads M9.out)⟩ (fun hHeld => ?_)
  clear hK K
  refine norm_ (a' := ?_) ?_ ?_
  rotate_left
  · show Act.put _ (some 39) _ = _
    simp only [Act.put, List.setIfInBounds_toArray, List.set_cons_zero, List.set_cons_succ, i64_w, i32_w]
    rfl
  refine pure_ (i := 14) (N := some 40) (v := ?_) (a' := ?_) #[true, true, true, true, true, true, true, true, true, true, true, true, true, true, true, false, false, false, false, false, false, false, false, false, false, false, false, false, false, false, false, false, false, false, false, false, false, false, false, false, false] rfl rfl (by kernel_rfl) (fun _ _ _ h => h) (Or.inl ⟨by rfl, ?_⟩) ?_ ?_
  rotate_left
  · intro w'
    go_simp
    with_reducible rfl
  rotate_left
  · simp only [Act.put, List.setIfInBounds_toArray, List.set_cons_zero, List.set_cons_succ, i64_w, i32_w]
    rfl
  refine pure_ (i := 15) (N := some 41) (v := ?_) (a' := ?_) #[true, true, true, true, true, true, true, true, true, true, true, true, true, true, true, true, false, false, false, false, false, false, false, false, false, false, false, false, false, false, false, false, false, false, false, false, false, false, false, false, false] rfl rfl (by kernel_rfl) (fun _ _ _ h => h) (Or.inl ⟨by rfl, ?_⟩) ?_ ?_
  rotate_left
  · intro w'
    go_simp
    with_reducible rfl
  rotate_left
  · simp only [Act.put, List.setIfInBounds_toArray, List.set_cons_zero, List.set_cons_succ, i64_w, i32_w]
    rfl
  refine pure_ (i := 16) (N := some 42) (v := ?_) (a' := ?_) #[true, true, true, true, true, true, true, true, true, true, true, true, true, true, true, true, true, false, false, false, false, false, false, false, false, false, false, false, false, false, false, false, false, false, false, false, false, false, false, false, false] rfl rfl (by kernel_rfl) (fun _ _ _ h => h) (Or.inl ⟨by rfl, ?_⟩) ?_ ?_
  rotate_left
  · intro w'
    go_simp
    with_reducible rfl
  rotate_left
  · simp only [Act.put, List.setIfInBounds_toArray, List.set_cons_zero, List.set_cons_succ, i64_w, i32_w]
    rfl
  refine pure_ (i := 18) (N := some 44) (v := ?_) (a' := ?_) #[true, true, true, true, true, true, true, true, true, true, true, true, true, true, true, true, true, false, true, false, false, false, false, false, false, false, false, false, false, false, false, false, false, false, false, false, false, false, false, false, false] rfl rfl (by kernel_rfl) (fun _ _ _ h => h) (Or.inl ⟨by rfl, ?_⟩) ?_ ?_
  rotate_left
  · intro w'
    go_simp
    with_reducible rfl
  rotate_left
  · simp only [Act.put, List.setIfInBounds_toArray, List.set_cons_zero, List.set_cons_succ, i64_w, i32_w]
    rfl
  refine pure_ (i := 19) (N := some 45) (v := ?_) (a' := ?_) #[true, true, true, true, true, true, true, true, true, true, true, true, true, true, true, true, true, false, true, true, false, false, false, false, false, false, false, false, false, false, false, false, false, false, false, false, false, false, false, false, false] rfl rfl (by kernel_rfl) (fun _ _ _ h => h) (Or.inl ⟨by rfl, ?_⟩) ?_ ?_
  rotate_left
  · intro w'
    go_simp
    with_reducible rfl
  rotate_left
  · simp only [Act.put, List.setIfInBounds_toArray, List.set_cons_zero, List.set_cons_succ, i64_w, i32_w]
    rfl
  refine pure_ (i := 20) (N := some 46) (v := ?_) (a' := ?_) #[true, true, true, true, true, true, true, true, true, true, true, true, true, true, true, true, true, false, true, true, true, false, false, false, false, false, false, false, false, false, false, false, false, false, false, false, false, false, false, false, false] rfl rfl (by kernel_rfl) (fun _ _ _ h => h) (Or.inl ⟨by rfl, ?_⟩) ?_ ?_
  rotate_left
  · intro w'
    go_simp
    with_reducible rfl
  rotate_left
  · simp only [Act.put, List.setIfInBounds_toArray, List.set_cons_zero, List.set_cons_succ, i64_w, i32_w]
    rfl
  refine pure_ (i := 22) (N := some 48) (v := ?_) (a' := ?_) #[true, true, true, true, true, true, true, true, true, true, true, true, true, true, true, true, true, false, true, true, true, false, true, false, false, false, false, false, false, false, false, false, false, false, false, false, false, false, false, false, false] rfl rfl (by kernel_rfl) (fun _ _ _ h => h) (Or.inl ⟨by rfl, ?_⟩) ?_ ?_
  rotate_left
  · intro w'
    go_simp
    with_reducible rfl
  rotate_left
  · simp only [Act.put, List.setIfInBounds_toArray, List.set_cons_zero, List.set_cons_succ, i64_w, i32_w]
    rfl
  refine pure_ (i := 23) (N := some 49) (v := ?_) (a' := ?_) #[true, true, true, true, true, true, true, true, true, true, true, true, true, true, true, true, true, false, true, true, true, false, true, true, false, false, false, false, false, false, false, false, false, false, false, false, false, false, false, false, false] rfl rfl (by kernel_rfl) (fun _ _ _ h => h) (Or.inl ⟨by rfl, ?_⟩) ?_ ?_
  rotate_left
  · intro w'
    go_simp
    with_reducible rfl
  rotate_left
  · simp only [Act.put, List.setIfInBounds_toArray, List.set_cons_zero, List.set_cons_succ, i64_w, i32_w]
    rfl
  refine pure_ (i := 24) (N := some 50) (v := ?_) (a' := ?_) #[true, true, true, true, true, true, true, true, true, true, true, true, true, true, true, true, true, false, true, true, true, false, true, true, true, false, false, false, false, false, false, false, false, false, false, false, false, false, false, false, false] rfl rfl (by kernel_rfl) (fun _ _ _ h => h) (Or.inl ⟨by rfl, ?_⟩) ?_ ?_
  rotate_left
  · intro w'
    go_simp
    with_reducible rfl
  rotate_left
  · simp only [Act.put, List.setIfInBounds_toArray, List.set_cons_zero, List.set_cons_succ, i64_w, i32_w]
    rfl
  refine take_ (i := 17) (N := some 43) (v := ?_) (a' := ?_) #[true, true, true, true, true, true, true, true, true, true, true, true, true, true, true, true, true, true, true, true, true, false, true, true, true, false, false, false, false, false, false, false, false, false, false, false, false, false, false, false, false] rfl rfl (by kernel_rfl) (fun _ _ _ h => h) (Or.inl ⟨by rfl, ?_⟩) hHeld ?_ ?_
  rotate_left
  · rintro w' ⟨s0, s1⟩
    refine (load_yields rfl rfl s0).trans ?_
    with_reducible rfl
  rotate_left
  · simp only [Act.put, List.setIfInBounds_toArray, List.set_cons_zero, List.set_cons_succ, i64_w, i32_w]
    rfl
  refine one_ (i := 21) (N := some 47) #[true, true, true, true, true, true, true, true, true, true, true, true, true, true, true, true, true, true, true, true, true, true, true, true, true, false, false, false, false, false, false, false, false, false, false, false, false, false, false, false, false] rfl rfl (by kernel_rfl) (by decide) (fun K hK => ?_)
  refine goes_ Try.func43 (by kernel_rfl) rfl #[.agg (cellsOf .u8 (cells8 inF)), .int .u8 (Go.bits .xor .u8 (I8 a) (I8 b))] (by rfl) rfl rfl (by simp only [List.map_toArray, List.map_cons, List.map_nil]; rfl) ?_
  with_reducible refine (C5.out.q _).mono ?_
  rintro e w55 ⟨rfl, hb55⟩
  refine ⟨_, rfl, ?_⟩
  have M8 := Aside0.mk (Mem.below M8.out hb55)
  have M9 := Aside0.mk (Mem.below M9.out hb55)
  have HB := Aside0.mk (below_step HB.out hb55)
  refine hK.out _ _ ⟨(mem_loads M8.out), (mem_loads M9.out)⟩ (fun hHeld => ?_)
  clear hK K
  refine norm_ (a' := ?_) ?_ ?_
  rotate_left
  · show Act.put _ (some 47) _ = _
    simp only [Act.put, List.setIfInBounds_toArray, List.set_cons_zero, List.set_cons_succ, i64_w, i32_w]
    rfl
  refine pure_ (i := 25) (N := some 51) (v := ?_) (a' := ?_) #[true, true, true, true, true, true, true, true, true, true, true, true, true, true, true, true, true, true, true, true, true, true, true, true, true, true, false, false, false, false, false, false, false, false, false, false, false, false, false, false, false] rfl rfl (by kernel_rfl) (fun _ _ _ h => h) (Or.inl ⟨by rfl, ?_⟩) ?_ ?_
  rotate_left
  · intro w'
    go_simp
    with_reducible rfl
  rotate_left
  · simp only [Act.put, List.setIfInBounds_toArray, List.set_cons_zero, List.set_cons_succ, i64_w, i32_w]
    rfl
  refine pure_ (i := 26) (N := some 52) (v := ?_) (a' := ?_) #[true, true, true, true, true, true, true, true, true, true, true, true, true, true, true, true, true, true, true, true, true, true, true, true, true, true, true, false, false, false, false, false, false, false, false, false, false, false, false, false, false] rfl rfl (by kernel_rfl) (fun _ _ _ h => h) (Or.inl ⟨by rfl, ?_⟩) ?_ ?_
  rotate_left
  · intro w'
    go_simp
    with_reducible rfl
  rotate_left
  · simp only [Act.put, List.setIfInBounds_toArray, List.set_cons_zero, List.set_cons_succ, i64_w, i32_w]
    rfl
  refine pure_ (i := 27) (N := some 53) (v := ?_) (a' := ?_) #[true, true, true, true, true, true, true, true, true, true, true, true, true, true, true, true, true, true, true, true, true, true, true, true, true, true, true, true, false, false, false, false, false, false, false, false, false, false, false, false, false] rfl rfl (by kernel_rfl) (fun _ _ _ h => h) (Or.inl ⟨by rfl, ?_⟩) ?_ ?_
  rotate_left
  · intro w'
    go_simp
    with_reducible rfl
  rotate_left
  · simp only [Act.put, List.setIfInBounds_toArray, List.set_cons_zero, List.set_cons_succ, i64_w, i32_w]
    rfl
  refine pure_ (i := 29) (N := some 55) (v := ?_) (a' := ?_) #[true, true, true, true, true, true, true, true, true, true, true, true, true, true, true, true, true, true, true, true, true, true, true, true, true, true, true, true, false, true, false, false, false, false, false, false, false, false, false, false, false] rfl rfl (by kernel_rfl) (fun _ _ _ h => h) (Or.inl ⟨by rfl, ?_⟩) ?_ ?_
  rotate_left
  · intro w'
    go_simp
    with_reducible rfl
  rotate_left
  · simp only [Act.put, List.setIfInBounds_toArray, List.set_cons_zero, List.set_cons_succ, i64_w, i32_w]
    rfl
  refine pure_ (i := 32) (N := some 58) (v := ?_) (a' := ?_) #[true, true, true, true, true, true, true, true, true, true, true, true, true, true, true, true, true, true, true, true, true, true, true, true, true, true, true, true, false, true, false, false, true, false, false, false, false, false, false, false, false] rfl rfl (by kernel_rfl) (fun _ _ _ h => h) (Or.inl ⟨by rfl, ?_⟩) ?_ ?_
  rotate_left
  · intro w'
    go_simp
    with_reducible rfl
  rotate_left
  · simp only [Act.put, List.setIfInBounds_toArray, List.set_cons_zero, List.set_cons_succ, i64_w, i32_w]
    rfl
  refine take_ (i := 28) (N := some 54) (v := ?_) (a' := ?_) #[true, true, true, true, true, true, true, true, true, true, true, true, true, true, true, true, true, true, true, true, true, true, true, true, true, true, true, true, true, true, false, false, true, false, false, false, false, false, false, false, false] rfl rfl (by kernel_rfl) (fun _ _ _ h => h) (Or.inl ⟨by rfl, ?_⟩) hHeld ?_ ?_
  rotate_left
  · rintro w' ⟨s0, s1⟩
    refine (load_yields rfl rfl s0).trans ?_
    with_reducible rfl
  rotate_left
  · simp only [Act.put, List.setIfInBounds_toArray, List.set_cons_zero, List.set_cons_succ, i64_w, i32_w]
    rfl
  refine one_ (i := 30) (N := some 56) #[true, true, true, true, true, true, true, true, true, true, true, true, true, true, true, true, true, true, true, true, true, true, true, true, true, true, true, true, true, true, true, false, true, false, false, false, false, false, false, false, false] rfl rfl (by kernel_rfl) (by decide) (fun K hK => ?_)
  refine goes_ Try.func45 (by kernel_rfl) rfl #[.int .u8 (I8 a)] (by rfl) rfl rfl (by simp only [List.map_toArray, List.map_cons, List.map_nil]; rfl) ?_
  with_reducible refine (D3.out.q _).mono ?_
  rintro e w56 ⟨rfl, hb56⟩
  refine ⟨_, rfl, ?_⟩
  have M8 := Aside0.mk (Mem.below M8.out hb56)
  have M9 := Aside0.mk (Mem.below M9.out hb56)
  have HB := Aside0.mk (below_step HB.out hb56)
  refine hK.out _ _ ⟨(mem_loads M8.out), (mem_loads M9.out)⟩ (fun hHeld => ?_)
  clear hK K
  refine norm_ (a' := ?_) ?_ ?_
  rotate_left
  · show Act.put _ (some 56) _ = _
    simp only [Act.put, List.setIfInBounds_toArray, List.set_cons_zero, List.set_cons_succ, i64_w, i32_w]
    rfl
  refine one_ (i := 31) (N := some 57) #[true, true, true, true, true, true, true, true, true, true, true, true, true, true, true, true, true, true, true, true, true, true, true, true, true, true, true, true, true, true, true, true, true, false, false, false, false, false, false, false, false] rfl rfl (by kernel_rfl) (by decide) (fun K hK => ?_)
  refine goes_ Try.func43 (by kernel_rfl) rfl #[.agg (cellsOf .u8 (cells8 inF)), .int .u8 (I8 gi)] (by rfl) rfl rfl (by simp only [List.map_toArray, List.map_cons, List.map_nil]; rfl) ?_
  with_reducible refine (C6.out.q _).mono ?_
  rintro e w57 ⟨rfl, hb57⟩
  refine ⟨_, rfl, ?_⟩
  have M8 := Aside0.mk (Mem.below M8.out hb57)
  have M9 := Aside0.mk (Mem.below M9.out hb57)
  have HB := Aside0.mk (below_step HB.out hb57)
  refine hK.out _ _ ⟨(mem_loads M8.out), (mem_loads M9.out)⟩ (fun hHeld => ?_)
  clear hK K
  refine norm_ (a' := ?_) ?_ ?_
  rotate_left
  · show Act.put _ (some 57) _ = _
    simp only [Act.put, List.setIfInBounds_toArray, List.set_cons_zero, List.set_cons_succ, i64_w, i32_w]
    rfl
  refine one_ (i := 33) (N := some 59) #[true, true, true, true, true, true, true, true, true, true, true, true, true, true, true, true, true, true, true, true, true, true, true, true, true, true, true, true, true, true, true, true, true, true, false, false, false, false, false, false, false] rfl rfl (by kernel_rfl) (by decide) (fun K hK => ?_)
  refine goes_ Try.func38 (by kernel_rfl) rfl #[.int .u8 (I8 x)] (by rfl) rfl rfl (by simp only [List.map_toArray, List.map_cons, List.map_nil]; rfl) ?_
  with_reducible refine (D4.out.q _).mono ?_
  rintro e w58 ⟨rfl, hb58⟩
  refine ⟨_, rfl, ?_⟩
  have M8 := Aside0.mk (Mem.below M8.out hb58)
  have M9 := Aside0.mk (Mem.below M9.out hb58)
  have HB := Aside0.mk (below_step HB.out hb58)
  refine hK.out _ _ ⟨(mem_loads M8.out), (mem_loads M9.out)⟩ (fun hHeld => ?_)
  clear hK K
  refine norm_ (a' := ?_) ?_ ?_
  rotate_left
  · show Act.put _ (some 59) _ = _
    simp only [Act.put, List.setIfInBounds_toArray, List.set_cons_zero, List.set_cons_succ, i64_w, i32_w]
    rfl
  refine pure_ (i := 34) (N := some 60) (v := ?_) (a' := ?_) #[true, true, true, true, true, true, true, true, true, true, true, true, true, true, true, true, true, true, true, true, true, true, true, true, true, true, true, true, true, true, true, true, true, true, true, false, false, false, false, false, false] rfl rfl (by kernel_rfl) (fun _ _ _ h => h) (Or.inl ⟨by rfl, ?_⟩) ?_ ?_
  rotate_left
  · intro w'
    go_simp
    with_reducible rfl
  rotate_left
  · simp only [Act.put, List.setIfInBounds_toArray, List.set_cons_zero, List.set_cons_succ, i64_w, i32_w]
    rfl
  refine pure_ (i := 35) (N := some 61) (v := ?_) (a' := ?_) #[true, true, true, true, true, true, true, true, true, true, true, true, true, true, true, true, true, true, true, true, true, true, true, true, true, true, true, true, true, true, true, true, true, true, true, true, false, false, false, false, false] rfl rfl (by kernel_rfl) (fun _ _ _ h => h) (Or.inl ⟨by rfl, ?_⟩) ?_ ?_
  rotate_left
  · intro w'
    go_simp
    with_reducible rfl
  rotate_left
  · simp only [Act.put, List.setIfInBounds_toArray, List.set_cons_zero, List.set_cons_succ, i64_w, i32_w]
    rfl
  refine pure_ (i := 36) (N := some 62) (v := ?_) (a' := ?_) #[true, true, true, true, true, true, true, true, true, true, true, true, true, true, true, true, true, true, true, true, true, true, true, true, true, true, true, true, true, true, true, true, true, true, true, true, true, false, false, false, false] rfl rfl (by kernel_rfl) (fun _ _ _ h => h) (Or.inl ⟨by rfl, ?_⟩) ?_ ?_
  rotate_left
  · intro w'
    go_simp
    with_reducible rfl
  rotate_left
  · simp only [Act.put, List.setIfInBounds_toArray, List.set_cons_zero, List.set_cons_succ, i64_w, i32_w]
    rfl
  refine take_ (i := 37) (N := some 63) (v := ?_) (a' := ?_) #[true, true, true, true, true, true, true, true, true, true, true, true, true, true, true, true, true, true, true, true, true, true, true, true, true, true, true, true, true, true, true, true, true, true, true, true, true, true, false, false, false] rfl rfl (by kernel_rfl) (fun _ _ _ h => h) (Or.inl ⟨by rfl, ?_⟩) hHeld ?_ ?_
  rotate_left
  · rintro w' ⟨s0, s1⟩
    refine (load_yields rfl rfl s0).trans ?_
    with_reducible rfl
  rotate_left
  · simp only [Act.put, List.setIfInBounds_toArray, List.set_cons_zero, List.set_cons_succ, i64_w, i32_w]
    rfl
  refine one_ (i := 38) (N := some 64) #[true, true, true, true, true, true, true, true, true, true, true, true, true, true, true, true, true, true, true, true, true, true, true, true, true, true, true, true, true, true, true, true, true, true, true, true, true, true, true, false, false] rfl rfl (by kernel_rfl) (by decide) (fun K hK => ?_)
  refine goes_ Try.func46 (by kernel_rfl) rfl #[.agg (cellsOf .u8 (cells8 inF)), .int .u8 1] (by rfl) rfl rfl (by simp only [List.map_toArray, List.map_cons, List.map_nil]; rfl) ?_
  with_reducible refine (C7.out.q _).mono ?_
  rintro e w59 ⟨rfl, hb59⟩
  refine ⟨_, rfl, ?_⟩
  have M8 := Aside0.mk (Mem.below M8.out hb59)
  have M9 := Aside0.mk (Mem.below M9.out hb59)
  have HB := Aside0.mk (below_step HB.out hb59)
  refine hK.out _ _ ⟨(mem_loads M8.out), (mem_loads M9.out)⟩ (fun hHeld => ?_)
  clear hK K
  refine norm_ (a' := ?_) ?_ ?_
  rotate_left
  · show Act.put _ (some 64) _ = _
    simp only [Act.put, List.setIfInBounds_toArray, List.set_cons_zero, List.set_cons_succ, i64_w, i32_w]
    rfl
  refine pure_ (i := 39) (N := some 65) (v := ?_) (a' := ?_) #[true, true, true, true, true, true, true, true, true, true, true, true, true, true, true, true, true, true, true, true, true, true, true, true, true, true, true, true, true, true, true, true, true, true, true, true, true, true, true, true, false] rfl rfl (by kernel_rfl) (fun _ _ _ h => h) (Or.inl ⟨by rfl, ?_⟩) ?_ ?_
  rotate_left
  · intro w'
    go_simp
    with_reducible rfl
  rotate_left
  · simp only [Act.put, List.setIfInBounds_toArray, List.set_cons_zero, List.set_cons_succ, i64_w, i32_w]
    rfl
  refine pure_ (i := 40) (N := some 66) (v := ?_) (a' := ?_) #[true, true, true, true, true, true, true, true, true, true, true, true, true, true, true, true, true, true, true, true, true, true, true, true, true, true, true, true, true, true, true, true, true, true, true, true, true, true, true, true, true] rfl rfl (by kernel_rfl) (fun _ _ _ h => h) (Or.inl ⟨by rfl, ?_⟩) ?_ ?_
  rotate_left
  · intro w'
    go_simp
    with_reducible rfl
  rotate_left
  · simp only [Act.put, List.setIfInBounds_toArray, List.set_cons_zero, List.set_cons_succ, i64_w, i32_w]
    rfl
  refine done_ (by kernel_rfl) ?_
  clear hl0 hl1
  clear M8 M9
  rcases HT.out with h0 | h0
  · have ha0 : (I8 a == 0) = true := by rw [h0]; rfl
    clear h0
    go_wp2_with (first
      | (go_at_call 35; (with_reducible refine (F1.out.q _).mono ?_); rintro e wf1 ⟨rfl, hbf1⟩; have HB := Aside0.mk (below_step HB.out hbf1))
      | (go_at_call 35; (with_reducible refine (F2.out.q _).mono ?_); rintro e wf2 ⟨rfl, hbf2⟩; have HB := Aside0.mk (below_step HB.out hbf2))
      | (go_at_call 35; (with_reducible refine (F3.out.q _).mono ?_); rintro e wf3 ⟨rfl, hbf3⟩; have HB := Aside0.mk (below_step HB.out hbf3))
      | (go_at_call 35; (with_reducible refine (F4.out.q _).mono ?_); rintro e wf4 ⟨rfl, hbf4⟩; have HB := Aside0.mk (below_step HB.out hbf4))
      | (go_at_call 35; (with_reducible refine (F5.out.q _).mono ?_); rintro e wf5 ⟨rfl, hbf5⟩; have HB := Aside0.mk (below_step HB.out hbf5))
      | (go_at_call 35; (with_reducible refine (F6.out.q _).mono ?_); rintro e wf6 ⟨rfl, hbf6⟩; have HB := Aside0.mk (below_step HB.out hbf6))
      | (go_at_call 35; (with_reducible refine (F12.out.q _).mono ?_); rintro e wf12 ⟨rfl, hbf12⟩; have HB := Aside0.mk (below_step HB.out hbf12))
      | (go_at_call 37; (with_reducible refine (F7.out.q _).mono ?_); rintro e wf7 ⟨rfl, hbf7⟩; have HB := Aside0.mk (below_step HB.out hbf7))
      | (go_at_call 47; (with_reducible refine (F8.out.q _).mono ?_); rintro e wf8 ⟨rfl, hbf8⟩; have HB := Aside0.mk (below_step HB.out hbf8))
      | (go_at_call 38; (with_reducible refine (F9.out.q _).mono ?_); rintro e wf9 ⟨rfl, hbf9⟩; have HB := Aside0.mk (below_step HB.out hbf9))
      | (go_at_call 34; (with_reducible refine (F10.out.q _).mono ?_); rintro e wf10 ⟨rfl, hbf10⟩; have HB := Aside0.mk (below_step HB.out hbf10))
      | (go_at_call 34; (with_reducible refine (F11.out.q _).mono ?_); rintro e wf11 ⟨rfl, hbf11⟩; have HB := Aside0.mk (below_step HB.out hbf11))
      | (go_at_call 42; (with_reducible refine (F13.out.q _).mono ?_); rintro e wf13 ⟨rfl, hbf13⟩; have HB := Aside0.mk (below_step HB.out hbf13)))
    go_ret
    exact ⟨rfl, HB.out⟩
  · by_cases ha : a = 0#8
    · have ha0 : (I8 a == 0) = true := by rw [ha]; rfl
      clear h0 ha
      go_wp2_with (first
        | (go_at_call 35; (with_reducible refine (F1.out.q _).mono ?_); rintro e wf1 ⟨rfl, hbf1⟩; have HB := Aside0.mk (below_step HB.out hbf1))
        | (go_at_call 35; (with_reducible refine (F2.out.q _).mono ?_); rintro e wf2 ⟨rfl, hbf2⟩; have HB := Aside0.mk (below_step HB.out hbf2))
        | (go_at_call 35; (with_reducible refine (F3.out.q _).mono ?_); rintro e wf3 ⟨rfl, hbf3⟩; have HB := Aside0.mk (below_step HB.out hbf3))
        | (go_at_call 35; (with_reducible refine (F4.out.q _).mono ?_); rintro e wf4 ⟨rfl, hbf4⟩; have HB := Aside0.mk (below_step HB.out hbf4))
        | (go_at_call 35; (with_reducible refine (F5.out.q _).mono ?_); rintro e wf5 ⟨rfl, hbf5⟩; have HB := Aside0.mk (below_step HB.out hbf5))
        | (go_at_call 35; (with_reducible refine (F6.out.q _).mono ?_); rintro e wf6 ⟨rfl, hbf6⟩; have HB := Aside0.mk (below_step HB.out hbf6))
        | (go_at_call 35; (with_reducible refine (F12.out.q _).mono ?_); rintro e wf12 ⟨rfl, hbf12⟩; have HB := Aside0.mk (below_step HB.out hbf12))
        | (go_at_call 37; (with_reducible refine (F7.out.q _).mono ?_); rintro e wf7 ⟨rfl, hbf7⟩; have HB := Aside0.mk (below_step HB.out hbf7))
        | (go_at_call 47; (with_reducible refine (F8.out.q _).mono ?_); rintro e wf8 ⟨rfl, hbf8⟩; have HB := Aside0.mk (below_step HB.out hbf8))
        | (go_at_call 38; (with_reducible refine (F9.out.q _).mono ?_); rintro e wf9 ⟨rfl, hbf9⟩; have HB := Aside0.mk (below_step HB.out hbf9))
        | (go_at_call 34; (with_reducible refine (F10.out.q _).mono ?_); rintro e wf10 ⟨rfl, hbf10⟩; have HB := Aside0.mk (below_step HB.out hbf10))
        | (go_at_call 34; (with_reducible refine (F11.out.q _).mono ?_); rintro e wf11 ⟨rfl, hbf11⟩; have HB := Aside0.mk (below_step HB.out hbf11))
        | (go_at_call 42; (with_reducible refine (F13.out.q _).mono ?_); rintro e wf13 ⟨rfl, hbf13⟩; have HB := Aside0.mk (below_step HB.out hbf13)))
      go_ret
      exact ⟨rfl, HB.out⟩
    · have ha0 : (I8 a == 0) = false := by rw [beq_eq_false_iff_ne]; exact fun e => ha (I8_inj e)
      subst h0
      clear ha
      go_wp2_with (first
        | (go_at_call 35; (with_reducible refine (F1.out.q _).mono ?_); rintro e wf1 ⟨rfl, hbf1⟩; have HB := Aside0.mk (below_step HB.out hbf1))
        | (go_at_call 35; (with_reducible refine (F2.out.q _).mono ?_); rintro e wf2 ⟨rfl, hbf2⟩; have HB := Aside0.mk (below_step HB.out hbf2))
        | (go_at_call 35; (with_reducible refine (F3.out.q _).mono ?_); rintro e wf3 ⟨rfl, hbf3⟩; have HB := Aside0.mk (below_step HB.out hbf3))
        | (go_at_call 35; (with_reducible refine (F4.out.q _).mono ?_); rintro e wf4 ⟨rfl, hbf4⟩; have HB := Aside0.mk (below_step HB.out hbf4))
        | (go_at_call 35; (with_reducible refine (F5.out.q _).mono ?_); rintro e wf5 ⟨rfl, hbf5⟩; have HB := Aside0.mk (below_step HB.out hbf5))
        | (go_at_call 35; (with_reducible refine (F6.out.q _).mono ?_); rintro e wf6 ⟨rfl, hbf6⟩; have HB := Aside0.mk (below_step HB.out hbf6))
        | (go_at_call 35; (with_reducible refine (F12.out.q _).mono ?_); rintro e wf12 ⟨rfl, hbf12⟩; have HB := Aside0.mk (below_step HB.out hbf12))
        | (go_at_call 37; (with_reducible refine (F7.out.q _).mono ?_); rintro e wf7 ⟨rfl, hbf7⟩; have HB := Aside0.mk (below_step HB.out hbf7))
        | (go_at_call 47; (with_reducible refine (F8.out.q _).mono ?_); rintro e wf8 ⟨rfl, hbf8⟩; have HB := Aside0.mk (below_step HB.out hbf8))
        | (go_at_call 38; (with_reducible refine (F9.out.q _).mono ?_); rintro e wf9 ⟨rfl, hbf9⟩; have HB := Aside0.mk (below_step HB.out hbf9))
        | (go_at_call 34; (with_reducible refine (F10.out.q _).mono ?_); rintro e wf10 ⟨rfl, hbf10⟩; have HB := Aside0.mk (below_step HB.out hbf10))
        | (go_at_call 34; (with_reducible refine (F11.out.q _).mono ?_); rintro e wf11 ⟨rfl, hbf11⟩; have HB := Aside0.mk (below_step HB.out hbf11))
        | (go_at_call 42; (with_reducible refine (F13.out.q _).mono ?_); rintro e wf13 ⟨rfl, hbf13⟩; have HB := Aside0.mk (below_step HB.out hbf13)))
      go_ret
      exact ⟨rfl, HB.out⟩
theorem tower_keeps_walk (a b c : Int) (w : World) (wa : (Lit.int .u8 a).wf = true) (wb : (Lit.int .u8 b).wf = true) (wc : (Lit.int .u8 c).wf = true) : Calls Try.prog 7 #[.int .u8 a, .int .u8 b, .int .u8 c] w fun e w' => e = .returned (.bool true) ∧ Below w.heap.size w w' := by
  obtain ⟨a, rfl⟩ := byte_of wa
  obtain ⟨b, rfl⟩ := byte_of wb
  obtain ⟨c, rfl⟩ := byte_of wc
  exact tower_keeps a b c w
end Go.Proofs.Ytphdlidaigalkaa.Mat
