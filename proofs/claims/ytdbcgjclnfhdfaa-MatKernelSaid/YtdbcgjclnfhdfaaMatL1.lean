/-
  The law of the document's matrices, walked.
-/
import Derived.Test.YtdbcgjclnfhdfaaMatJ
namespace Go.Proofs.Ytdbcgjclnfhdfaa.Mat
open Go.RowKit Go.Proofs.YtdbcgjclnfhdfaaW.PrintWords Go.Proofs.YtdbcgjclnfhdfaaW.PrintLast Go.Proofs.YtdbcgjclnfhdfaaW.PrintMore Byte Sl Arr Mem Gives ArrEq
set_option linter.unusedVariables false
set_option linter.unusedSimpArgs false
set_option maxHeartbeats 4000000
set_option maxRecDepth 100000
theorem eq_self (f : Rows) (w : World) : (binOp .eql 23 (.agg (cellsOf .u8 (cells8 f))) (.agg (cellsOf .u8 (cells8 f)))).run Try.prog w = .ok (.bool true) w := by rw [eqs, decide_eq_true rfl]
theorem ne_self (f : Rows) (w : World) : (binOp .neq 23 (.agg (cellsOf .u8 (cells8 f))) (.agg (cellsOf .u8 (cells8 f)))).run Try.prog w = .ok (.bool false) w := by rw [neqs, decide_eq_true rfl]; rfl
/-- The two inverses are one. -/
theorem invs {f g g' : Rows} {ok ok' : Bool} (h : InvOf f g ok) (h' : RInvOf f g' ok') : ok' = ok ∧ cells8 g' = cells8 g := by
  cases ok with
  | true =>
    have hb := h.back rfl
    have e : ok' = true := by
      cases ok' with
      | true => rfl
      | false =>
        obtain ⟨_, j, _, hn⟩ := h'.no rfl
        exact absurd (hb (1#8 <<< j)).2 (hn _)
    subst e
    refine ⟨rfl, cells8_congr (rows_of_app fun y => ?_)⟩
    rw [← (hb (app g' y)).1, h'.yes rfl]
  | false =>
    have e : ok' = false := by
      cases ok' with
      | false => rfl
      | true =>
        have hr := rank_full f (fun y => ⟨app g' y, h'.yes rfl y⟩)
        exact absurd (h.full.2 hr) (by decide)
    subst e
    exact ⟨rfl, by rw [(h'.no rfl).1, h.none rfl]⟩
theorem tells_ (a b : Rows) (x : BitVec 8) (w : World) : Calls Try.prog 4 #[.agg (cellsOf .u8 (cells8 a)), .agg (cellsOf .u8 (cells8 b)), .int .u8 (I8 x)] w fun e w' => e = .returned (.bool true) ∧ Below w.heap.size w w' := by
  have M1 := Aside0.mk (Mem.alloc (Mem.new .u8 w 23 (cells8 a)) (.cells (cellsOf .u8 (cells8 b)) 23))
  have M2 := Aside0.mk (Mem.new2 .u8 w (.cells (cellsOf .u8 (cells8 a)) 23) 23 (cells8 b))
  have HB := Aside0.mk (below_alloc (below_alloc (Below.refl w.heap.size w) (.cells (cellsOf .u8 (cells8 a)) 23)) (.cells (cellsOf .u8 (cells8 b)) 23))
  have C1 := Aside0.mk (inv_c a)
  have C2 := Aside0.mk (rinv_c a)
  have C3 := Aside0.mk (flip_c a)
  have C4 := Aside0.mk (app_c a x)
  have C5 := Aside0.mk (rapp_c a x)
  have C6 := Aside0.mk (mul_c a b)
  have c7 := rmul_c a b
  rw [matV_congr (rmul_eq a b)] at c7
  have C7 := Aside0.mk c7
  have C8 := Aside0.mk (columns_c a)
  have C9 := Aside0.mk (rcolumns_c a)
  have C10 := Aside0.mk one_c
  have c11 := app_c oneF x
  rw [one_app] at c11
  have C11 := Aside0.mk c11
  have C12 := Aside0.mk (rank_c a)
  have C13 := Aside0.mk (rrank_c a)
  have C14 := Aside0.mk awake_c
  rw [matV_eq] at C1 C2 C4 C5 C11 C12 C13 C10
  rw [matV_eq, matV_eq] at C3 C8 C9
  rw [matV_eq, matV_eq, matV_eq] at C6 C7
  clear c7 c11
  have E1 := eq_self (mulF a b)
  have E2 := eq_self (flipF a)
  have E4 := Aside0.mk (fun k (hk : k < 64) => (bit_c (flipF a) (k / 8) (k % 8) (by omega) (by omega)))
  have E5 := Aside0.mk (fun k (hk : k < 64) => (bit_c a (k % 8) (k / 8) (by omega) (by omega)))
  have E6 := Aside0.mk (fun k (hk : k < 64) => flip_bit a (k % 8) (k / 8) (by omega))
  generalize mulF a b = fm at *
  generalize app a x = ax at *
  generalize rank a = rk at *
  generalize hfl : flipF a = fl at *
  go_enter Try.func4, Try.ntmps4
  go_wp2_with (first
    | ((with_reducible refine gate_dst (N := 14) rfl ?_); refine Mem.load M1.out rfl 23 (.tmp 3) rfl rfl Try.underlying23 (by rw [cells8_length]; exact info_mat) ?_)
    | (go_at_call 15; (with_reducible refine (C1.out _).mono ?_); rintro e w1 ⟨g1, ok1, rfl, hI, hb1⟩; have lt1_M1 := Nat.lt_of_lt_of_le M1.out.lt hb1.size; have lt1_M2 := Nat.lt_of_lt_of_le M2.out.lt hb1.size; have M1 := Aside0.mk (Mem.row (Mem.alloc (Mem.below M1.out hb1) (.cells (cellsOf .u8 (cells8 zrow)) 23)) (g' := w1.heap.size) (by omega) (cellsOf .u8 (cells8 g1))); have M2 := Aside0.mk (Mem.row (Mem.alloc (Mem.below M2.out hb1) (.cells (cellsOf .u8 (cells8 zrow)) 23)) (g' := w1.heap.size) (by omega) (cellsOf .u8 (cells8 g1))); have Z1 := Aside0.mk (Mem.new .u8 w1 23 (cells8 zrow)); have N1 := Aside0.mk (Mem.put Z1.out (cells8 g1)); have hs1 := (below_step HB.out hb1).size; have HB := Aside0.mk (below_setRow (below_alloc (below_step HB.out hb1) (.cells (cellsOf .u8 (cells8 zrow)) 23)) (g := w1.heap.size) hs1 (cellsOf .u8 (cells8 g1))); have HI := Aside0.mk hI; clear hI)
    | ((with_reducible refine gate_store (t := 23) (p := 7) rfl ?_); refine Mem.store (l' := cells8 g1) Z1.out rfl 23 (.tmp 7) (.tmp 16) rfl rfl rfl (by rw [cells8_length]; exact info_mat) (by simp only [cells8_length]) ?_)
    | ((with_reducible refine gate_dst (N := 19) rfl ?_); refine Mem.load M1.out rfl 23 (.tmp 3) rfl rfl Try.underlying23 (by rw [cells8_length]; exact info_mat) ?_)
    | (go_at_call 19; (with_reducible refine (C2.out _).mono ?_); rintro e w2 ⟨g2, ok2, rfl, hJ, hb2⟩; have lt2_M1 := Nat.lt_of_lt_of_le M1.out.lt hb2.size; have lt2_M2 := Nat.lt_of_lt_of_le M2.out.lt hb2.size; have lt2_N1 := Nat.lt_of_lt_of_le N1.out.lt hb2.size; have M1 := Aside0.mk (Mem.row (Mem.alloc (Mem.below M1.out hb2) (.cells (cellsOf .u8 (cells8 zrow)) 23)) (g' := w2.heap.size) (by omega) (cellsOf .u8 (cells8 g2))); have M2 := Aside0.mk (Mem.row (Mem.alloc (Mem.below M2.out hb2) (.cells (cellsOf .u8 (cells8 zrow)) 23)) (g' := w2.heap.size) (by omega) (cellsOf .u8 (cells8 g2))); have N1 := Aside0.mk (Mem.row (Mem.alloc (Mem.below N1.out hb2) (.cells (cellsOf .u8 (cells8 zrow)) 23)) (g' := w2.heap.size) (by omega) (cellsOf .u8 (cells8 g2))); have Z2 := Aside0.mk (Mem.new .u8 w2 23 (cells8 zrow)); have N2 := Aside0.mk (Mem.put Z2.out (cells8 g2)); have hs2 := (below_step HB.out hb2).size; have HB := Aside0.mk (below_setRow (below_alloc (below_step HB.out hb2) (.cells (cellsOf .u8 (cells8 zrow)) 23)) (g := w2.heap.size) hs2 (cellsOf .u8 (cells8 g2))); have HJ := Aside0.mk hJ; clear hJ)
    | ((with_reducible refine gate_store (t := 23) (p := 9) rfl ?_); refine Mem.store (l' := cells8 g2) Z2.out rfl 23 (.tmp 9) (.tmp 21) rfl rfl rfl (by rw [cells8_length]; exact info_mat) (by simp only [cells8_length]) ?_)
    | ((with_reducible refine gate_dst (N := 23) rfl ?_); refine Mem.load M1.out rfl 23 (.tmp 3) rfl rfl Try.underlying23 (by rw [cells8_length]; exact info_mat) ?_)
    | (go_at_call 14; (with_reducible refine (C3.out.q _).mono ?_); rintro e w3 ⟨rfl, hb3⟩; have lt3_M1 := Nat.lt_of_lt_of_le M1.out.lt hb3.size; have lt3_M2 := Nat.lt_of_lt_of_le M2.out.lt hb3.size; have lt3_N1 := Nat.lt_of_lt_of_le N1.out.lt hb3.size; have lt3_N2 := Nat.lt_of_lt_of_le N2.out.lt hb3.size; have M1 := Aside0.mk (Mem.row (Mem.alloc (Mem.below M1.out hb3) (.cells (cellsOf .u8 (cells8 zrow)) 23)) (g' := w3.heap.size) (by omega) (cellsOf .u8 (cells8 fl))); have M2 := Aside0.mk (Mem.row (Mem.alloc (Mem.below M2.out hb3) (.cells (cellsOf .u8 (cells8 zrow)) 23)) (g' := w3.heap.size) (by omega) (cellsOf .u8 (cells8 fl))); have N1 := Aside0.mk (Mem.row (Mem.alloc (Mem.below N1.out hb3) (.cells (cellsOf .u8 (cells8 zrow)) 23)) (g' := w3.heap.size) (by omega) (cellsOf .u8 (cells8 fl))); have N2 := Aside0.mk (Mem.row (Mem.alloc (Mem.below N2.out hb3) (.cells (cellsOf .u8 (cells8 zrow)) 23)) (g' := w3.heap.size) (by omega) (cellsOf .u8 (cells8 fl))); have Z3 := Aside0.mk (Mem.new .u8 w3 23 (cells8 zrow)); have N3 := Aside0.mk (Mem.put Z3.out (cells8 fl)); have hs3 := (below_step HB.out hb3).size; have HB := Aside0.mk (below_setRow (below_alloc (below_step HB.out hb3) (.cells (cellsOf .u8 (cells8 zrow)) 23)) (g := w3.heap.size) hs3 (cellsOf .u8 (cells8 fl))))
    | ((with_reducible refine gate_store (t := 23) (p := 11) rfl ?_); refine Mem.store (l' := cells8 fl) Z3.out rfl 23 (.tmp 11) (.tmp 24) rfl rfl rfl (by rw [cells8_length]; exact info_mat) (by simp only [cells8_length]) ?_))
  have hinv := invs HI.out HJ.out
  obtain ⟨rfl, hgg⟩ := hinv
  rw [hgg] at N2
  have E3 := eq_self g1
  clear hgg HI HJ Z1 Z2 Z3
  go_loopg [12] 64 (fun kq i w' => ∃ k : Nat, k + kq = 64 ∧ i = .int .i64 k ∧ Aside0 (Mem .u8 w' w.heap.size 23 (cells8 a)) ∧ Aside0 (Mem .u8 w' (w.heap.size + 1) 23 (cells8 b)) ∧ Aside0 (Mem .u8 w' w1.heap.size 23 (cells8 g1)) ∧ Aside0 (Mem .u8 w' w2.heap.size 23 (cells8 g1)) ∧ Aside0 (Mem .u8 w' w3.heap.size 23 (cells8 fl)) ∧ Aside0 (Below w.heap.size w w'))
  case atStart => exact ⟨0, by omega, rfl, M1, M2, N1, N2, N3, HB⟩
  case round =>
    clear M1 M2 N1 N2 N3 HB
    obtain ⟨k, hk, rfl, M1, M2, N1, N2, N3, HB⟩ := hrel
    cases gk with
    | zero =>
      obtain rfl : k = 64 := by omega
      have hl0 := mem_loads (Mem.drew M1.out)
      have hl1 := mem_loads (Mem.drew M2.out)
      have hl2 := mem_loads (Mem.drew N1.out)
      have hl3 := mem_loads (Mem.drew N2.out)
      go_wp2
      refine start_ (n := 51) (S := fun w' => (loadVar 23 ⟨w.heap.size, 0, none⟩).run Try.prog w' = .ok (.agg (cellsOf .u8 (cells8 a))) w' ∧ (loadVar 23 ⟨w.heap.size + 1, 0, none⟩).run Try.prog w' = .ok (.agg (cellsOf .u8 (cells8 b))) w' ∧ (loadVar 23 ⟨w1.heap.size, 0, none⟩).run Try.prog w' = .ok (.agg (cellsOf .u8 (cells8 g1))) w' ∧ (loadVar 23 ⟨w2.heap.size, 0, none⟩).run Try.prog w' = .ok (.agg (cellsOf .u8 (cells8 g1))) w') (ds := []) #[false, false, false, false, false, false, false, false, false, false, false, false, false, false, false, false, false, false, false, false, false, false, false, false, false, false, false, false, false, false, false, false, false, false, false, false, false, false, false, false, false, false, false, false, false, false, false, false, false, false, false] (by kernel_rfl) rfl rfl ⟨hl0, hl1, hl2, hl3⟩ (fun hHeld => ?_)
      refine pure_ (i := 1) (N := some 43) (v := ?_) (a' := ?_) #[false, true, false, false, false, false, false, false, false, false, false, false, false, false, false, false, false, false, false, false, false, false, false, false, false, false, false, false, false, false, false, false, false, false, false, false, false, false, false, false, false, false, false, false, false, false, false, false, false, false, false] rfl rfl (by kernel_rfl) (fun _ _ _ h => h) (Or.inl ⟨by rfl, ?_⟩) ?_ ?_
      rotate_left
      · intro w'
        go_simp
        with_reducible rfl
      rotate_left
      · simp only [Act.put, List.setIfInBounds_toArray, List.set_cons_zero, List.set_cons_succ, i64_w, i32_w]
        rfl
      refine pure_ (i := 4) (N := some 46) (v := ?_) (a' := ?_) #[false, true, false, false, true, false, false, false, false, false, false, false, false, false, false, false, false, false, false, false, false, false, false, false, false, false, false, false, false, false, false, false, false, false, false, false, false, false, false, false, false, false, false, false, false, false, false, false, false, false, false] rfl rfl (by kernel_rfl) (fun _ _ _ h => h) (Or.inl ⟨by rfl, ?_⟩) ?_ ?_
      rotate_left
      · intro w'
        go_simp
        with_reducible rfl
      rotate_left
      · simp only [Act.put, List.setIfInBounds_toArray, List.set_cons_zero, List.set_cons_succ, i64_w, i32_w]
        rfl
      refine take_ (i := 0) (N := some 42) (v := ?_) (a' := ?_) #[true, true, false, false, true, false, false, false, false, false, false, false, false, false, false, false, false, false, false, false, false, false, false, false, false, false, false, false, false, false, false, false, false, false, false, false, false, false, false, false, false, false, false, false, false, false, false, false, false, false, false] rfl rfl (by kernel_rfl) (fun _ _ _ h => h) (Or.inl ⟨by rfl, ?_⟩) hHeld ?_ ?_
      rotate_left
      · rintro w' ⟨s0, s1, s2, s3⟩
        refine (load_yields rfl rfl s0).trans ?_
        with_reducible rfl
      rotate_left
      · simp only [Act.put, List.setIfInBounds_toArray, List.set_cons_zero, List.set_cons_succ, i64_w, i32_w]
        rfl
      refine take_ (i := 3) (N := some 45) (v := ?_) (a' := ?_) #[true, true, false, true, true, false, false, false, false, false, false, false, false, false, false, false, false, false, false, false, false, false, false, false, false, false, false, false, false, false, false, false, false, false, false, false, false, false, false, false, false, false, false, false, false, false, false, false, false, false, false] rfl rfl (by kernel_rfl) (fun _ _ _ h => h) (Or.inl ⟨by rfl, ?_⟩) hHeld ?_ ?_
      rotate_left
      · rintro w' ⟨s0, s1, s2, s3⟩
        refine (load_yields rfl rfl s0).trans ?_
        with_reducible rfl
      rotate_left
      · simp only [Act.put, List.setIfInBounds_toArray, List.set_cons_zero, List.set_cons_succ, i64_w, i32_w]
        rfl
      refine one_ (i := 2) (N := some 44) #[true, true, true, true, true, false, false, false, false, false, false, false, false, false, false, false, false, false, false, false, false, false, false, false, false, false, false, false, false, false, false, false, false, false, false, false, false, false, false, false, false, false, false, false, false, false, false, false, false, false, false] rfl rfl (by kernel_rfl) (by decide) (fun K hK => ?_)
      refine goes_ Try.func12 (by kernel_rfl) rfl #[.agg (cellsOf .u8 (cells8 a)), .int .u8 (I8 x)] (by rfl) rfl rfl (by simp only [List.map_toArray, List.map_cons, List.map_nil]; rfl) ?_
      with_reducible refine (C4.out.q _).mono ?_
      rintro e w51 ⟨rfl, hb51⟩
      refine ⟨_, rfl, ?_⟩
      have M1 := Aside0.mk (Mem.drew M1.out)
      have M2 := Aside0.mk (Mem.drew M2.out)
      have N1 := Aside0.mk (Mem.drew N1.out)
      have N2 := Aside0.mk (Mem.drew N2.out)
      have HB := Aside0.mk (below_drew HB.out)
      have M1 := Aside0.mk (Mem.below M1.out hb51)
      have M2 := Aside0.mk (Mem.below M2.out hb51)
      have N1 := Aside0.mk (Mem.below N1.out hb51)
      have N2 := Aside0.mk (Mem.below N2.out hb51)
      have HB := Aside0.mk (below_step HB.out hb51)
      refine hK.out _ _ ⟨(mem_loads M1.out), (mem_loads M2.out), (mem_loads N1.out), (mem_loads N2.out)⟩ (fun hHeld => ?_)
      clear hK K
      refine norm_ (a' := ?_) ?_ ?_
      rotate_left
      · show Act.put _ (some 44) _ = _
        simp only [Act.put, List.setIfInBounds_toArray, List.set_cons_zero, List.set_cons_succ, i64_w, i32_w]
        rfl
      refine one_ (i := 5) (N := some 47) #[true, true, true, true, true, true, false, false, false, false, false, false, false, false, false, false, false, false, false, false, false, false, false, false, false, false, false, false, false, false, false, false, false, false, false, false, false, false, false, false, false, false, false, false, false, false, false, false, false, false, false] rfl rfl (by kernel_rfl) (by decide) (fun K hK => ?_)
      refine goes_ Try.func21 (by kernel_rfl) rfl #[.agg (cellsOf .u8 (cells8 a)), .int .u8 (I8 x)] (by rfl) rfl rfl (by simp only [List.map_toArray, List.map_cons, List.map_nil]; rfl) ?_
      with_reducible refine (C5.out.q _).mono ?_
      rintro e w52 ⟨rfl, hb52⟩
      refine ⟨_, rfl, ?_⟩
      have M1 := Aside0.mk (Mem.below M1.out hb52)
      have M2 := Aside0.mk (Mem.below M2.out hb52)
      have N1 := Aside0.mk (Mem.below N1.out hb52)
      have N2 := Aside0.mk (Mem.below N2.out hb52)
      have HB := Aside0.mk (below_step HB.out hb52)
      refine hK.out _ _ ⟨(mem_loads M1.out), (mem_loads M2.out), (mem_loads N1.out), (mem_loads N2.out)⟩ (fun hHeld => ?_)
      clear hK K
      refine norm_ (a' := ?_) ?_ ?_
      rotate_left
      · show Act.put _ (some 47) _ = _
        simp only [Act.put, List.setIfInBounds_toArray, List.set_cons_zero, List.set_cons_succ, i64_w, i32_w]
        rfl
      refine pure_ (i := 6) (N := some 48) (v := ?_) (a' := ?_) #[true, true, true, true, true, true, true, false, false, false, false, false, false, false, false, false, false, false, false, false, false, false, false, false, false, false, false, false, false, false, false, false, false, false, false, false, false, false, false, false, false, false, false, false, false, false, false, false, false, false, false] rfl rfl (by kernel_rfl) (fun _ _ _ h => h) (Or.inl ⟨by rfl, ?_⟩) ?_ ?_
      rotate_left
      · intro w'
        go_simp
        with_reducible rfl
      rotate_left
      · simp only [Act.put, List.setIfInBounds_toArray, List.set_cons_zero, List.set_cons_succ, i64_w, i32_w]
        rfl
      refine pure_ (i := 7) (N := some 49) (v := ?_) (a' := ?_) #[true, true, true, true, true, true, true, true, false, false, false, false, false, false, false, false, false, false, false, false, false, false, false, false, false, false, false, false, false, false, false, false, false, false, false, false, false, false, false, false, false, false, false, false, false, false, false, false, false, false, false] rfl rfl (by kernel_rfl) (fun _ _ _ h => h) (Or.inl ⟨by rfl, ?_⟩) ?_ ?_
      rotate_left
      · intro w'
        go_simp
        with_reducible rfl
      rotate_left
      · simp only [Act.put, List.setIfInBounds_toArray, List.set_cons_zero, List.set_cons_succ, i64_w, i32_w]
        rfl
      refine take_ (i := 8) (N := some 50) (v := ?_) (a' := ?_) #[true, true, true, true, true, true, true, true, true, false, false, false, false, false, false, false, false, false, false, false, false, false, false, false, false, false, false, false, false, false, false, false, false, false, false, false, false, false, false, false, false, false, false, false, false, false, false, false, false, false, false] rfl rfl (by kernel_rfl) (fun _ _ _ h => h) (Or.inl ⟨by rfl, ?_⟩) hHeld ?_ ?_
      rotate_left
      · rintro w' ⟨s0, s1, s2, s3⟩
        refine (load_yields rfl rfl s0).trans ?_
        with_reducible rfl
      rotate_left
      · simp only [Act.put, List.setIfInBounds_toArray, List.set_cons_zero, List.set_cons_succ, i64_w, i32_w]
        rfl
      refine take_ (i := 9) (N := some 51) (v := ?_) (a' := ?_) #[true, true, true, true, true, true, true, true, true, true, false, false, false, false, false, false, false, false, false, false, false, false, false, false, false, false, false, false, false, false, false, false, false, false, false, false, false, false, false, false, false, false, false, false, false, false, false, false, false, false, false] rfl rfl (by kernel_rfl) (fun _ _ _ h => h) (Or.inl ⟨by rfl, ?_⟩) hHeld ?_ ?_
      rotate_left
      · rintro w' ⟨s0, s1, s2, s3⟩
        refine (load_yields rfl rfl s1).trans ?_
        with_reducible rfl
      rotate_left
      · simp only [Act.put, List.setIfInBounds_toArray, List.set_cons_zero, List.set_cons_succ, i64_w, i32_w]
        rfl
      refine take_ (i := 11) (N := some 53) (v := ?_) (a' := ?_) #[true, true, true, true, true, true, true, true, true, true, false, true, false, false, false, false, false, false, false, false, false, false, false, false, false, false, false, false, false, false, false, false, false, false, false, false, false, false, false, false, false, false, false, false, false, false, false, false, false, false, false] rfl rfl (by kernel_rfl) (fun _ _ _ h => h) (Or.inl ⟨by rfl, ?_⟩) hHeld ?_ ?_
      rotate_left
      · rintro w' ⟨s0, s1, s2, s3⟩
        refine (load_yields rfl rfl s0).trans ?_
        with_reducible rfl
      rotate_left
      · simp only [Act.put, List.setIfInBounds_toArray, List.set_cons_zero, List.set_cons_succ, i64_w, i32_w]
        rfl
      refine take_ (i := 12) (N := some 54) (v := ?_) (a' := ?_) #[true, true, true, true, true, true, true, true, true, true, false, true, true, false, false, false, false, false, false, false, false, false, false, false, false, false, false, false, false, false, false, false, false, false, false, false, false, false, false, false, false, false, false, false, false, false, false, false, false, false, false] rfl rfl (by kernel_rfl) (fun _ _ _ h => h) (Or.inl ⟨by rfl, ?_⟩) hHeld ?_ ?_
      rotate_left
      · rintro w' ⟨s0, s1, s2, s3⟩
        refine (load_yields rfl rfl s1).trans ?_
        with_reducible rfl
      rotate_left
      · simp only [Act.put, List.setIfInBounds_toArray, List.set_cons_zero, List.set_cons_succ, i64_w, i32_w]
        rfl
      refine one_ (i := 10) (N := some 52) #[true, true, true, true, true, true, true, true, true, true, true, true, true, false, false, false, false, false, false, false, false, false, false, false, false, false, false, false, false, false, false, false, false, false, false, false, false, false, false, false, false, false, false, false, false, false, false, false, false, false, false] rfl rfl (by kernel_rfl) (by decide) (fun K hK => ?_)
      refine goes_ Try.func13 (by kernel_rfl) rfl #[.agg (cellsOf .u8 (cells8 a)), .agg (cellsOf .u8 (cells8 b))] (by rfl) rfl rfl (by simp only [List.map_toArray, List.map_cons, List.map_nil]; rfl) ?_
      with_reducible refine (C6.out.q _).mono ?_
      rintro e w53 ⟨rfl, hb53⟩
      refine ⟨_, rfl, ?_⟩
      have M1 := Aside0.mk (Mem.below M1.out hb53)
      have M2 := Aside0.mk (Mem.below M2.out hb53)
      have N1 := Aside0.mk (Mem.below N1.out hb53)
      have N2 := Aside0.mk (Mem.below N2.out hb53)
      have HB := Aside0.mk (below_step HB.out hb53)
      refine hK.out _ _ ⟨(mem_loads M1.out), (mem_loads M2.out), (mem_loads N1.out), (mem_loads N2.out)⟩ (fun hHeld => ?_)
      clear hK K
      refine norm_ (a' := ?_) ?_ ?_
      rotate_left
      · show Act.put _ (some 52) _ = _
        simp only [Act.put, List.setIfInBounds_toArray, List.set_cons_zero, List.set_cons_succ, i64_w, i32_w]
        rfl
      refine one_ (i := 13) (N := some 55) #[true, true, true, true, true, true, true, true, true, true, true, true, true, true, false, false, false, false, false, false, false, false, false, false, false, false, false, false, false, false, false, false, false, false, false, false, false, false, false, false, false, false, false, false, false, false, false, false, false, false, false] rfl rfl (by kernel_rfl) (by decide) (fun K hK => ?_)
      refine goes_ Try.func22 (by kernel_rfl) rfl #[.agg (cellsOf .u8 (cells8 a)), .agg (cellsOf .u8 (cells8 b))] (by rfl) rfl rfl (by simp only [List.map_toArray, List.map_cons, List.map_nil]; rfl) ?_
      with_reducible refine (C7.out.q _).mono ?_
      rintro e w54 ⟨rfl, hb54⟩
      refine ⟨_, rfl, ?_⟩
      have M1 := Aside0.mk (Mem.below M1.out hb54)
      have M2 := Aside0.mk (Mem.below M2.out hb54)
      have N1 := Aside0.mk (Mem.below N1.out hb54)
      have N2 := Aside0.mk (Mem.below N2.out hb54)
      have HB := Aside0.mk (below_step HB.out hb54)
      refine hK.out _ _ ⟨(mem_loads M1.out), (mem_loads M2.out), (mem_loads N1.out), (mem_loads N2.out)⟩ (fun hHeld => ?_)
      clear hK K
      refine norm_ (a' := ?_) ?_ ?_
      rotate_left
      · show Act.put _ (some 55) _ = _
        simp only [Act.put, List.setIfInBounds_toArray, List.set_cons_zero, List.set_cons_succ, i64_w, i32_w]
        rfl
      refine pure_ (i := 14) (N := some 56) (v := ?_) (a' := ?_) #[true, true, true, true, true, true, true, true, true, true, true, true, true, true, true, false, false, false, false, false, false, false, false, false, false, false, false, false, false, false, false, false, false, false, false, false, false, false, false, false, false, false, false, false, false, false, false, false, false, false, false] rfl rfl (by kernel_rfl) (fun _ _ _ h => h) (Or.inl ⟨by rfl, ?_⟩) ?_ ?_
      rotate_left
      · intro w'
        refine (eql_yields rfl rfl rfl guardM (E1 w')).trans ?_
        with_reducible rfl
      rotate_left
      · simp only [Act.put, List.setIfInBounds_toArray, List.set_cons_zero, List.set_cons_succ, i64_w, i32_w]
        rfl
      refine pure_ (i := 15) (N := some 57) (v := ?_) (a' := ?_) #[true, true, true, true, true, true, true, true, true, true, true, true, true, true, true, true, false, false, false, false, false, false, false, false, false, false, false, false, false, false, false, false, false, false, false, false, false, false, false, false, false, false, false, false, false, false, false, false, false, false, false] rfl rfl (by kernel_rfl) (fun _ _ _ h => h) (Or.inl ⟨by rfl, ?_⟩) ?_ ?_
      rotate_left
      · intro w'
        go_simp
        with_reducible rfl
      rotate_left
      · simp only [Act.put, List.setIfInBounds_toArray, List.set_cons_zero, List.set_cons_succ, i64_w, i32_w]
        rfl
      refine pure_ (i := 16) (N := some 58) (v := ?_) (a' := ?_) #[true, true, true, true, true, true, true, true, true, true, true, true, true, true, true, true, true, false, false, false, false, false, false, false, false, false, false, false, false, false, false, false, false, false, false, false, false, false, false, false, false, false, false, false, false, false, false, false, false, false, false] rfl rfl (by kernel_rfl) (fun _ _ _ h => h) (Or.inl ⟨by rfl, ?_⟩) ?_ ?_
      rotate_left
      · intro w'
        go_simp
        with_reducible rfl
      rotate_left
      · simp only [Act.put, List.setIfInBounds_toArray, List.set_cons_zero, List.set_cons_succ, i64_w, i32_w]
        rfl
      refine take_ (i := 17) (N := some 59) (v := ?_) (a' := ?_) #[true, true, true, true, true, true, true, true, true, true, true, true, true, true, true, true, true, true, false, false, false, false, false, false, false, false, false, false, false, false, false, false, false, false, false, false, false, false, false, false, false, false, false, false, false, false, false, false, false, false, false] rfl rfl (by kernel_rfl) (fun _ _ _ h => h) (Or.inl ⟨by rfl, ?_⟩) hHeld ?_ ?_
      rotate_left
      · rintro w' ⟨s0, s1, s2, s3⟩
        refine (load_yields rfl rfl s0).trans ?_
        with_reducible rfl
      rotate_left
      · simp only [Act.put, List.setIfInBounds_toArray, List.set_cons_zero, List.set_cons_succ, i64_w, i32_w]
        rfl
      refine take_ (i := 19) (N := some 61) (v := ?_) (a' := ?_) #[true, true, true, true, true, true, true, true, true, true, true, true, true, true, true, true, true, true, false, true, false, false, false, false, false, false, false, false, false, false, false, false, false, false, false, false, false, false, false, false, false, false, false, false, false, false, false, false, false, false, false] rfl rfl (by kernel_rfl) (fun _ _ _ h => h) (Or.inl ⟨by rfl, ?_⟩) hHeld ?_ ?_
      rotate_left
      · rintro w' ⟨s0, s1, s2, s3⟩
        refine (load_yields rfl rfl s0).trans ?_
        with_reducible rfl
      rotate_left
      · simp only [Act.put, List.setIfInBounds_toArray, List.set_cons_zero, List.set_cons_succ, i64_w, i32_w]
        rfl
      refine one_ (i := 18) (N := some 60) #[true, true, true, true, true, true, true, true, true, true, true, true, true, true, true, true, true, true, true, true, false, false, false, false, false, false, false, false, false, false, false, false, false, false, false, false, false, false, false, false, false, false, false, false, false, false, false, false, false, false, false] rfl rfl (by kernel_rfl) (by decide) (fun K hK => ?_)
      refine goes_ Try.func23 (by kernel_rfl) rfl #[.agg (cellsOf .u8 (cells8 a))] (by rfl) rfl rfl (by simp only [List.map_toArray, List.map_cons, List.map_nil]; rfl) ?_
      with_reducible refine (C8.out.q _).mono ?_
      rintro e w55 ⟨rfl, hb55⟩
      refine ⟨_, rfl, ?_⟩
      have M1 := Aside0.mk (Mem.below M1.out hb55)
      have M2 := Aside0.mk (Mem.below M2.out hb55)
      have N1 := Aside0.mk (Mem.below N1.out hb55)
      have N2 := Aside0.mk (Mem.below N2.out hb55)
      have HB := Aside0.mk (below_step HB.out hb55)
      refine hK.out _ _ ⟨(mem_loads M1.out), (mem_loads M2.out), (mem_loads N1.out), (mem_loads N2.out)⟩ (fun hHeld => ?_)
      clear hK K
      refine norm_ (a' := ?_) ?_ ?_
      rotate_left
      · show Act.put _ (some 60) _ = _
        simp only [Act.put, List.setIfInBounds_toArray, List.set_cons_zero, List.set_cons_succ, i64_w, i32_w]
        rfl
      refine one_ (i := 20) (N := some 62) #[true, true, true, true, true, true, true, true, true, true, true, true, true, true, true, true, true, true, true, true, true, false, false, false, false, false, false, false, false, false, false, false, false, false, false, false, false, false, false, false, false, false, false, false, false, false, false, false, false, false, false] rfl rfl (by kernel_rfl) (by decide) (fun K hK => ?_)
      refine goes_ Try.func24 (by kernel_rfl) rfl #[.agg (cellsOf .u8 (cells8 a))] (by rfl) rfl rfl (by simp only [List.map_toArray, List.map_cons, List.map_nil]; rfl) ?_
      with_reducible refine (C9.out.q _).mono ?_
      rintro e w56 ⟨rfl, hb56⟩
      refine ⟨_, rfl, ?_⟩
      have M1 := Aside0.mk (Mem.below M1.out hb56)
      have M2 := Aside0.mk (Mem.below M2.out hb56)
      have N1 := Aside0.mk (Mem.below N1.out hb56)
      have N2 := Aside0.mk (Mem.below N2.out hb56)
      have HB := Aside0.mk (below_step HB.out hb56)
      refine hK.out _ _ ⟨(mem_loads M1.out), (mem_loads M2.out), (mem_loads N1.out), (mem_loads N2.out)⟩ (fun hHeld => ?_)
      clear hK K
      refine norm_ (a' := ?_) ?_ ?_
      rotate_left
      · show Act.put _ (some 62) _ = _
        simp only [Act.put, List.setIfInBounds_toArray, List.set_cons_zero, List.set_cons_succ, i64_w, i32_w]
        rfl
      refine pure_ (i := 21) (N := some 63) (v := ?_) (a' := ?_) #[true, true, true, true, true, true, true, true, true, true, true, true, true, true, true, true, true, true, true, true, true, true, false, false, false, false, false, false, false, false, false, false, false, false, false, false, false, false, false, false, false, false, false, false, false, false, false, false, false, false, false] rfl rfl (by kernel_rfl) (fun _ _ _ h => h) (Or.inl ⟨by rfl, ?_⟩) ?_ ?_
      rotate_left
      · intro w'
        refine (eql_yields rfl rfl rfl guardM (E2 w')).trans ?_
        with_reducible rfl
      rotate_left
      · simp only [Act.put, List.setIfInBounds_toArray, List.set_cons_zero, List.set_cons_succ, i64_w, i32_w]
        rfl
      refine pure_ (i := 22) (N := some 64) (v := ?_) (a' := ?_) #[true, true, true, true, true, true, true, true, true, true, true, true, true, true, true, true, true, true, true, true, true, true, true, false, false, false, false, false, false, false, false, false, false, false, false, false, false, false, false, false, false, false, false, false, false, false, false, false, false, false, false] rfl rfl (by kernel_rfl) (fun _ _ _ h => h) (Or.inl ⟨by rfl, ?_⟩) ?_ ?_
      rotate_left
      · intro w'
        go_simp
        with_reducible rfl
      rotate_left
      · simp only [Act.put, List.setIfInBounds_toArray, List.set_cons_zero, List.set_cons_succ, i64_w, i32_w]
        rfl
      refine pure_ (i := 23) (N := some 65) (v := ?_) (a' := ?_) #[true, true, true, true, true, true, true, true, true, true, true, true, true, true, true, true, true, true, true, true, true, true, true, true, false, false, false, false, false, false, false, false, false, false, false, false, false, false, false, false, false, false, false, false, false, false, false, false, false, false, false] rfl rfl (by kernel_rfl) (fun _ _ _ h => h) (Or.inl ⟨by rfl, ?_⟩) ?_ ?_
      rotate_left
      · intro w'
        go_simp
        with_reducible rfl
      rotate_left
      · simp only [Act.put, List.setIfInBounds_toArray, List.set_cons_zero, List.set_cons_succ, i64_w, i32_w]
        rfl
      refine pure_ (i := 25) (N := some 67) (v := ?_) (a' := ?_) #[true, true, true, true, true, true, true, true, true, true, true, true, true, true, true, true, true, true, true, true, true, true, true, true, false, true, false, false, false, false, false, false, false, false, false, false, false, false, false, false, false, false, false, false, false, false, false, false, false, false, false] rfl rfl (by kernel_rfl) (fun _ _ _ h => h) (Or.inl ⟨by rfl, ?_⟩) ?_ ?_
      rotate_left
      · intro w'
        go_simp
        with_reducible rfl
      rotate_left
      · simp only [Act.put, List.setIfInBounds_toArray, List.set_cons_zero, List.set_cons_succ, i64_w, i32_w]
        rfl
      refine pure_ (i := 27) (N := some 69) (v := ?_) (a' := ?_) #[true, true, true, true, true, true, true, true, true, true, true, true, true, true, true, true, true, true, true, true, true, true, true, true, false, true, false, true, false, false, false, false, false, false, false, false, false, false, false, false, false, false, false, false, false, false, false, false, false, false, false] rfl rfl (by kernel_rfl) (fun _ _ _ h => h) (Or.inl ⟨by rfl, ?_⟩) ?_ ?_
      rotate_left
      · intro w'
        go_simp
        with_reducible rfl
      rotate_left
      · simp only [Act.put, List.setIfInBounds_toArray, List.set_cons_zero, List.set_cons_succ, i64_w, i32_w]
        rfl
      refine one_ (i := 24) (N := some 66) #[true, true, true, true, true, true, true, true, true, true, true, true, true, true, true, true, true, true, true, true, true, true, true, true, true, true, false, true, false, false, false, false, false, false, false, false, false, false, false, false, false, false, false, false, false, false, false, false, false, false, false] rfl rfl (by kernel_rfl) (by decide) (fun K hK => ?_)
      refine goes_ Try.func17 (by kernel_rfl) rfl #[] (by rfl) rfl rfl (by simp only [List.map_toArray, List.map_cons, List.map_nil]) ?_
      with_reducible refine (C10.out.q _).mono ?_
      rintro e w57 ⟨rfl, hb57⟩
      refine ⟨_, rfl, ?_⟩
      have M1 := Aside0.mk (Mem.below M1.out hb57)
      have M2 := Aside0.mk (Mem.below M2.out hb57)
      have N1 := Aside0.mk (Mem.below N1.out hb57)
      have N2 := Aside0.mk (Mem.below N2.out hb57)
      have HB := Aside0.mk (below_step HB.out hb57)
      refine hK.out _ _ ⟨(mem_loads M1.out), (mem_loads M2.out), (mem_loads N1.out), (mem_loads N2.out)⟩ (fun hHeld => ?_)
      clear hK K
      refine norm_ (a' := ?_) ?_ ?_
      rotate_left
      · show Act.put _ (some 66) _ = _
        simp only [Act.put, List.setIfInBounds_toArray, List.set_cons_zero, List.set_cons_succ, i64_w, i32_w]
        rfl
      refine one_ (i := 26) (N := some 68) #[true, true, true, true, true, true, true, true, true, true, true, true, true, true, true, true, true, true, true, true, true, true, true, true, true, true, true, true, false, false, false, false, false, false, false, false, false, false, false, false, false, false, false, false, false, false, false, false, false, false, false] rfl rfl (by kernel_rfl) (by decide) (fun K hK => ?_)
      refine goes_ Try.func12 (by kernel_rfl) rfl #[.agg (cellsOf .u8 (cells8 oneF)), .int .u8 (I8 x)] (by rfl) rfl rfl (by simp only [List.map_toArray, List.map_cons, List.map_nil]; rfl) ?_
      with_reducible refine (C11.out.q _).mono ?_
      rintro e w58 ⟨rfl, hb58⟩
      refine ⟨_, rfl, ?_⟩
      have M1 := Aside0.mk (Mem.below M1.out hb58)
      have M2 := Aside0.mk (Mem.below M2.out hb58)
      have N1 := Aside0.mk (Mem.below N1.out hb58)
      have N2 := Aside0.mk (Mem.below N2.out hb58)
      have HB := Aside0.mk (below_step HB.out hb58)
      refine hK.out _ _ ⟨(mem_loads M1.out), (mem_loads M2.out), (mem_loads N1.out), (mem_loads N2.out)⟩ (fun hHeld => ?_)
      clear hK K
      refine norm_ (a' := ?_) ?_ ?_
      rotate_left
      · show Act.put _ (some 68) _ = _
        simp only [Act.put, List.setIfInBounds_toArray, List.set_cons_zero, List.set_cons_succ, i64_w, i32_w]
        rfl
      refine pure_ (i := 28) (N := some 70) (v := ?_) (a' := ?_) #[true, true, true, true, true, true, true, true, true, true, true, true, true, true, true, true, true, true, true, true, true, true, true, true, true, true, true, true, true, false, false, false, false, false, false, false, false, false, false, false, false, false, false, false, false, false, false, false, false, false, false] rfl rfl (by kernel_rfl) (fun _ _ _ h => h) (Or.inl ⟨by rfl, ?_⟩) ?_ ?_
      rotate_left
      · intro w'
        go_simp
        with_reducible rfl
      rotate_left
      · simp only [Act.put, List.setIfInBounds_toArray, List.set_cons_zero, List.set_cons_succ, i64_w, i32_w]
        rfl
      refine pure_ (i := 29) (N := some 71) (v := ?_) (a' := ?_) #[true, true, true, true, true, true, true, true, true, true, true, true, true, true, true, true, true, true, true, true, true, true, true, true, true, true, true, true, true, true, false, false, false, false, false, false, false, false, false, false, false, false, false, false, false, false, false, false, false, false, false] rfl rfl (by kernel_rfl) (fun _ _ _ h => h) (Or.inl ⟨by rfl, ?_⟩) ?_ ?_
      rotate_left
      · intro w'
        go_simp
        with_reducible rfl
      rotate_left
      · simp only [Act.put, List.setIfInBounds_toArray, List.set_cons_zero, List.set_cons_succ, i64_w, i32_w]
        rfl
      refine pure_ (i := 30) (N := some 72) (v := ?_) (a' := ?_) #[true, true, true, true, true, true, true, true, true, true, true, true, true, true, true, true, true, true, true, true, true, true, true, true, true, true, true, true, true, true, true, false, false, false, false, false, false, false, false, false, false, false, false, false, false, false, false, false, false, false, false] rfl rfl (by kernel_rfl) (fun _ _ _ h => h) (Or.inl ⟨by rfl, ?_⟩) ?_ ?_
      rotate_left
      · intro w'
        go_simp
        with_reducible rfl
      rotate_left
      · simp only [Act.put, List.setIfInBounds_toArray, List.set_cons_zero, List.set_cons_succ, i64_w, i32_w]
        rfl
      refine take_ (i := 31) (N := some 73) (v := ?_) (a' := ?_) #[true, true, true, true, true, true, true, true, true, true, true, true, true, true, true, true, true, true, true, true, true, true, true, true, true, true, true, true, true, true, true, true, false, false, false, false, false, false, false, false, false, false, false, false, false, false, false, false, false, false, false] rfl rfl (by kernel_rfl) (fun _ _ _ h => h) (Or.inl ⟨by rfl, ?_⟩) hHeld ?_ ?_
      rotate_left
      · rintro w' ⟨s0, s1, s2, s3⟩
        refine (load_yields rfl rfl s0).trans ?_
        with_reducible rfl
      rotate_left
      · simp only [Act.put, List.setIfInBounds_toArray, List.set_cons_zero, List.set_cons_succ, i64_w, i32_w]
        rfl
      refine take_ (i := 33) (N := some 75) (v := ?_) (a' := ?_) #[true, true, true, true, true, true, true, true, true, true, true, true, true, true, true, true, true, true, true, true, true, true, true, true, true, true, true, true, true, true, true, true, false, true, false, false, false, false, false, false, false, false, false, false, false, false, false, false, false, false, false] rfl rfl (by kernel_rfl) (fun _ _ _ h => h) (Or.inl ⟨by rfl, ?_⟩) hHeld ?_ ?_
      rotate_left
      · rintro w' ⟨s0, s1, s2, s3⟩
        refine (load_yields rfl rfl s0).trans ?_
        with_reducible rfl
      rotate_left
      · simp only [Act.put, List.setIfInBounds_toArray, List.set_cons_zero, List.set_cons_succ, i64_w, i32_w]
        rfl
      refine one_ (i := 32) (N := some 74) #[true, true, true, true, true, true, true, true, true, true, true, true, true, true, true, true, true, true, true, true, true, true, true, true, true, true, true, true, true, true, true, true, true, true, false, false, false, false, false, false, false, false, false, false, false, false, false, false, false, false, false] rfl rfl (by kernel_rfl) (by decide) (fun K hK => ?_)
      refine goes_ Try.func16 (by kernel_rfl) rfl #[.agg (cellsOf .u8 (cells8 a))] (by rfl) rfl rfl (by simp only [List.map_toArray, List.map_cons, List.map_nil]; rfl) ?_
      with_reducible refine (C12.out.q _).mono ?_
      rintro e w59 ⟨rfl, hb59⟩
      refine ⟨_, rfl, ?_⟩
      have M1 := Aside0.mk (Mem.below M1.out hb59)
      have M2 := Aside0.mk (Mem.below M2.out hb59)
      have N1 := Aside0.mk (Mem.below N1.out hb59)
      have N2 := Aside0.mk (Mem.below N2.out hb59)
      have HB := Aside0.mk (below_step HB.out hb59)
      refine hK.out _ _ ⟨(mem_loads M1.out), (mem_loads M2.out), (mem_loads N1.out), (mem_loads N2.out)⟩ (fun hHeld => ?_)
      clear hK K
      refine norm_ (a' := ?_) ?_ ?_
      rotate_left
      · show Act.put _ (some 74) _ = _
        simp only [Act.put, List.setIfInBounds_toArray, List.set_cons_zero, List.set_cons_succ, i64_w, i32_w]
        rfl
      refine one_ (i := 34) (N := some 76) #[true, true, true, true, true, true, true, true, true, true, true, true, true, true, true, true, true, true, true, true, true, true, true, true, true, true, true, true, true, true, true, true, true, true, true, false, false, false, false, false, false, false, false, false, false, false, false, false, false, false, false] rfl rfl (by kernel_rfl) (by decide) (fun K hK => ?_)
      refine goes_ Try.func25 (by kernel_rfl) rfl #[.agg (cellsOf .u8 (cells8 a))] (by rfl) rfl rfl (by simp only [List.map_toArray, List.map_cons, List.map_nil]; rfl) ?_
      with_reducible refine (C13.out.q _).mono ?_
      rintro e w60 ⟨rfl, hb60⟩
      refine ⟨_, rfl, ?_⟩
      have M1 := Aside0.mk (Mem.below M1.out hb60)
      have M2 := Aside0.mk (Mem.below M2.out hb60)
      have N1 := Aside0.mk (Mem.below N1.out hb60)
      have N2 := Aside0.mk (Mem.below N2.out hb60)
      have HB := Aside0.mk (below_step HB.out hb60)
      refine hK.out _ _ ⟨(mem_loads M1.out), (mem_loads M2.out), (mem_loads N1.out), (mem_loads N2.out)⟩ (fun hHeld => ?_)
      clear hK K
      refine norm_ (a' := ?_) ?_ ?_
      rotate_left
      · show Act.put _ (some 76) _ = _
        simp only [Act.put, List.setIfInBounds_toArray, List.set_cons_zero, List.set_cons_succ, i64_w, i32_w]
        rfl
      refine pure_ (i := 35) (N := some 77) (v := ?_) (a' := ?_) #[true, true, true, true, true, true, true, true, true, true, true, true, true, true, true, true, true, true, true, true, true, true, true, true, true, true, true, true, true, true, true, true, true, true, true, true, false, false, false, false, false, false, false, false, false, false, false, false, false, false, false] rfl rfl (by kernel_rfl) (fun _ _ _ h => h) (Or.inl ⟨by rfl, ?_⟩) ?_ ?_
      rotate_left
      · intro w'
        go_simp
        with_reducible rfl
      rotate_left
      · simp only [Act.put, List.setIfInBounds_toArray, List.set_cons_zero, List.set_cons_succ, i64_w, i32_w]
        rfl
      refine pure_ (i := 36) (N := some 78) (v := ?_) (a' := ?_) #[true, true, true, true, true, true, true, true, true, true, true, true, true, true, true, true, true, true, true, true, true, true, true, true, true, true, true, true, true, true, true, true, true, true, true, true, true, false, false, false, false, false, false, false, false, false, false, false, false, false, false] rfl rfl (by kernel_rfl) (fun _ _ _ h => h) (Or.inl ⟨by rfl, ?_⟩) ?_ ?_
      rotate_left
      · intro w'
        go_simp
        with_reducible rfl
      rotate_left
      · simp only [Act.put, List.setIfInBounds_toArray, List.set_cons_zero, List.set_cons_succ, i64_w, i32_w]
        rfl
      refine pure_ (i := 37) (N := some 79) (v := ?_) (a' := ?_) #[true, true, true, true, true, true, true, true, true, true, true, true, true, true, true, true, true, true, true, true, true, true, true, true, true, true, true, true, true, true, true, true, true, true, true, true, true, true, false, false, false, false, false, false, false, false, false, false, false, false, false] rfl rfl (by kernel_rfl) (fun _ _ _ h => h) (Or.inl ⟨by rfl, ?_⟩) ?_ ?_
      rotate_left
      · intro w'
        go_simp
        with_reducible rfl
      rotate_left
      · simp only [Act.put, List.setIfInBounds_toArray, List.set_cons_zero, List.set_cons_succ, i64_w, i32_w]
        rfl
      refine take_ (i := 38) (N := some 80) (v := ?_) (a' := ?_) #[true, true, true, true, true, true, true, true, true, true, true, true, true, true, true, true, true, true, true, true, true, true, true, true, true, true, true, true, true, true, true, true, true, true, true, true, true, true, true, false, false, false, false, false, false, false, false, false, false, false, false] rfl rfl (by kernel_rfl) (fun _ _ _ h => h) (Or.inl ⟨by rfl, ?_⟩) hHeld ?_ ?_
      rotate_left
      · rintro w' ⟨s0, s1, s2, s3⟩
        refine (load_yields rfl rfl s2).trans ?_
        with_reducible rfl
      rotate_left
      · simp only [Act.put, List.setIfInBounds_toArray, List.set_cons_zero, List.set_cons_succ, i64_w, i32_w]
        rfl
      refine take_ (i := 39) (N := some 81) (v := ?_) (a' := ?_) #[true, true, true, true, true, true, true, true, true, true, true, true, true, true, true, true, true, true, true, true, true, true, true, true, true, true, true, true, true, true, true, true, true, true, true, true, true, true, true, true, false, false, false, false, false, false, false, false, false, false, false] rfl rfl (by kernel_rfl) (fun _ _ _ h => h) (Or.inl ⟨by rfl, ?_⟩) hHeld ?_ ?_
      rotate_left
      · rintro w' ⟨s0, s1, s2, s3⟩
        refine (load_yields rfl rfl s3).trans ?_
        with_reducible rfl
      rotate_left
      · simp only [Act.put, List.setIfInBounds_toArray, List.set_cons_zero, List.set_cons_succ, i64_w, i32_w]
        rfl
      refine pure_ (i := 40) (N := some 82) (v := ?_) (a' := ?_) #[true, true, true, true, true, true, true, true, true, true, true, true, true, true, true, true, true, true, true, true, true, true, true, true, true, true, true, true, true, true, true, true, true, true, true, true, true, true, true, true, true, false, false, false, false, false, false, false, false, false, false] rfl rfl (by kernel_rfl) (fun _ _ _ h => h) (Or.inl ⟨by rfl, ?_⟩) ?_ ?_
      rotate_left
      · intro w'
        refine (eql_yields rfl rfl rfl guardM (E3 w')).trans ?_
        with_reducible rfl
      rotate_left
      · simp only [Act.put, List.setIfInBounds_toArray, List.set_cons_zero, List.set_cons_succ, i64_w, i32_w]
        rfl
      refine pure_ (i := 41) (N := some 83) (v := ?_) (a' := ?_) #[true, true, true, true, true, true, true, true, true, true, true, true, true, true, true, true, true, true, true, true, true, true, true, true, true, true, true, true, true, true, true, true, true, true, true, true, true, true, true, true, true, true, false, false, false, false, false, false, false, false, false] rfl rfl (by kernel_rfl) (fun _ _ _ h => h) (Or.inl ⟨by rfl, ?_⟩) ?_ ?_
      rotate_left
      · intro w'
        go_simp
        with_reducible rfl
      rotate_left
      · simp only [Act.put, List.setIfInBounds_toArray, List.set_cons_zero, List.set_cons_succ, i64_w, i32_w]
        rfl
      refine pure_ (i := 42) (N := some 84) (v := ?_) (a' := ?_) #[true, true, true, true, true, true, true, true, true, true, true, true, true, true, true, true, true, true, true, true, true, true, true, true, true, true, true, true, true, true, true, true, true, true, true, true, true, true, true, true, true, true, true, false, false, false, false, false, false, false, false] rfl rfl (by kernel_rfl) (fun _ _ _ h => h) (Or.inl ⟨by rfl, ?_⟩) ?_ ?_
      rotate_left
      · intro w'
        go_simp
        with_reducible rfl
      rotate_left
      · simp only [Act.put, List.setIfInBounds_toArray, List.set_cons_zero, List.set_cons_succ, i64_w, i32_w]
        rfl
      refine pure_ (i := 43) (N := some 85) (v := ?_) (a' := ?_) #[true, true, true, true, true, true, true, true, true, true, true, true, true, true, true, true, true, true, true, true, true, true, true, true, true, true, true, true, true, true, true, true, true, true, true, true, true, true, true, true, true, true, true, true, false, false, false, false, false, false, false] rfl rfl (by kernel_rfl) (fun _ _ _ h => h) (Or.inl ⟨by rfl, ?_⟩) ?_ ?_
      rotate_left
      · intro w'
        go_simp
        with_reducible rfl
      rotate_left
      · simp only [Act.put, List.setIfInBounds_toArray, List.set_cons_zero, List.set_cons_succ, i64_w, i32_w]
        rfl
      refine pure_ (i := 44) (N := some 86) (v := ?_) (a' := ?_) #[true, true, true, true, true, true, true, true, true, true, true, true, true, true, true, true, true, true, true, true, true, true, true, true, true, true, true, true, true, true, true, true, true, true, true, true, true, true, true, true, true, true, true, true, true, false, false, false, false, false, false] rfl rfl (by kernel_rfl) (fun _ _ _ h => h) (Or.inl ⟨by rfl, ?_⟩) ?_ ?_
      rotate_left
      · intro w'
        go_simp
        with_reducible rfl
      rotate_left
      · simp only [Act.put, List.setIfInBounds_toArray, List.set_cons_zero, List.set_cons_succ, i64_w, i32_w]
        rfl
      refine pure_ (i := 45) (N := some 87) (v := ?_) (a' := ?_) #[true, true, true, true, true, true, true, true, true, true, true, true, true, true, true, true, true, true, true, true, true, true, true, true, true, true, true, true, true, true, true, true, true, true, true, true, true, true, true, true, true, true, true, true, true, true, false, false, false, false, false] rfl rfl (by kernel_rfl) (fun _ _ _ h => h) (Or.inl ⟨by rfl, ?_⟩) ?_ ?_
      rotate_left
      · intro w'
        go_simp
        with_reducible rfl
      rotate_left
      · simp only [Act.put, List.setIfInBounds_toArray, List.set_cons_zero, List.set_cons_succ, i64_w, i32_w]
        rfl
      refine pure_ (i := 46) (N := some 88) (v := ?_) (a' := ?_) #[true, true, true, true, true, true, true, true, true, true, true, true, true, true, true, true, true, true, true, true, true, true, true, true, true, true, true, true, true, true, true, true, true, true, true, true, true, true, true, true, true, true, true, true, true, true, true, false, false, false, false] rfl rfl (by kernel_rfl) (fun _ _ _ h => h) (Or.inl ⟨by rfl, ?_⟩) ?_ ?_
      rotate_left
      · intro w'
        go_simp
        with_reducible rfl
      rotate_left
      · simp only [Act.put, List.setIfInBounds_toArray, List.set_cons_zero, List.set_cons_succ, i64_w, i32_w]
        rfl
      refine pure_ (i := 47) (N := some 89) (v := ?_) (a' := ?_) #[true, true, true, true, true, true, true, true, true, true, true, true, true, true, true, true, true, true, true, true, true, true, true, true, true, true, true, true, true, true, true, true, true, true, true, true, true, true, true, true, true, true, true, true, true, true, true, true, false, false, false] rfl rfl (by kernel_rfl) (fun _ _ _ h => h) (Or.inl ⟨by rfl, ?_⟩) ?_ ?_
      rotate_left
      · intro w'
        go_simp
        with_reducible rfl
      rotate_left
      · simp only [Act.put, List.setIfInBounds_toArray, List.set_cons_zero, List.set_cons_succ, i64_w, i32_w]
        rfl
      refine one_ (i := 48) (N := some 90) #[true, true, true, true, true, true, true, true, true, true, true, true, true, true, true, true, true, true, true, true, true, true, true, true, true, true, true, true, true, true, true, true, true, true, true, true, true, true, true, true, true, true, true, true, true, true, true, true, true, false, false] rfl rfl (by kernel_rfl) (by decide) (fun K hK => ?_)
      refine goes_ Try.func18 (by kernel_rfl) rfl #[] (by rfl) rfl rfl (by simp only [List.map_toArray, List.map_cons, List.map_nil]) ?_
      with_reducible refine (C14.out.q _).mono ?_
      rintro e w61 ⟨rfl, hb61⟩
      refine ⟨_, rfl, ?_⟩
      have M1 := Aside0.mk (Mem.below M1.out hb61)
      have M2 := Aside0.mk (Mem.below M2.out hb61)
      have N1 := Aside0.mk (Mem.below N1.out hb61)
      have N2 := Aside0.mk (Mem.below N2.out hb61)
      have HB := Aside0.mk (below_step HB.out hb61)
      refine hK.out _ _ ⟨(mem_loads M1.out), (mem_loads M2.out), (mem_loads N1.out), (mem_loads N2.out)⟩ (fun hHeld => ?_)
      clear hK K
      refine norm_ (a' := ?_) ?_ ?_
      rotate_left
      · show Act.put _ (some 90) _ = _
        simp only [Act.put, List.setIfInBounds_toArray, List.set_cons_zero, List.set_cons_succ, i64_w, i32_w]
        rfl
      refine pure_ (i := 49) (N := some 91) (v := ?_) (a' := ?_) #[true, true, true, true, true, true, true, true, true, true, true, true, true, true, true, true, true, true, true, true, true, true, true, true, true, true, true, true, true, true, true, true, true, true, true, true, true, true, true, true, true, true, true, true, true, true, true, true, true, true, false] rfl rfl (by kernel_rfl) (fun _ _ _ h => h) (Or.inl ⟨by rfl, ?_⟩) ?_ ?_
      rotate_left
      · intro w'
        go_simp
        with_reducible rfl
      rotate_left
      · simp only [Act.put, List.setIfInBounds_toArray, List.set_cons_zero, List.set_cons_succ, i64_w, i32_w]
        rfl
      refine pure_ (i := 50) (N := some 6) (v := ?_) (a' := ?_) #[true, true, true, true, true, true, true, true, true, true, true, true, true, true, true, true, true, true, true, true, true, true, true, true, true, true, true, true, true, true, true, true, true, true, true, true, true, true, true, true, true, true, true, true, true, true, true, true, true, true, true] rfl rfl (by kernel_rfl) (fun _ _ _ h => h) (Or.inl ⟨by rfl, ?_⟩) ?_ ?_
      rotate_left
      · intro w'
        go_simp
        with_reducible rfl
      rotate_left
      · simp only [Act.put, List.setIfInBounds_toArray, List.set_cons_zero, List.set_cons_succ, i64_w, i32_w]
        rfl
      refine done_ (by kernel_rfl) ?_
      clear hl0 hl1 hl2 hl3
      go_wp2
      go_ret
      exact ⟨rfl, HB.out⟩
    | succ k1 =>
      have hkl : k < 64 := by omega
      have HK := Aside0.mk hk
      clear hk
      have d1 := E4.out k hkl
      have d2 := E5.out k hkl
      have d3 := E6.out k hkl
      rw [d3, matV_eq] at d1
      rw [matV_eq] at d2
      obtain ⟨q, hq⟩ : ∃ q, q = k / 8 := ⟨_, rfl⟩
      obtain ⟨r, hr⟩ : ∃ r, r = k % 8 := ⟨_, rfl⟩
      have hq8 : q < 8 := by omega
      have f6 : IntKind.i64.wrap (q : Int) = (q : Int) := wrap_i64_nat q (by omega)
      have f1 : Int.tdiv (k : Int) 8 = (q : Int) := by rw [Int.tdiv_eq_ediv_of_nonneg (by omega)]; omega
      have f2 : Int.tmod (k : Int) 8 = (r : Int) := by rw [Int.tmod_eq_emod_of_nonneg (by omega)]; omega
      have f3 : (k : Int) / 8 = (q : Int) := by omega
      have f4 : (k : Int) % 8 = (r : Int) := by omega
      have f0 : (0 : Int) ≤ (k : Int) := by omega
      have f5 : (k : Int) < 64 := by omega
      rw [← hq, ← hr] at d1 d2
      have D1 := Aside0.mk d1
      have D2 := Aside0.mk d2
      clear d1 d2 d3 hq hr
      generalize (a r).getLsbD q = bb at *
      have hl0 := mem_loads (Mem.drew M1.out)
      have hl1 := mem_loads (Mem.drew N3.out)
      go_wp2
      refine start_ (n := 13) (S := fun w' => (loadVar 23 ⟨w.heap.size, 0, none⟩).run Try.prog w' = .ok (.agg (cellsOf .u8 (cells8 a))) w' ∧ (loadVar 23 ⟨w3.heap.size, 0, none⟩).run Try.prog w' = .ok (.agg (cellsOf .u8 (cells8 fl))) w') (ds := []) #[false, false, false, false, false, false, false, false, false, false, false, false, false] (by kernel_rfl) rfl rfl ⟨hl0, hl1⟩ (fun hHeld => ?_)
      refine pure_ (i := 1) (N := some 30) (v := ?_) (a' := ?_) #[false, true, false, false, false, false, false, false, false, false, false, false, false] rfl rfl (by kernel_rfl) (fun _ _ _ h => h) (Or.inl ⟨by rfl, ?_⟩) ?_ ?_
      rotate_left
      · intro w'
        go_simp
        with_reducible rfl
      rotate_left
      · simp only [Act.put, List.setIfInBounds_toArray, List.set_cons_zero, List.set_cons_succ, i64_w, i32_w]
        rfl
      refine pure_ (i := 2) (N := some 31) (v := ?_) (a' := ?_) #[false, true, true, false, false, false, false, false, false, false, false, false, false] rfl rfl (by kernel_rfl) (fun _ _ _ h => h) (Or.inl ⟨by rfl, ?_⟩) ?_ ?_
      rotate_left
      · intro w'
        go_simp
        with_reducible rfl
      rotate_left
      · simp only [Act.put, List.setIfInBounds_toArray, List.set_cons_zero, List.set_cons_succ, i64_w, i32_w]
        rfl
      refine pure_ (i := 3) (N := some 32) (v := ?_) (a' := ?_) #[false, true, true, true, false, false, false, false, false, false, false, false, false] rfl rfl (by kernel_rfl) (fun _ _ _ h => h) (Or.inl ⟨by rfl, ?_⟩) ?_ ?_
      rotate_left
      · intro w'
        go_simp
        with_reducible rfl
      rotate_left
      · simp only [Act.put, List.setIfInBounds_toArray, List.set_cons_zero, List.set_cons_succ, i64_w, i32_w]
        rfl
      refine pure_ (i := 4) (N := some 33) (v := ?_) (a' := ?_) #[false, true, true, true, true, false, false, false, false, false, false, false, false] rfl rfl (by kernel_rfl) (fun _ _ _ h => h) (Or.inl ⟨by rfl, ?_⟩) ?_ ?_
      rotate_left
      · intro w'
        go_simp
        with_reducible rfl
      rotate_left
      · simp only [Act.put, List.setIfInBounds_toArray, List.set_cons_zero, List.set_cons_succ, i64_w, i32_w]
        rfl
      refine pure_ (i := 7) (N := some 36) (v := ?_) (a' := ?_) #[false, true, true, true, true, false, false, true, false, false, false, false, false] rfl rfl (by kernel_rfl) (fun _ _ _ h => h) (Or.inl ⟨by rfl, ?_⟩) ?_ ?_
      rotate_left
      · intro w'
        go_simp
        with_reducible rfl
      rotate_left
      · simp only [Act.put, List.setIfInBounds_toArray, List.set_cons_zero, List.set_cons_succ, i64_w, i32_w]
        rfl
      refine pure_ (i := 8) (N := some 37) (v := ?_) (a' := ?_) #[false, true, true, true, true, false, false, true, true, false, false, false, false] rfl rfl (by kernel_rfl) (fun _ _ _ h => h) (Or.inl ⟨by rfl, ?_⟩) ?_ ?_
      rotate_left
      · intro w'
        go_simp
        with_reducible rfl
      rotate_left
      · simp only [Act.put, List.setIfInBounds_toArray, List.set_cons_zero, List.set_cons_succ, i64_w, i32_w]
        rfl
      refine pure_ (i := 9) (N := some 38) (v := ?_) (a' := ?_) #[false, true, true, true, true, false, false, true, true, true, false, false, false] rfl rfl (by kernel_rfl) (fun _ _ _ h => h) (Or.inl ⟨by rfl, ?_⟩) ?_ ?_
      rotate_left
      · intro w'
        go_simp
        with_reducible rfl
      rotate_left
      · simp only [Act.put, List.setIfInBounds_toArray, List.set_cons_zero, List.set_cons_succ, i64_w, i32_w]
        rfl
      refine pure_ (i := 10) (N := some 39) (v := ?_) (a' := ?_) #[false, true, true, true, true, false, false, true, true, true, true, false, false] rfl rfl (by kernel_rfl) (fun _ _ _ h => h) (Or.inl ⟨by rfl, ?_⟩) ?_ ?_
      rotate_left
      · intro w'
        go_simp
        with_reducible rfl
      rotate_left
      · simp only [Act.put, List.setIfInBounds_toArray, List.set_cons_zero, List.set_cons_succ, i64_w, i32_w]
        rfl
      refine take_ (i := 0) (N := some 29) (v := ?_) (a' := ?_) #[true, true, true, true, true, false, false, true, true, true, true, false, false] rfl rfl (by kernel_rfl) (fun _ _ _ h => h) (Or.inl ⟨by rfl, ?_⟩) hHeld ?_ ?_
      rotate_left
      · rintro w' ⟨s0, s1⟩
        refine (load_yields rfl rfl s1).trans ?_
        with_reducible rfl
      rotate_left
      · simp only [Act.put, List.setIfInBounds_toArray, List.set_cons_zero, List.set_cons_succ, i64_w, i32_w]
        rfl
      refine take_ (i := 6) (N := some 35) (v := ?_) (a' := ?_) #[true, true, true, true, true, false, true, true, true, true, true, false, false] rfl rfl (by kernel_rfl) (fun _ _ _ h => h) (Or.inl ⟨by rfl, ?_⟩) hHeld ?_ ?_
      rotate_left
      · rintro w' ⟨s0, s1⟩
        refine (load_yields rfl rfl s0).trans ?_
        with_reducible rfl
      rotate_left
      · simp only [Act.put, List.setIfInBounds_toArray, List.set_cons_zero, List.set_cons_succ, i64_w, i32_w]
        rfl
      refine one_ (i := 5) (N := some 34) #[true, true, true, true, true, true, true, true, true, true, true, false, false] rfl rfl (by kernel_rfl) (by decide) (fun K hK => ?_)
      refine goes_ Try.func20 (by kernel_rfl) rfl #[.agg (cellsOf .u8 (cells8 fl)), .int .i64 q, .int .i64 r] (by rfl) rfl rfl (by simp only [List.map_toArray, List.map_cons, List.map_nil]; rfl) ?_
      with_reducible refine (D1.out.q _).mono ?_
      rintro e w51 ⟨rfl, hb51⟩
      refine ⟨_, rfl, ?_⟩
      have M1 := Aside0.mk (Mem.drew M1.out)
      have N3 := Aside0.mk (Mem.drew N3.out)
      have M2 := Aside0.mk (Mem.drew M2.out)
      have N1 := Aside0.mk (Mem.drew N1.out)
      have N2 := Aside0.mk (Mem.drew N2.out)
      have HB := Aside0.mk (below_drew HB.out)
      have M1 := Aside0.mk (Mem.below M1.out hb51)
      have N3 := Aside0.mk (Mem.below N3.out hb51)
      have M2 := Aside0.mk (Mem.below M2.out hb51)
      have N1 := Aside0.mk (Mem.below N1.out hb51)
      have N2 := Aside0.mk (Mem.below N2.out hb51)
      have HB := Aside0.mk (below_step HB.out hb51)
      refine hK.out _ _ ⟨(mem_loads M1.out), (mem_loads N3.out)⟩ (fun hHeld => ?_)
      clear hK K
      refine norm_ (a' := ?_) ?_ ?_
      rotate_left
      · show Act.put _ (some 34) _ = _
        simp only [Act.put, List.setIfInBounds_toArray, List.set_cons_zero, List.set_cons_succ, i64_w, i32_w]
        rfl
      refine one_ (i := 11) (N := some 40) #[true, true, true, true, true, true, true, true, true, true, true, true, false] rfl rfl (by kernel_rfl) (by decide) (fun K hK => ?_)
      refine goes_ Try.func20 (by kernel_rfl) rfl #[.agg (cellsOf .u8 (cells8 a)), .int .i64 r, .int .i64 q] (by rfl) rfl rfl (by simp only [List.map_toArray, List.map_cons, List.map_nil]; rfl) ?_
      with_reducible refine (D2.out.q _).mono ?_
      rintro e w52 ⟨rfl, hb52⟩
      refine ⟨_, rfl, ?_⟩
      have M1 := Aside0.mk (Mem.below M1.out hb52)
      have N3 := Aside0.mk (Mem.below N3.out hb52)
      have M2 := Aside0.mk (Mem.below M2.out hb52)
      have N1 := Aside0.mk (Mem.below N1.out hb52)
      have N2 := Aside0.mk (Mem.below N2.out hb52)
      have HB := Aside0.mk (below_step HB.out hb52)
      refine hK.out _ _ ⟨(mem_loads M1.out), (mem_loads N3.out)⟩ (fun hHeld => ?_)
      clear hK K
      refine norm_ (a' := ?_) ?_ ?_
      rotate_left
      · show Act.put _ (some 40) _ = _
        simp only [Act.put, List.setIfInBounds_toArray, List.set_cons_zero, List.set_cons_succ, i64_w, i32_w]
        rfl
      refine pure_ (i := 12) (N := some 41) (v := ?_) (a' := ?_) #[true, true, true, true, true, true, true, true, true, true, true, true, true] rfl rfl (by kernel_rfl) (fun _ _ _ h => h) (Or.inl ⟨by rfl, ?_⟩) ?_ ?_
      rotate_left
      · intro w'
        go_simp
        with_reducible rfl
      rotate_left
      · simp only [Act.put, List.setIfInBounds_toArray, List.set_cons_zero, List.set_cons_succ, i64_w, i32_w]
        rfl
      refine done_ (by kernel_rfl) ?_
      clear hl0 hl1
      go_wp2
      go_roundg k1
      case measure => omega
      case rel => exact ⟨k + 1, by have := HK.out; omega, by go_num, M1, M2, N1, N2, N3, HB⟩
theorem rows_of (l : List Int) (n : l.length = 8) (h : ∀ x ∈ l, (Lit.int .u8 x).wf = true) : ∃ f, l = cells8 f := by
  refine ⟨fun i => BitVec.ofNat 8 (l.getD i 0).toNat, byI_ext 8 _ _ n fun i hi => ?_⟩
  have hm : l.getD i 0 ∈ l := by
    rw [List.getD_eq_getElem?_getD, List.getElem?_eq_getElem (by omega)]
    exact List.getElem_mem _
  have hw := wf_u8 (h _ hm)
  unfold I8
  rw [BitVec.toNat_ofNat]
  omega
theorem tells_walk (a b : List Int) (x : Int) (w : World) (na : a.length = 8) (wa : ∀ x ∈ a, (Lit.int .u8 x).wf = true) (nb : b.length = 8) (wb : ∀ x ∈ b, (Lit.int .u8 x).wf = true) (wx : (Lit.int .u8 x).wf = true) :
    Calls Try.prog 4 #[arrV .u8 a, arrV .u8 b, .int .u8 x] w fun e w' => e = .returned (.bool true) ∧ Below w.heap.size w w' := by
  obtain ⟨f, rfl⟩ := rows_of a na wa
  obtain ⟨g, rfl⟩ := rows_of b nb wb
  obtain ⟨y, rfl⟩ := byte_of wx
  exact tells_ f g y w
end Go.Proofs.Ytdbcgjclnfhdfaa.Mat
