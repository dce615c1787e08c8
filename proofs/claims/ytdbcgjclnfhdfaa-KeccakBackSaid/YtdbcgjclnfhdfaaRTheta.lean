/-
  Theta and Chi of Keccak in the document's words, walked: for any state.
-/
import Derived.Test.YtdbcgjclnfhdfaaBackP
import Derived.Test.YtdbcgjclnfhdfaaArrEq
namespace Go.Proofs.Ytdbcgjclnfhdfaa.Keccak
open Go.RowKit Go.Proofs.YtdbcgjclnfhdfaaW.PrintWords Go.Proofs.YtdbcgjclnfhdfaaW.PrintLast Go.Proofs.YtdbcgjclnfhdfaaW.PrintMore Byte Sl Arr Mem Gives RotC KecT ArrEq OctMath
set_option linter.unusedVariables false
set_option linter.unusedSimpArgs false
theorem built5 : Try.prog.built 73 [] = some (cellsOf .u64 (List.replicate 5 0)) := by kernel_rfl
theorem built25 : Try.prog.built 42 [] = some (cellsOf .u64 zst) := by kernel_rfl
theorem info_5 : (Try.prog.info? 73).map (·.size) = some 5 := by kernel_rfl
theorem xor_assoc' (x y z : Int) (hx : IsWord x) (hy : IsWord y) (hz : IsWord z) : Go.bits .xor .u64 (Go.bits .xor .u64 x y) z = Go.bits .xor .u64 x (Go.bits .xor .u64 y z) := by
  obtain ⟨a, rfl⟩ := I64_of x hx.1 hx.2
  obtain ⟨b, rfl⟩ := I64_of y hy.1 hy.2
  obtain ⟨c, rfl⟩ := I64_of z hz.1 hz.2
  rw [xor64, xor64, xor64, xor64, BitVec.xor_assoc]
set_option maxHeartbeats 4000000 in
set_option maxRecDepth 100000 in
theorem rtheta_c (l : List Int) (hl : l.length = 25) (hw : Words l) : GivesB 33 #[arrV .u64 l] (arrV .u64 (thetaL l)) := by
  intro w
  rw [arrV_eq]
  rw [arrV_eq]
  have HL := Aside0.mk hl
  have M1 := Aside0.mk (Mem.alloc (Mem.alloc (Mem.new .u64 w 42 l) (.cells (cellsOf .u64 zst) 42)) (.cells (cellsOf .u64 (List.replicate 5 0)) 73))
  have M2 := Aside0.mk (Mem.alloc (Mem.new2 .u64 w (.cells (cellsOf .u64 l) 42) 42 zst) (.cells (cellsOf .u64 (List.replicate 5 0)) 73))
  have M3 := Aside0.mk (Mem.new3 .u64 w (.cells (cellsOf .u64 l) 42) (.cells (cellsOf .u64 zst) 42) 73 (List.replicate 5 0))
  have HB := Aside0.mk (below_alloc (below_alloc (below_alloc (Below.refl w.heap.size w) (.cells (cellsOf .u64 l) 42)) (.cells (cellsOf .u64 zst) 42)) (.cells (cellsOf .u64 (List.replicate 5 0)) 73))
  obtain ⟨cl, hcl⟩ : ∃ cs, cs = cellsOf .u64 l := ⟨_, rfl⟩
  rw [← hcl] at M1 M2 M3 HB ⊢
  have HCl := Aside0.mk hcl
  clear hl hcl
  go_enter Try.func33, Try.ntmps33
  go_wp2_with (first
    | ((with_reducible refine gate_dst (N := 6) rfl ?_); refine wpList_build_zero rfl 73 rfl (cellsOf .u64 (List.replicate 5 0)) built5 ?_)
    | ((with_reducible refine gate_store (t := 73) (p := 3) rfl ?_); refine Mem.store (l' := List.replicate 5 0) M3.out rfl 73 (.tmp 3) (.tmp 6) rfl rfl rfl info_5 rfl ?_))
  have N1 := Aside0.mk (Mem.row M1.out (g' := w.heap.size + 2) (by omega) (cellsOf .u64 (List.replicate 5 0)))
  have N2 := Aside0.mk (Mem.row M2.out (g' := w.heap.size + 2) (by omega) (cellsOf .u64 (List.replicate 5 0)))
  have N3 := Aside0.mk (Mem.put M3.out (List.replicate 5 0))
  have NB := Aside0.mk (below_setRow HB.out (g := w.heap.size + 2) (by omega) (cellsOf .u64 (List.replicate 5 0)))
  clear M1 M2 M3 HB
  go_loopg [4] 25 (fun kq i w' => ∃ j : Nat, j + kq = 25 ∧ i = .int .i64 j ∧ Aside0 (Mem .u64 w' w.heap.size 42 l) ∧ Aside0 (Mem .u64 w' (w.heap.size + 1) 42 zst) ∧ Aside0 (Mem .u64 w' (w.heap.size + 2) 73 (colTo l j)) ∧ Aside0 (Below w.heap.size w w'))
  case atStart => exact ⟨0, by omega, rfl, N1, N2, N3, NB⟩
  case round =>
    clear N1 N2 N3 NB
    obtain ⟨j, hj, rfl, M1, M2, M3, HB⟩ := hrel
    cases gk with
    | zero =>
      obtain rfl : j = 25 := by omega
      go_wp2
      go_loopg [5] 25 (fun kq i w' => ∃ j : Nat, j + kq = 25 ∧ i = .int .i64 j ∧ Aside0 (Mem .u64 w' w.heap.size 42 (fillTo (thetaL l) l j)) ∧ Aside0 (Mem .u64 w' (w.heap.size + 1) 42 zst) ∧ Aside0 (Mem .u64 w' (w.heap.size + 2) 73 (colTo l 25)) ∧ Aside0 (Below w.heap.size w w'))
      case atStart => exact ⟨0, by omega, rfl, ⟨by rw [fillTo_zero]; exact M1.out⟩, M2, M3, HB⟩
      case round =>
        clear M1 M2 M3 HB
        obtain ⟨j, hj, rfl, M1, M2, M3, HB⟩ := hrel
        cases gk with
        | zero =>
          obtain rfl : j = 25 := by omega
          have hend : fillTo (thetaL l) l 25 = thetaL l := by
            have := fillTo_end (thetaL l) l (by rw [thetaL_length, HL.out])
            rwa [HL.out] at this
          rw [hend] at M1
          clear hend
          go_wp2_with (first
            | ((with_reducible refine gate_dst (N := 44) rfl ?_); refine Mem.load M1.out rfl 42 (.tmp 1) rfl rfl Try.underlying42 (by rw [thetaL_length]; exact info_st) ?_)
            | ((with_reducible refine gate_store (t := 42) (p := 2) rfl ?_); refine Mem.store (l' := thetaL l) M2.out rfl 42 (.tmp 2) (.tmp 44) rfl rfl rfl (by rw [thetaL_length]; exact info_st) (by rw [thetaL_length]; rfl) ?_))
          refine bodyPost_ret (v := .agg (cellsOf .u64 (thetaL l))) (results_cell_row rfl _ _ _ _ _ _ _ rfl (Mem.put M2.out (thetaL l)) Try.underlying42 rfl (by rw [cellsOf_size, thetaL_length]; exact info_st)) rfl ⟨rfl, below_setRow HB.out (by omega) _⟩
        | succ k1 =>
          have hlt : j < 25 := by omega
          have HJ := Aside0.mk hj
          clear hj
          obtain ⟨q1, hq1⟩ : ∃ q : Nat, q = (j + 1) % 5 := ⟨_, rfl⟩
          obtain ⟨q4, hq4⟩ : ∃ q : Nat, q = (j + 4) % 5 := ⟨_, rfl⟩
          obtain ⟨p1, hp1⟩ : ∃ q : Nat, q = j + 1 := ⟨_, rfl⟩
          obtain ⟨p4, hp4⟩ : ∃ q : Nat, q = j + 4 := ⟨_, rfl⟩
          have l1 : q1 < 5 := by omega
          have l4 : q4 < 5 := by omega
          have g1 : (q1 : Int) < 5 := by omega
          have g4 : (q4 : Int) < 5 := by omega
          have hx := M1.out.cell j (by rw [fillTo_length _ _ (by rw [thetaL_length, HL.out]), HL.out]; exact hlt)
          have hf := M1.out.free j
          have hc1 := M3.out.cell q1 (by rw [colTo_length]; exact l1)
          have hc4 := M3.out.cell q4 (by rw [colTo_length]; exact l4)
          rw [fillTo_ge _ _ (by rw [thetaL_length, HL.out]) j j (by rw [HL.out]; omega) (Nat.le_refl _)] at hx
          have hval : (thetaL l).getD j 0 = Go.bits .xor .u64 (Go.bits .xor .u64 (l.getD j 0) ((colTo l 25).getD q4 0)) (rotI ((colTo l 25).getD q1 0) 1) := by
            rw [xor_assoc' _ _ _ (words_getD hw _) (words_getD (colTo_words l hw HL.out 25) _) (rotI_word _ _)]
            unfold thetaL; rw [byI_get _ _ _ hlt, hq1, hq4]; rfl
          have hset := fillTo_set (thetaL l) l (by rw [thetaL_length, HL.out]) j (by rw [HL.out]; omega) _ hval
          have HV := Aside0.mk hset
          have HR := Aside0.mk (rrot_c ((colTo l 25).getD q1 0) 1 (words_getD (colTo_words l hw HL.out 25) q1))
          clear hval hset
          have f2 : IntKind.i64.wrap ((j : Int) + 4) = (p4 : Int) := by rw [IntKind.wrap_i64]; omega
          have f3 : Int.tmod (p4 : Int) 5 = (q4 : Int) := by rw [Int.tmod_eq_emod_of_nonneg (by omega)]; omega
          have f4 : IntKind.i64.wrap ((j : Int) + 1) = (p1 : Int) := by rw [IntKind.wrap_i64]; omega
          have f5 : Int.tmod (p1 : Int) 5 = (q1 : Int) := by rw [Int.tmod_eq_emod_of_nonneg (by omega)]; omega
          clear hq1 hq4 hp1 hp4
          generalize rotI ((colTo l 25).getD q1 0) 1 = R at *
          generalize l.getD j 0 = x at *
          generalize (colTo l 25).getD q4 0 = y at *
          generalize (colTo l 25).getD q1 0 = z at *
          go_wp2
          refine start_ (n := 19) (S := fun w' => w'.cell? ⟨w.heap.size, j, none⟩ = some (.int .u64 x) ∧ w'.cell? ⟨w.heap.size + 2, q4, none⟩ = some (.int .u64 y) ∧ w'.cell? ⟨w.heap.size + 2, q1, none⟩ = some (.int .u64 z)) (ds := [18]) #[false, false, false, false, false, false, false, false, false, false, false, false, false, false, false, false, false, false, false] (by kernel_rfl) rfl rfl ⟨hx, hc4, hc1⟩ (fun hHeld => ?_)
          refine pure_ (i := 0) (N := some 26) (v := ?_) (a' := ?_) #[true, false, false, false, false, false, false, false, false, false, false, false, false, false, false, false, false, false, false] rfl rfl (by kernel_rfl) (fun _ _ _ h => h) (Or.inl ⟨by rfl, ?_⟩) ?_ ?_
          rotate_left
          · intro w'
            go_simp
            with_reducible rfl
          rotate_left
          · simp only [Act.put, List.setIfInBounds_toArray, List.set_cons_zero, List.set_cons_succ, i64_w, i32_w]
            rfl
          refine pure_ (i := 1) (N := some 27) (v := ?_) (a' := ?_) #[true, true, false, false, false, false, false, false, false, false, false, false, false, false, false, false, false, false, false] rfl rfl (by kernel_rfl) (fun _ _ _ h => h) (Or.inl ⟨by rfl, ?_⟩) ?_ ?_
          rotate_left
          · intro w'
            go_simp
            with_reducible rfl
          rotate_left
          · simp only [Act.put, List.setIfInBounds_toArray, List.set_cons_zero, List.set_cons_succ, i64_w, i32_w]
            rfl
          refine pure_ (i := 2) (N := some 28) (v := ?_) (a' := ?_) #[true, true, true, false, false, false, false, false, false, false, false, false, false, false, false, false, false, false, false] rfl rfl (by kernel_rfl) (fun _ _ _ h => h) (Or.inl ⟨by rfl, ?_⟩) ?_ ?_
          rotate_left
          · intro w'
            go_simp
            with_reducible rfl
          rotate_left
          · simp only [Act.put, List.setIfInBounds_toArray, List.set_cons_zero, List.set_cons_succ, i64_w, i32_w]
            rfl
          refine pure_ (i := 4) (N := some 30) (v := ?_) (a' := ?_) #[true, true, true, false, true, false, false, false, false, false, false, false, false, false, false, false, false, false, false] rfl rfl (by kernel_rfl) (fun _ _ _ h => h) (Or.inl ⟨by rfl, ?_⟩) ?_ ?_
          rotate_left
          · intro w'
            go_simp
            with_reducible rfl
          rotate_left
          · simp only [Act.put, List.setIfInBounds_toArray, List.set_cons_zero, List.set_cons_succ, i64_w, i32_w]
            rfl
          refine pure_ (i := 5) (N := some 31) (v := ?_) (a' := ?_) #[true, true, true, false, true, true, false, false, false, false, false, false, false, false, false, false, false, false, false] rfl rfl (by kernel_rfl) (fun _ _ _ h => h) (Or.inl ⟨by rfl, ?_⟩) ?_ ?_
          rotate_left
          · intro w'
            go_simp
            with_reducible rfl
          rotate_left
          · simp only [Act.put, List.setIfInBounds_toArray, List.set_cons_zero, List.set_cons_succ, i64_w, i32_w]
            rfl
          refine pure_ (i := 6) (N := some 32) (v := ?_) (a' := ?_) #[true, true, true, false, true, true, true, false, false, false, false, false, false, false, false, false, false, false, false] rfl rfl (by kernel_rfl) (fun _ _ _ h => h) (Or.inl ⟨by rfl, ?_⟩) ?_ ?_
          rotate_left
          · intro w'
            go_simp
            with_reducible rfl
          rotate_left
          · simp only [Act.put, List.setIfInBounds_toArray, List.set_cons_zero, List.set_cons_succ, i64_w, i32_w]
            rfl
          refine pure_ (i := 7) (N := some 33) (v := ?_) (a' := ?_) #[true, true, true, false, true, true, true, true, false, false, false, false, false, false, false, false, false, false, false] rfl rfl (by kernel_rfl) (fun _ _ _ h => h) (Or.inl ⟨by rfl, ?_⟩) ?_ ?_
          rotate_left
          · intro w'
            go_simp
            with_reducible rfl
          rotate_left
          · simp only [Act.put, List.setIfInBounds_toArray, List.set_cons_zero, List.set_cons_succ, i64_w, i32_w]
            rfl
          refine pure_ (i := 10) (N := some 36) (v := ?_) (a' := ?_) #[true, true, true, false, true, true, true, true, false, false, true, false, false, false, false, false, false, false, false] rfl rfl (by kernel_rfl) (fun _ _ _ h => h) (Or.inl ⟨by rfl, ?_⟩) ?_ ?_
          rotate_left
          · intro w'
            go_simp
            with_reducible rfl
          rotate_left
          · simp only [Act.put, List.setIfInBounds_toArray, List.set_cons_zero, List.set_cons_succ, i64_w, i32_w]
            rfl
          refine pure_ (i := 11) (N := some 37) (v := ?_) (a' := ?_) #[true, true, true, false, true, true, true, true, false, false, true, true, false, false, false, false, false, false, false] rfl rfl (by kernel_rfl) (fun _ _ _ h => h) (Or.inl ⟨by rfl, ?_⟩) ?_ ?_
          rotate_left
          · intro w'
            go_simp
            with_reducible rfl
          rotate_left
          · simp only [Act.put, List.setIfInBounds_toArray, List.set_cons_zero, List.set_cons_succ, i64_w, i32_w]
            rfl
          refine pure_ (i := 12) (N := some 38) (v := ?_) (a' := ?_) #[true, true, true, false, true, true, true, true, false, false, true, true, true, false, false, false, false, false, false] rfl rfl (by kernel_rfl) (fun _ _ _ h => h) (Or.inl ⟨by rfl, ?_⟩) ?_ ?_
          rotate_left
          · intro w'
            go_simp
            with_reducible rfl
          rotate_left
          · simp only [Act.put, List.setIfInBounds_toArray, List.set_cons_zero, List.set_cons_succ, i64_w, i32_w]
            rfl
          refine pure_ (i := 13) (N := some 39) (v := ?_) (a' := ?_) #[true, true, true, false, true, true, true, true, false, false, true, true, true, true, false, false, false, false, false] rfl rfl (by kernel_rfl) (fun _ _ _ h => h) (Or.inl ⟨by rfl, ?_⟩) ?_ ?_
          rotate_left
          · intro w'
            go_simp
            with_reducible rfl
          rotate_left
          · simp only [Act.put, List.setIfInBounds_toArray, List.set_cons_zero, List.set_cons_succ, i64_w, i32_w]
            rfl
          refine take_ (i := 3) (N := some 29) (v := ?_) (a' := ?_) #[true, true, true, true, true, true, true, true, false, false, true, true, true, true, false, false, false, false, false] rfl rfl (by kernel_rfl) (fun _ _ _ h => h) (Or.inl ⟨by rfl, ?_⟩) hHeld ?_ ?_
          rotate_left
          · rintro w' ⟨s0, s1, s2⟩
            go_simp
            with_reducible rfl
          rotate_left
          · simp only [Act.put, List.setIfInBounds_toArray, List.set_cons_zero, List.set_cons_succ, i64_w, i32_w]
            rfl
          refine take_ (i := 8) (N := some 34) (v := ?_) (a' := ?_) #[true, true, true, true, true, true, true, true, true, false, true, true, true, true, false, false, false, false, false] rfl rfl (by kernel_rfl) (fun _ _ _ h => h) (Or.inl ⟨by rfl, ?_⟩) hHeld ?_ ?_
          rotate_left
          · rintro w' ⟨s0, s1, s2⟩
            go_simp
            with_reducible rfl
          rotate_left
          · simp only [Act.put, List.setIfInBounds_toArray, List.set_cons_zero, List.set_cons_succ, i64_w, i32_w]
            rfl
          refine pure_ (i := 9) (N := some 35) (v := ?_) (a' := ?_) #[true, true, true, true, true, true, true, true, true, true, true, true, true, true, false, false, false, false, false] rfl rfl (by kernel_rfl) (fun _ _ _ h => h) (Or.inl ⟨by rfl, ?_⟩) ?_ ?_
          rotate_left
          · intro w'
            go_simp
            with_reducible rfl
          rotate_left
          · simp only [Act.put, List.setIfInBounds_toArray, List.set_cons_zero, List.set_cons_succ, i64_w, i32_w]
            rfl
          refine take_ (i := 14) (N := some 40) (v := ?_) (a' := ?_) #[true, true, true, true, true, true, true, true, true, true, true, true, true, true, true, false, false, false, false] rfl rfl (by kernel_rfl) (fun _ _ _ h => h) (Or.inl ⟨by rfl, ?_⟩) hHeld ?_ ?_
          rotate_left
          · rintro w' ⟨s0, s1, s2⟩
            go_simp
            with_reducible rfl
          rotate_left
          · simp only [Act.put, List.setIfInBounds_toArray, List.set_cons_zero, List.set_cons_succ, i64_w, i32_w]
            rfl
          refine one_ (i := 15) (N := some 41) #[true, true, true, true, true, true, true, true, true, true, true, true, true, true, true, true, false, false, false] rfl rfl (by kernel_rfl) (by decide) (fun K hK => ?_)
          refine goes_ Try.func64 (by kernel_rfl) rfl #[.int .u64 z, .int .i64 1] (by rfl) rfl rfl (by simp only [List.map_toArray, List.map_cons, List.map_nil]; rfl) ?_
          with_reducible refine (HR.out.q _).mono ?_
          rintro e w3 ⟨rfl, ⟨⟨nd, rfl⟩⟩⟩
          refine ⟨_, rfl, ?_⟩
          refine hK.out _ _ ⟨hHeld.1, hHeld.2.1, hHeld.2.2⟩ (fun hHeld => ?_)
          clear hK K
          refine norm_ (a' := ?_) ?_ ?_
          rotate_left
          · show Act.put _ (some 41) _ = _
            simp only [Act.put, List.setIfInBounds_toArray, List.set_cons_zero, List.set_cons_succ, i64_w, i32_w]
            rfl
          refine pure_ (i := 16) (N := some 42) (v := ?_) (a' := ?_) #[true, true, true, true, true, true, true, true, true, true, true, true, true, true, true, true, true, false, false] rfl rfl (by kernel_rfl) (fun _ _ _ h => h) (Or.inl ⟨by rfl, ?_⟩) ?_ ?_
          rotate_left
          · intro w'
            go_simp
            with_reducible rfl
          rotate_left
          · simp only [Act.put, List.setIfInBounds_toArray, List.set_cons_zero, List.set_cons_succ, i64_w, i32_w]
            rfl
          refine pure_ (i := 17) (N := some 43) (v := ?_) (a' := ?_) #[true, true, true, true, true, true, true, true, true, true, true, true, true, true, true, true, true, true, false] rfl rfl (by kernel_rfl) (fun _ _ _ h => h) (Or.inl ⟨by rfl, ?_⟩) ?_ ?_
          rotate_left
          · intro w'
            go_simp
            with_reducible rfl
          rotate_left
          · simp only [Act.put, List.setIfInBounds_toArray, List.set_cons_zero, List.set_cons_succ, i64_w, i32_w]
            rfl
          refine last_ (i := 18) (N := none) #[true, true, true, true, true, true, true, true, true, true, true, true, true, true, true, true, true, true, true] rfl rfl (by kernel_rfl) (by decide) (fun K hK => ?_)
          refine skip_ (w1 := ?_) (by rfl) rfl ?_ ?_
          rotate_left
          · go_simp
            rfl
          refine hK.out _ _ ?_
          clear hK K
          refine done_ (by kernel_rfl) ?_

          clear f2 f3 f4 f5
          go_wp2
          go_roundg k1
          case measure => omega
          case rel => exact ⟨j + 1, by have := HJ.out; omega, by go_num, ⟨by rw [← HV.out]; exact Mem.set (Mem.drewN M1.out _) _ _⟩, ⟨Mem.other (Mem.drewN M2.out _) (by omega) _ _⟩, ⟨Mem.other (Mem.drewN M3.out _) (by omega) _ _⟩, ⟨below_set (pw_below_drewN HB.out _) (by omega)⟩⟩
    | succ k1 =>
      have hlt : j < 25 := by omega
      have hq : j % 5 < 5 := by omega
      have HJ := Aside0.mk hj
      have hy := M1.out.cell j (by rw [HL.out]; exact hlt)
      have hx := M3.out.cell (j % 5) (by rw [colTo_length]; exact hq)
      have hf := M3.out.free (j % 5)
      have HV := Aside0.mk (show (colTo l j).set (j % 5) (Go.bits .xor .u64 ((colTo l j).getD (j % 5) 0) (l.getD j 0)) = colTo l (j + 1) from rfl)
      obtain ⟨q, hq'⟩ : ∃ q, q = j % 5 := ⟨_, rfl⟩
      rw [← hq'] at hx hf HV hq
      have g1 : (q : Int) < 5 := by omega
      have f1 : Int.tmod (j : Int) 5 = (q : Int) := by rw [Int.tmod_eq_emod_of_nonneg (by omega)]; omega
      clear hj hq'
      generalize l.getD j 0 = x at *
      generalize (colTo l j).getD q 0 = y at *
      go_wp2
      go_region
      all_goals
        clear f1
        go_wp2
        go_roundg k1
        case measure => omega
        case rel => exact ⟨j + 1, by have := HJ.out; omega, by go_num, ⟨Mem.drew (Mem.other M1.out (g' := w.heap.size + 2) (by omega) _ _)⟩, ⟨Mem.drew (Mem.other M2.out (g' := w.heap.size + 2) (by omega) _ _)⟩, ⟨by rw [← HV.out]; exact Mem.drew (Mem.set M3.out _ _)⟩, ⟨below_drew (below_set HB.out (by omega))⟩⟩
end Go.Proofs.Ytdbcgjclnfhdfaa.Keccak
