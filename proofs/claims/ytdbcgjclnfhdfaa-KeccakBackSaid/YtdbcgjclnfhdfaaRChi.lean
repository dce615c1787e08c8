/-
  Chi of Keccak in the document's words, walked: for any state.
-/
import Derived.Test.YtdbcgjclnfhdfaaRTheta
namespace Go.Proofs.Ytdbcgjclnfhdfaa.Keccak
open Go.RowKit Go.Proofs.YtdbcgjclnfhdfaaW.PrintWords Go.Proofs.YtdbcgjclnfhdfaaW.PrintLast Go.Proofs.YtdbcgjclnfhdfaaW.PrintMore Byte Sl Arr Mem Gives RotC KecT ArrEq OctMath
set_option linter.unusedVariables false
set_option linter.unusedSimpArgs false
theorem chi_alt (x y z : Int) (hx : IsWord x) (hy : IsWord y) (hz : IsWord z) : Go.bits .xor .u64 (Go.bits .xor .u64 x y) (Go.bits .and .u64 y z) = Go.bits .xor .u64 x (Go.bits .andNot .u64 y z) := by
  obtain ⟨a, rfl⟩ := I64_of x hx.1 hx.2
  obtain ⟨b, rfl⟩ := I64_of y hy.1 hy.2
  obtain ⟨c, rfl⟩ := I64_of z hz.1 hz.2
  rw [xor64, and64, andNot64, xor64, xor64]
  congr 1
  refine BitVec.eq_of_getLsbD_eq fun i hi => ?_
  simp only [BitVec.getLsbD_xor, BitVec.getLsbD_and, BitVec.getLsbD_not]
  cases a.getLsbD i <;> cases b.getLsbD i <;> cases c.getLsbD i <;> simp [hi]
set_option maxHeartbeats 4000000 in
set_option maxRecDepth 100000 in
theorem rchi_c (l : List Int) (hl : l.length = 25) (hw : Words l) : GivesB 37 #[arrV .u64 l] (arrV .u64 (chiL l)) := by
  intro w
  rw [arrV_eq]
  rw [arrV_eq]
  have HL := Aside0.mk hl
  have M1 := Aside0.mk (Mem.alloc (Mem.alloc (Mem.new .u64 w 42 l) (.cells (cellsOf .u64 zst) 42)) (.cells (cellsOf .u64 zst) 42))
  have M2 := Aside0.mk (Mem.alloc (Mem.new2 .u64 w (.cells (cellsOf .u64 l) 42) 42 zst) (.cells (cellsOf .u64 zst) 42))
  have M3 := Aside0.mk (Mem.new3 .u64 w (.cells (cellsOf .u64 l) 42) (.cells (cellsOf .u64 zst) 42) 42 zst)
  have HB := Aside0.mk (below_alloc (below_alloc (below_alloc (Below.refl w.heap.size w) (.cells (cellsOf .u64 l) 42)) (.cells (cellsOf .u64 zst) 42)) (.cells (cellsOf .u64 zst) 42))
  obtain ⟨cl, hcl⟩ : ∃ cs, cs = cellsOf .u64 l := ⟨_, rfl⟩
  rw [← hcl] at M1 M2 M3 HB ⊢
  have HCl := Aside0.mk hcl
  clear hl hcl
  go_enter Try.func37, Try.ntmps37
  go_wp2_with (first
    | ((with_reducible refine gate_dst (N := 6) rfl ?_); refine wpList_build_zero rfl 42 rfl (cellsOf .u64 zst) built25 ?_)
    | ((with_reducible refine gate_store (t := 42) (p := 3) rfl ?_); refine Mem.store (l' := zst) M3.out rfl 42 (.tmp 3) (.tmp 6) rfl rfl rfl info_st rfl ?_))
  have N1 := Aside0.mk (Mem.row M1.out (g' := w.heap.size + 2) (by omega) (cellsOf .u64 zst))
  have N2 := Aside0.mk (Mem.row M2.out (g' := w.heap.size + 2) (by omega) (cellsOf .u64 zst))
  have N3 := Aside0.mk (Mem.put M3.out zst)
  have NB := Aside0.mk (below_setRow HB.out (g := w.heap.size + 2) (by omega) (cellsOf .u64 zst))
  clear M1 M2 M3 HB
  go_loopg [4] 25 (fun kq i w' => ∃ j : Nat, j + kq = 25 ∧ i = .int .i64 j ∧ Aside0 (Mem .u64 w' w.heap.size 42 l) ∧ Aside0 (Mem .u64 w' (w.heap.size + 1) 42 zst) ∧ Aside0 (Mem .u64 w' (w.heap.size + 2) 42 (fillTo (chiL l) zst j)) ∧ Aside0 (Below w.heap.size w w'))
  case atStart => exact ⟨0, by omega, rfl, N1, N2, ⟨by rw [fillTo_zero]; exact N3.out⟩, NB⟩
  case round =>
    clear N1 N2 N3 NB
    obtain ⟨j, hj, rfl, M1, M2, M3, HB⟩ := hrel
    cases gk with
    | zero =>
      obtain rfl : j = 25 := by omega
      have hend : fillTo (chiL l) zst 25 = chiL l := fillTo_end (chiL l) zst (by rw [chiL_length, zst_length])
      rw [hend] at M3
      clear hend
      go_wp2_with (first
        | ((with_reducible refine gate_dst (N := 43) rfl ?_); refine Mem.load M3.out rfl 42 (.tmp 3) rfl rfl Try.underlying42 (by rw [chiL_length]; exact info_st) ?_)
        | ((with_reducible refine gate_store (t := 42) (p := 2) rfl ?_); refine Mem.store (l' := chiL l) M2.out rfl 42 (.tmp 2) (.tmp 43) rfl rfl rfl (by rw [chiL_length]; exact info_st) (by rw [chiL_length]; rfl) ?_))
      refine bodyPost_ret (v := .agg (cellsOf .u64 (chiL l))) (results_cell_row rfl _ _ _ _ _ _ _ rfl (Mem.put M2.out (chiL l)) Try.underlying42 rfl (by rw [cellsOf_size, chiL_length]; exact info_st)) rfl ⟨rfl, below_setRow HB.out (by omega) _⟩
    | succ k1 =>
      have hlt : j < 25 := by omega
      have HJ := Aside0.mk hj
      clear hj
      obtain ⟨r0, hr0⟩ : ∃ r0 : Nat, r0 = j - j % 5 := ⟨_, rfl⟩
      obtain ⟨r5, hr5⟩ : ∃ r5 : Nat, r5 = j / 5 := ⟨_, rfl⟩
      obtain ⟨q1, hq1⟩ : ∃ q : Nat, q = (j + 1) % 5 := ⟨_, rfl⟩
      obtain ⟨q2, hq2⟩ : ∃ q : Nat, q = (j + 2) % 5 := ⟨_, rfl⟩
      obtain ⟨p1, hp1⟩ : ∃ q : Nat, q = j + 1 := ⟨_, rfl⟩
      obtain ⟨p2, hp2⟩ : ∃ q : Nat, q = j + 2 := ⟨_, rfl⟩
      obtain ⟨A, hA⟩ : ∃ q : Nat, q = r0 + q2 := ⟨_, rfl⟩
      obtain ⟨B, hB⟩ : ∃ q : Nat, q = r0 + q1 := ⟨_, rfl⟩
      have e0 : (j : Int) / 5 * 5 = (r0 : Int) := by omega
      have lA : A < 25 := by omega
      have lB : B < 25 := by omega
      have gA : (A : Int) < 25 := by omega
      have gB : (B : Int) < 25 := by omega
      have hx := M1.out.cell j (by rw [HL.out]; exact hlt)
      have hcA := M1.out.cell A (by rw [HL.out]; exact lA)
      have hcB := M1.out.cell B (by rw [HL.out]; exact lB)
      have hf := M3.out.free j
      have hx3 := M3.out.cell j (by rw [fillTo_length _ _ (by rw [chiL_length, zst_length]), zst_length]; exact hlt)
      have hval : (chiL l).getD j 0 = Go.bits .xor .u64 (Go.bits .xor .u64 (l.getD j 0) (l.getD A 0)) (Go.bits .and .u64 (l.getD A 0) (l.getD B 0)) := by
        rw [chi_alt _ _ _ (words_getD hw _) (words_getD hw _) (words_getD hw _)]
        unfold chiL; rw [byI_get _ _ _ hlt, hA, hB, hr0, hq1, hq2]; rfl
      have hset := fillTo_set (chiL l) zst (by rw [chiL_length, zst_length]) j (by rw [zst_length]; omega) _ hval
      have HV := Aside0.mk hset
      clear hval hset
      have f1 : IntKind.i64.wrap ((j : Int) + 2) = (p2 : Int) := by rw [IntKind.wrap_i64]; omega
      have f2 : Int.tmod (p2 : Int) 5 = (q2 : Int) := by rw [Int.tmod_eq_emod_of_nonneg (by omega)]; omega
      have f3 : IntKind.i64.wrap ((r0 : Int) + (q2 : Int)) = (A : Int) := by rw [IntKind.wrap_i64]; omega
      have f4 : IntKind.i64.wrap ((j : Int) + 1) = (p1 : Int) := by rw [IntKind.wrap_i64]; omega
      have f5 : Int.tmod (p1 : Int) 5 = (q1 : Int) := by rw [Int.tmod_eq_emod_of_nonneg (by omega)]; omega
      have f6 : IntKind.i64.wrap ((r0 : Int) + (q1 : Int)) = (B : Int) := by rw [IntKind.wrap_i64]; omega
      clear hr0 hr5 hq1 hq2 hp1 hp2 hA hB
      generalize l.getD j 0 = x at *
      generalize l.getD A 0 = y at *
      generalize l.getD B 0 = z at *
      go_wp2
      clear e0
      refine start_ (n := 30) (S := fun w' => w'.cell? ⟨w.heap.size, j, none⟩ = some (.int .u64 x) ∧ w'.cell? ⟨w.heap.size, A, none⟩ = some (.int .u64 y) ∧ w'.cell? ⟨w.heap.size, B, none⟩ = some (.int .u64 z)) (ds := [29]) #[false, false, false, false, false, false, false, false, false, false, false, false, false, false, false, false, false, false, false, false, false, false, false, false, false, false, false, false, false, false] (by kernel_rfl) rfl rfl ⟨hx, hcA, hcB⟩ (fun hHeld => ?_)
      refine pure_ (i := 0) (N := some 14) (v := ?_) (a' := ?_) #[true, false, false, false, false, false, false, false, false, false, false, false, false, false, false, false, false, false, false, false, false, false, false, false, false, false, false, false, false, false] rfl rfl (by kernel_rfl) (fun _ _ _ h => h) (Or.inl ⟨by rfl, ?_⟩) ?_ ?_
      rotate_left
      · intro w'
        go_simp
        with_reducible rfl
      rotate_left
      · simp only [Act.put, List.setIfInBounds_toArray, List.set_cons_zero, List.set_cons_succ, i64_w, i32_w]
        rfl
      refine pure_ (i := 1) (N := some 15) (v := ?_) (a' := ?_) #[true, true, false, false, false, false, false, false, false, false, false, false, false, false, false, false, false, false, false, false, false, false, false, false, false, false, false, false, false, false] rfl rfl (by kernel_rfl) (fun _ _ _ h => h) (Or.inl ⟨by rfl, ?_⟩) ?_ ?_
      rotate_left
      · intro w'
        go_simp
        with_reducible rfl
      rotate_left
      · simp only [Act.put, List.setIfInBounds_toArray, List.set_cons_zero, List.set_cons_succ, i64_w, i32_w]
        rfl
      refine pure_ (i := 2) (N := some 16) (v := ?_) (a' := ?_) #[true, true, true, false, false, false, false, false, false, false, false, false, false, false, false, false, false, false, false, false, false, false, false, false, false, false, false, false, false, false] rfl rfl (by kernel_rfl) (fun _ _ _ h => h) (Or.inl ⟨by rfl, ?_⟩) ?_ ?_
      rotate_left
      · intro w'
        go_simp
        with_reducible rfl
      rotate_left
      · simp only [Act.put, List.setIfInBounds_toArray, List.set_cons_zero, List.set_cons_succ, i64_w, i32_w]
        rfl
      refine pure_ (i := 4) (N := some 18) (v := ?_) (a' := ?_) #[true, true, true, false, true, false, false, false, false, false, false, false, false, false, false, false, false, false, false, false, false, false, false, false, false, false, false, false, false, false] rfl rfl (by kernel_rfl) (fun _ _ _ h => h) (Or.inl ⟨by rfl, ?_⟩) ?_ ?_
      rotate_left
      · intro w'
        go_simp
        with_reducible rfl
      rotate_left
      · simp only [Act.put, List.setIfInBounds_toArray, List.set_cons_zero, List.set_cons_succ, i64_w, i32_w]
        rfl
      refine pure_ (i := 5) (N := some 19) (v := ?_) (a' := ?_) #[true, true, true, false, true, true, false, false, false, false, false, false, false, false, false, false, false, false, false, false, false, false, false, false, false, false, false, false, false, false] rfl rfl (by kernel_rfl) (fun _ _ _ h => h) (Or.inl ⟨by rfl, ?_⟩) ?_ ?_
      rotate_left
      · intro w'
        go_simp
        with_reducible rfl
      rotate_left
      · simp only [Act.put, List.setIfInBounds_toArray, List.set_cons_zero, List.set_cons_succ, i64_w, i32_w]
        rfl
      refine pure_ (i := 6) (N := some 20) (v := ?_) (a' := ?_) #[true, true, true, false, true, true, true, false, false, false, false, false, false, false, false, false, false, false, false, false, false, false, false, false, false, false, false, false, false, false] rfl rfl (by kernel_rfl) (fun _ _ _ h => h) (Or.inl ⟨by rfl, ?_⟩) ?_ ?_
      rotate_left
      · intro w'
        go_simp
        with_reducible rfl
      rotate_left
      · simp only [Act.put, List.setIfInBounds_toArray, List.set_cons_zero, List.set_cons_succ, i64_w, i32_w]
        rfl
      refine pure_ (i := 7) (N := some 21) (v := ?_) (a' := ?_) #[true, true, true, false, true, true, true, true, false, false, false, false, false, false, false, false, false, false, false, false, false, false, false, false, false, false, false, false, false, false] rfl rfl (by kernel_rfl) (fun _ _ _ h => h) (Or.inl ⟨by rfl, ?_⟩) ?_ ?_
      rotate_left
      · intro w'
        go_simp
        with_reducible rfl
      rotate_left
      · simp only [Act.put, List.setIfInBounds_toArray, List.set_cons_zero, List.set_cons_succ, i64_w, i32_w]
        rfl
      refine pure_ (i := 8) (N := some 22) (v := ?_) (a' := ?_) #[true, true, true, false, true, true, true, true, true, false, false, false, false, false, false, false, false, false, false, false, false, false, false, false, false, false, false, false, false, false] rfl rfl (by kernel_rfl) (fun _ _ _ h => h) (Or.inl ⟨by rfl, ?_⟩) ?_ ?_
      rotate_left
      · intro w'
        go_simp
        with_reducible rfl
      rotate_left
      · simp only [Act.put, List.setIfInBounds_toArray, List.set_cons_zero, List.set_cons_succ, i64_w, i32_w]
        rfl
      refine pure_ (i := 9) (N := some 23) (v := ?_) (a' := ?_) #[true, true, true, false, true, true, true, true, true, true, false, false, false, false, false, false, false, false, false, false, false, false, false, false, false, false, false, false, false, false] rfl rfl (by kernel_rfl) (fun _ _ _ h => h) (Or.inl ⟨by rfl, ?_⟩) ?_ ?_
      rotate_left
      · intro w'
        go_simp
        with_reducible rfl
      rotate_left
      · simp only [Act.put, List.setIfInBounds_toArray, List.set_cons_zero, List.set_cons_succ, i64_w, i32_w]
        rfl
      refine pure_ (i := 12) (N := some 26) (v := ?_) (a' := ?_) #[true, true, true, false, true, true, true, true, true, true, false, false, true, false, false, false, false, false, false, false, false, false, false, false, false, false, false, false, false, false] rfl rfl (by kernel_rfl) (fun _ _ _ h => h) (Or.inl ⟨by rfl, ?_⟩) ?_ ?_
      rotate_left
      · intro w'
        go_simp
        with_reducible rfl
      rotate_left
      · simp only [Act.put, List.setIfInBounds_toArray, List.set_cons_zero, List.set_cons_succ, i64_w, i32_w]
        rfl
      refine pure_ (i := 13) (N := some 27) (v := ?_) (a' := ?_) #[true, true, true, false, true, true, true, true, true, true, false, false, true, true, false, false, false, false, false, false, false, false, false, false, false, false, false, false, false, false] rfl rfl (by kernel_rfl) (fun _ _ _ h => h) (Or.inl ⟨by rfl, ?_⟩) ?_ ?_
      rotate_left
      · intro w'
        go_simp
        with_reducible rfl
      rotate_left
      · simp only [Act.put, List.setIfInBounds_toArray, List.set_cons_zero, List.set_cons_succ, i64_w, i32_w]
        rfl
      refine pure_ (i := 14) (N := some 28) (v := ?_) (a' := ?_) #[true, true, true, false, true, true, true, true, true, true, false, false, true, true, true, false, false, false, false, false, false, false, false, false, false, false, false, false, false, false] rfl rfl (by kernel_rfl) (fun _ _ _ h => h) (Or.inl ⟨by rfl, ?_⟩) ?_ ?_
      rotate_left
      · intro w'
        go_simp
        with_reducible rfl
      rotate_left
      · simp only [Act.put, List.setIfInBounds_toArray, List.set_cons_zero, List.set_cons_succ, i64_w, i32_w]
        rfl
      refine pure_ (i := 15) (N := some 29) (v := ?_) (a' := ?_) #[true, true, true, false, true, true, true, true, true, true, false, false, true, true, true, true, false, false, false, false, false, false, false, false, false, false, false, false, false, false] rfl rfl (by kernel_rfl) (fun _ _ _ h => h) (Or.inl ⟨by rfl, ?_⟩) ?_ ?_
      rotate_left
      · intro w'
        go_simp
        with_reducible rfl
      rotate_left
      · simp only [Act.put, List.setIfInBounds_toArray, List.set_cons_zero, List.set_cons_succ, i64_w, i32_w]
        rfl
      refine pure_ (i := 16) (N := some 30) (v := ?_) (a' := ?_) #[true, true, true, false, true, true, true, true, true, true, false, false, true, true, true, true, true, false, false, false, false, false, false, false, false, false, false, false, false, false] rfl rfl (by kernel_rfl) (fun _ _ _ h => h) (Or.inl ⟨by rfl, ?_⟩) ?_ ?_
      rotate_left
      · intro w'
        go_simp
        with_reducible rfl
      rotate_left
      · simp only [Act.put, List.setIfInBounds_toArray, List.set_cons_zero, List.set_cons_succ, i64_w, i32_w]
        rfl
      refine pure_ (i := 17) (N := some 31) (v := ?_) (a' := ?_) #[true, true, true, false, true, true, true, true, true, true, false, false, true, true, true, true, true, true, false, false, false, false, false, false, false, false, false, false, false, false] rfl rfl (by kernel_rfl) (fun _ _ _ h => h) (Or.inl ⟨by rfl, ?_⟩) ?_ ?_
      rotate_left
      · intro w'
        go_simp
        with_reducible rfl
      rotate_left
      · simp only [Act.put, List.setIfInBounds_toArray, List.set_cons_zero, List.set_cons_succ, i64_w, i32_w]
        rfl
      refine pure_ (i := 19) (N := some 33) (v := ?_) (a' := ?_) #[true, true, true, false, true, true, true, true, true, true, false, false, true, true, true, true, true, true, false, true, false, false, false, false, false, false, false, false, false, false] rfl rfl (by kernel_rfl) (fun _ _ _ h => h) (Or.inl ⟨by rfl, ?_⟩) ?_ ?_
      rotate_left
      · intro w'
        go_simp
        with_reducible rfl
      rotate_left
      · simp only [Act.put, List.setIfInBounds_toArray, List.set_cons_zero, List.set_cons_succ, i64_w, i32_w]
        rfl
      refine pure_ (i := 20) (N := some 34) (v := ?_) (a' := ?_) #[true, true, true, false, true, true, true, true, true, true, false, false, true, true, true, true, true, true, false, true, true, false, false, false, false, false, false, false, false, false] rfl rfl (by kernel_rfl) (fun _ _ _ h => h) (Or.inl ⟨by rfl, ?_⟩) ?_ ?_
      rotate_left
      · intro w'
        go_simp
        with_reducible rfl
      rotate_left
      · simp only [Act.put, List.setIfInBounds_toArray, List.set_cons_zero, List.set_cons_succ, i64_w, i32_w]
        rfl
      refine pure_ (i := 21) (N := some 35) (v := ?_) (a' := ?_) #[true, true, true, false, true, true, true, true, true, true, false, false, true, true, true, true, true, true, false, true, true, true, false, false, false, false, false, false, false, false] rfl rfl (by kernel_rfl) (fun _ _ _ h => h) (Or.inl ⟨by rfl, ?_⟩) ?_ ?_
      rotate_left
      · intro w'
        go_simp
        with_reducible rfl
      rotate_left
      · simp only [Act.put, List.setIfInBounds_toArray, List.set_cons_zero, List.set_cons_succ, i64_w, i32_w]
        rfl
      refine pure_ (i := 22) (N := some 36) (v := ?_) (a' := ?_) #[true, true, true, false, true, true, true, true, true, true, false, false, true, true, true, true, true, true, false, true, true, true, true, false, false, false, false, false, false, false] rfl rfl (by kernel_rfl) (fun _ _ _ h => h) (Or.inl ⟨by rfl, ?_⟩) ?_ ?_
      rotate_left
      · intro w'
        go_simp
        with_reducible rfl
      rotate_left
      · simp only [Act.put, List.setIfInBounds_toArray, List.set_cons_zero, List.set_cons_succ, i64_w, i32_w]
        rfl
      refine pure_ (i := 23) (N := some 37) (v := ?_) (a' := ?_) #[true, true, true, false, true, true, true, true, true, true, false, false, true, true, true, true, true, true, false, true, true, true, true, true, false, false, false, false, false, false] rfl rfl (by kernel_rfl) (fun _ _ _ h => h) (Or.inl ⟨by rfl, ?_⟩) ?_ ?_
      rotate_left
      · intro w'
        go_simp
        with_reducible rfl
      rotate_left
      · simp only [Act.put, List.setIfInBounds_toArray, List.set_cons_zero, List.set_cons_succ, i64_w, i32_w]
        rfl
      refine pure_ (i := 24) (N := some 38) (v := ?_) (a' := ?_) #[true, true, true, false, true, true, true, true, true, true, false, false, true, true, true, true, true, true, false, true, true, true, true, true, true, false, false, false, false, false] rfl rfl (by kernel_rfl) (fun _ _ _ h => h) (Or.inl ⟨by rfl, ?_⟩) ?_ ?_
      rotate_left
      · intro w'
        go_simp
        with_reducible rfl
      rotate_left
      · simp only [Act.put, List.setIfInBounds_toArray, List.set_cons_zero, List.set_cons_succ, i64_w, i32_w]
        rfl
      refine take_ (i := 3) (N := some 17) (v := ?_) (a' := ?_) #[true, true, true, true, true, true, true, true, true, true, false, false, true, true, true, true, true, true, false, true, true, true, true, true, true, false, false, false, false, false] rfl rfl (by kernel_rfl) (fun _ _ _ h => h) (Or.inl ⟨by rfl, ?_⟩) hHeld ?_ ?_
      rotate_left
      · rintro w' ⟨s0, s1, s2⟩
        go_simp
        with_reducible rfl
      rotate_left
      · simp only [Act.put, List.setIfInBounds_toArray, List.set_cons_zero, List.set_cons_succ, i64_w, i32_w]
        rfl
      refine take_ (i := 10) (N := some 24) (v := ?_) (a' := ?_) #[true, true, true, true, true, true, true, true, true, true, true, false, true, true, true, true, true, true, false, true, true, true, true, true, true, false, false, false, false, false] rfl rfl (by kernel_rfl) (fun _ _ _ h => h) (Or.inl ⟨by rfl, ?_⟩) hHeld ?_ ?_
      rotate_left
      · rintro w' ⟨s0, s1, s2⟩
        go_simp
        with_reducible rfl
      rotate_left
      · simp only [Act.put, List.setIfInBounds_toArray, List.set_cons_zero, List.set_cons_succ, i64_w, i32_w]
        rfl
      refine pure_ (i := 11) (N := some 25) (v := ?_) (a' := ?_) #[true, true, true, true, true, true, true, true, true, true, true, true, true, true, true, true, true, true, false, true, true, true, true, true, true, false, false, false, false, false] rfl rfl (by kernel_rfl) (fun _ _ _ h => h) (Or.inl ⟨by rfl, ?_⟩) ?_ ?_
      rotate_left
      · intro w'
        go_simp
        with_reducible rfl
      rotate_left
      · simp only [Act.put, List.setIfInBounds_toArray, List.set_cons_zero, List.set_cons_succ, i64_w, i32_w]
        rfl
      refine take_ (i := 18) (N := some 32) (v := ?_) (a' := ?_) #[true, true, true, true, true, true, true, true, true, true, true, true, true, true, true, true, true, true, true, true, true, true, true, true, true, false, false, false, false, false] rfl rfl (by kernel_rfl) (fun _ _ _ h => h) (Or.inl ⟨by rfl, ?_⟩) hHeld ?_ ?_
      rotate_left
      · rintro w' ⟨s0, s1, s2⟩
        go_simp
        with_reducible rfl
      rotate_left
      · simp only [Act.put, List.setIfInBounds_toArray, List.set_cons_zero, List.set_cons_succ, i64_w, i32_w]
        rfl
      refine take_ (i := 25) (N := some 39) (v := ?_) (a' := ?_) #[true, true, true, true, true, true, true, true, true, true, true, true, true, true, true, true, true, true, true, true, true, true, true, true, true, true, false, false, false, false] rfl rfl (by kernel_rfl) (fun _ _ _ h => h) (Or.inl ⟨by rfl, ?_⟩) hHeld ?_ ?_
      rotate_left
      · rintro w' ⟨s0, s1, s2⟩
        go_simp
        with_reducible rfl
      rotate_left
      · simp only [Act.put, List.setIfInBounds_toArray, List.set_cons_zero, List.set_cons_succ, i64_w, i32_w]
        rfl
      refine pure_ (i := 26) (N := some 40) (v := ?_) (a' := ?_) #[true, true, true, true, true, true, true, true, true, true, true, true, true, true, true, true, true, true, true, true, true, true, true, true, true, true, true, false, false, false] rfl rfl (by kernel_rfl) (fun _ _ _ h => h) (Or.inl ⟨by rfl, ?_⟩) ?_ ?_
      rotate_left
      · intro w'
        go_simp
        with_reducible rfl
      rotate_left
      · simp only [Act.put, List.setIfInBounds_toArray, List.set_cons_zero, List.set_cons_succ, i64_w, i32_w]
        rfl
      refine pure_ (i := 27) (N := some 41) (v := ?_) (a' := ?_) #[true, true, true, true, true, true, true, true, true, true, true, true, true, true, true, true, true, true, true, true, true, true, true, true, true, true, true, true, false, false] rfl rfl (by kernel_rfl) (fun _ _ _ h => h) (Or.inl ⟨by rfl, ?_⟩) ?_ ?_
      rotate_left
      · intro w'
        go_simp
        with_reducible rfl
      rotate_left
      · simp only [Act.put, List.setIfInBounds_toArray, List.set_cons_zero, List.set_cons_succ, i64_w, i32_w]
        rfl
      refine pure_ (i := 28) (N := some 42) (v := ?_) (a' := ?_) #[true, true, true, true, true, true, true, true, true, true, true, true, true, true, true, true, true, true, true, true, true, true, true, true, true, true, true, true, true, false] rfl rfl (by kernel_rfl) (fun _ _ _ h => h) (Or.inl ⟨by rfl, ?_⟩) ?_ ?_
      rotate_left
      · intro w'
        go_simp
        with_reducible rfl
      rotate_left
      · simp only [Act.put, List.setIfInBounds_toArray, List.set_cons_zero, List.set_cons_succ, i64_w, i32_w]
        rfl
      refine last_ (i := 29) (N := none) #[true, true, true, true, true, true, true, true, true, true, true, true, true, true, true, true, true, true, true, true, true, true, true, true, true, true, true, true, true, true] rfl rfl (by kernel_rfl) (by decide) (fun K hK => ?_)
      refine skip_ (w1 := ?_) (by rfl) rfl ?_ ?_
      rotate_left
      · go_simp
        rfl
      refine hK.out _ _ ?_
      clear hK K
      refine done_ (by kernel_rfl) ?_
      clear f1 f2 f3 f4 f5 f6
      go_wp2
      go_roundg k1
      case measure => omega
      case rel => exact ⟨j + 1, by have := HJ.out; omega, by go_num, ⟨Mem.drew (Mem.other M1.out (g' := w.heap.size + 2) (by omega) _ _)⟩, ⟨Mem.drew (Mem.other M2.out (g' := w.heap.size + 2) (by omega) _ _)⟩, ⟨by rw [← HV.out]; exact Mem.drew (Mem.set M3.out _ _)⟩, ⟨below_drew (below_set HB.out (by omega))⟩⟩
/-- The document's order: k = 5 x + y. -/
def rmoveTo (l : List Int) : Nat → List Int
  | 0 => zst
  | k + 1 => (rmoveTo l k).set (k % 5 + 5 * ((2 * (k / 5) + 3 * (k % 5)) % 5)) (rotI (l.getD (k / 5 + 5 * (k % 5)) 0) (turnN (k / 5) (k % 5)))
theorem rmoveTo_length (l : List Int) : ∀ i, (rmoveTo l i).length = 25
  | 0 => rfl
  | i + 1 => by simp [rmoveTo, rmoveTo_length l i]
theorem len25 (l : List Int) (h : l.length = 25) : ∃ F : Nat → Int, l = byI 25 F := ⟨fun i => l.getD i 0, byI_ext 25 _ l h (fun _ _ => rfl)⟩
def moveG (T : Nat → Nat → Nat) (R : Int → Int → Int) (l : List Int) : Nat → List Int
  | 0 => zst
  | i + 1 => (moveG T R l i).set (dst i) (R (l.getD i 0) (T (i % 5) (i / 5)))
def rmoveG (T : Nat → Nat → Nat) (R : Int → Int → Int) (l : List Int) : Nat → List Int
  | 0 => zst
  | k + 1 => (rmoveG T R l k).set (k % 5 + 5 * ((2 * (k / 5) + 3 * (k % 5)) % 5)) (R (l.getD (k / 5 + 5 * (k % 5)) 0) (T (k / 5) (k % 5)))
theorem moveG_eq (l : List Int) : ∀ i, moveTo l i = moveG (fun a b => turnN a b) (fun x k => rotI x k) l i
  | 0 => rfl
  | i + 1 => by rw [moveTo, moveG, moveG_eq l i]
theorem rmoveG_eq (l : List Int) : ∀ i, rmoveTo l i = rmoveG (fun a b => turnN a b) (fun x k => rotI x k) l i
  | 0 => rfl
  | i + 1 => by rw [rmoveTo, rmoveG, rmoveG_eq l i]
set_option maxRecDepth 100000 in
set_option maxHeartbeats 4000000 in
theorem moves_G (T : Nat → Nat → Nat) (R : Int → Int → Int) (F : Nat → Int) : rmoveG T R (byI 25 F) 25 = moveG T R (byI 25 F) 25 := by
  kernel_rfl
theorem rmove_eq (l : List Int) (h : l.length = 25) : rmoveTo l 25 = moveL l := by
  obtain ⟨F, rfl⟩ := len25 l h
  unfold moveL
  rw [moveG_eq, rmoveG_eq, moves_G]
set_option maxHeartbeats 4000000 in
set_option maxRecDepth 100000 in
theorem rmove_c (l : List Int) (hl : l.length = 25) (hw : Words l) : GivesB 35 #[arrV .u64 l] (arrV .u64 (moveL l)) := by
  rw [← rmove_eq l hl]
  intro w
  rw [arrV_eq]
  rw [arrV_eq]
  have HL := Aside0.mk hl
  have M1 := Aside0.mk (Mem.alloc (Mem.alloc (Mem.new .u64 w 42 l) (.cells (cellsOf .u64 zst) 42)) (.cells (cellsOf .u64 zst) 42))
  have M2 := Aside0.mk (Mem.alloc (Mem.new2 .u64 w (.cells (cellsOf .u64 l) 42) 42 zst) (.cells (cellsOf .u64 zst) 42))
  have M3 := Aside0.mk (Mem.new3 .u64 w (.cells (cellsOf .u64 l) 42) (.cells (cellsOf .u64 zst) 42) 42 zst)
  have HB := Aside0.mk (below_alloc (below_alloc (below_alloc (Below.refl w.heap.size w) (.cells (cellsOf .u64 l) 42)) (.cells (cellsOf .u64 zst) 42)) (.cells (cellsOf .u64 zst) 42))
  obtain ⟨cl, hcl⟩ : ∃ cs, cs = cellsOf .u64 l := ⟨_, rfl⟩
  rw [← hcl] at M1 M2 M3 HB ⊢
  have HCl := Aside0.mk hcl
  clear hl hcl
  go_enter Try.func35, Try.ntmps35
  go_wp2_with (first
    | ((with_reducible refine gate_dst (N := 6) rfl ?_); refine wpList_build_zero rfl 42 rfl (cellsOf .u64 zst) built25 ?_)
    | ((with_reducible refine gate_store (t := 42) (p := 3) rfl ?_); refine Mem.store (l' := zst) M3.out rfl 42 (.tmp 3) (.tmp 6) rfl rfl rfl info_st rfl ?_))
  have N1 := Aside0.mk (Mem.row M1.out (g' := w.heap.size + 2) (by omega) (cellsOf .u64 zst))
  have N2 := Aside0.mk (Mem.row M2.out (g' := w.heap.size + 2) (by omega) (cellsOf .u64 zst))
  have N3 := Aside0.mk (Mem.put M3.out zst)
  have NB := Aside0.mk (below_setRow HB.out (g := w.heap.size + 2) (by omega) (cellsOf .u64 zst))
  clear M1 M2 M3 HB
  go_loopg [4] 5 (fun kq i w' => ∃ j : Nat, j + kq = 5 ∧ i = .int .i64 j ∧ Aside0 (Mem .u64 w' w.heap.size 42 l) ∧ Aside0 (Mem .u64 w' (w.heap.size + 1) 42 zst) ∧ Aside0 (Mem .u64 w' (w.heap.size + 2) 42 (rmoveTo l (5 * j))) ∧ Aside0 (Below w.heap.size w w'))
  case atStart => exact ⟨0, by omega, rfl, N1, N2, N3, NB⟩
  case round =>
    clear N1 N2 N3 NB
    obtain ⟨x, hx5, rfl, M1, M2, M3, HB⟩ := hrel
    cases gk with
    | zero =>
      obtain rfl : x = 5 := by omega
      have M3 : Aside0 (Mem .u64 _ (w.heap.size + 2) 42 (rmoveTo l 25)) := M3
      have HU := Aside0.mk (rmoveTo_length l 25)
      obtain ⟨p, hp⟩ : ∃ z, z = rmoveTo l 25 := ⟨_, rfl⟩
      rw [← hp] at M3 HU
      have HV := Aside0.mk hp
      clear hp hx5
      go_wp2_with (first
        | ((with_reducible refine gate_dst (N := 35) rfl ?_); refine Mem.load M3.out rfl 42 (.tmp 3) rfl rfl Try.underlying42 (by rw [HU.out]; exact info_st) ?_)
        | ((with_reducible refine gate_store (t := 42) (p := 2) rfl ?_); refine Mem.store (l' := p) M2.out rfl 42 (.tmp 2) (.tmp 35) rfl rfl rfl (by rw [HU.out]; exact info_st) (by rw [HU.out, zst_length]) ?_))
      refine bodyPost_ret (v := .agg (cellsOf .u64 (p))) (results_cell_row rfl _ _ _ _ _ _ _ rfl (Mem.put M2.out (p)) Try.underlying42 rfl (by rw [cellsOf_size, HU.out]; exact info_st)) rfl ⟨by rw [HV.out], below_setRow HB.out (by omega) _⟩
    | succ k1 =>
      have hxl : x < 5 := by omega
      have HX := Aside0.mk hx5
      clear hx5
      go_wp2
      go_loopg [5] 5 (fun kq i w' => ∃ j : Nat, j + kq = 5 ∧ i = .int .i64 j ∧ Aside0 (Mem .u64 w' w.heap.size 42 l) ∧ Aside0 (Mem .u64 w' (w.heap.size + 1) 42 zst) ∧ Aside0 (Mem .u64 w' (w.heap.size + 2) 42 (rmoveTo l (5 * x + j))) ∧ Aside0 (Below w.heap.size w w'))
      case atStart => exact ⟨0, by omega, rfl, M1, M2, M3, HB⟩
      case round =>
        clear M1 M2 M3 HB
        obtain ⟨y, hy5, rfl, M1, M2, M3, HB⟩ := hrel
        cases gk with
        | zero =>
          obtain rfl : y = 5 := by omega
          go_wp2
          go_roundg k1
          case measure => omega
          case rel => exact ⟨x + 1, by have := HX.out; omega, by go_num, M1, M2, ⟨by rw [show 5 * (x + 1) = 5 * x + 5 from by omega]; exact M3.out⟩, HB⟩
        | succ k2 =>
          have hyl : y < 5 := by omega
          have HY := Aside0.mk hy5
          clear hy5
          have hv : rmoveTo l (5 * x + (y + 1)) = (rmoveTo l (5 * x + y)).set (y + 5 * ((2 * x + 3 * y) % 5)) (rotI (l.getD (x + 5 * y) 0) (turnN x y)) := by
            show (rmoveTo l (5 * x + y)).set ((5 * x + y) % 5 + 5 * ((2 * ((5 * x + y) / 5) + 3 * ((5 * x + y) % 5)) % 5)) (rotI (l.getD ((5 * x + y) / 5 + 5 * ((5 * x + y) % 5)) 0) (turnN ((5 * x + y) / 5) ((5 * x + y) % 5))) = _
            rw [show (5 * x + y) / 5 = x by omega, show (5 * x + y) % 5 = y by omega]
          have HV := Aside0.mk hv
          obtain ⟨x2, hx2⟩ : ∃ q : Nat, q = 2 * x := ⟨_, rfl⟩
          obtain ⟨y3, hy3⟩ : ∃ q : Nat, q = 3 * y := ⟨_, rfl⟩
          obtain ⟨s, hs⟩ : ∃ q : Nat, q = x2 + y3 := ⟨_, rfl⟩
          obtain ⟨t, ht⟩ : ∃ q : Nat, q = s % 5 := ⟨_, rfl⟩
          obtain ⟨t5, ht5⟩ : ∃ q : Nat, q = 5 * t := ⟨_, rfl⟩
          obtain ⟨d, hd⟩ : ∃ q : Nat, q = y + t5 := ⟨_, rfl⟩
          obtain ⟨y5, hy5⟩ : ∃ q : Nat, q = 5 * y := ⟨_, rfl⟩
          obtain ⟨c, hc⟩ : ∃ q : Nat, q = x + y5 := ⟨_, rfl⟩
          have hd' : y + 5 * ((2 * x + 3 * y) % 5) = d := by rw [hd, ht5, ht, hs, hx2, hy3]
          have hc' : x + 5 * y = c := by rw [hc, hy5]
          rw [hd', hc'] at HV
          clear hd' hc' hv
          have f1 : IntKind.i64.wrap (2 * (x : Int)) = (x2 : Int) := by rw [IntKind.wrap_i64]; omega
          have f2 : IntKind.i64.wrap (3 * (y : Int)) = (y3 : Int) := by rw [IntKind.wrap_i64]; omega
          have f3 : IntKind.i64.wrap ((x2 : Int) + (y3 : Int)) = (s : Int) := by rw [IntKind.wrap_i64]; omega
          have f4 : Int.tmod (s : Int) 5 = (t : Int) := by rw [Int.tmod_eq_emod_of_nonneg (by omega)]; omega
          have f5 : IntKind.i64.wrap (5 * (t : Int)) = (t5 : Int) := by rw [IntKind.wrap_i64]; omega
          have f6 : IntKind.i64.wrap ((y : Int) + (t5 : Int)) = (d : Int) := by rw [IntKind.wrap_i64]; omega
          have f7 : IntKind.i64.wrap (5 * (y : Int)) = (y5 : Int) := by rw [IntKind.wrap_i64]; omega
          have f8 : IntKind.i64.wrap ((x : Int) + (y5 : Int)) = (c : Int) := by rw [IntKind.wrap_i64]; omega
          have ld : d < 25 := by omega
          have lc : c < 25 := by omega
          have gd : (d : Int) < 25 := by omega
          have gc : (c : Int) < 25 := by omega
          clear hx2 hy3 hs ht ht5 hd hy5 hc
          have hx := M1.out.cell c (by rw [HL.out]; exact lc)
          have hf := M3.out.free d
          have hx3 := M3.out.cell d (by rw [rmoveTo_length]; exact ld)
          have C2 := Aside0.mk (rturn_c x y hxl hyl)
          have C3 := Aside0.mk (rrot_c (l.getD c 0) (turnN x y) (words_getD hw c))
          generalize rotI (l.getD c 0) (turnN x y) = R at *
          generalize l.getD c 0 = z at *
          generalize turnN x y = tn at *
          go_wp2
          refine start_ (n := 21) (S := fun w' => w'.cell? ⟨w.heap.size, c, none⟩ = some (.int .u64 z)) (ds := [20]) #[false, false, false, false, false, false, false, false, false, false, false, false, false, false, false, false, false, false, false, false, false] (by kernel_rfl) rfl rfl (hx) (fun hHeld => ?_)
          refine pure_ (i := 0) (N := some 15) (v := ?_) (a' := ?_) #[true, false, false, false, false, false, false, false, false, false, false, false, false, false, false, false, false, false, false, false, false] rfl rfl (by kernel_rfl) (fun _ _ _ h => h) (Or.inl ⟨by rfl, ?_⟩) ?_ ?_
          rotate_left
          · intro w'
            go_simp
            with_reducible rfl
          rotate_left
          · simp only [Act.put, List.setIfInBounds_toArray, List.set_cons_zero, List.set_cons_succ, i64_w, i32_w]
            rfl
          refine pure_ (i := 1) (N := some 16) (v := ?_) (a' := ?_) #[true, true, false, false, false, false, false, false, false, false, false, false, false, false, false, false, false, false, false, false, false] rfl rfl (by kernel_rfl) (fun _ _ _ h => h) (Or.inl ⟨by rfl, ?_⟩) ?_ ?_
          rotate_left
          · intro w'
            go_simp
            with_reducible rfl
          rotate_left
          · simp only [Act.put, List.setIfInBounds_toArray, List.set_cons_zero, List.set_cons_succ, i64_w, i32_w]
            rfl
          refine pure_ (i := 2) (N := some 17) (v := ?_) (a' := ?_) #[true, true, true, false, false, false, false, false, false, false, false, false, false, false, false, false, false, false, false, false, false] rfl rfl (by kernel_rfl) (fun _ _ _ h => h) (Or.inl ⟨by rfl, ?_⟩) ?_ ?_
          rotate_left
          · intro w'
            go_simp
            with_reducible rfl
          rotate_left
          · simp only [Act.put, List.setIfInBounds_toArray, List.set_cons_zero, List.set_cons_succ, i64_w, i32_w]
            rfl
          refine pure_ (i := 3) (N := some 18) (v := ?_) (a' := ?_) #[true, true, true, true, false, false, false, false, false, false, false, false, false, false, false, false, false, false, false, false, false] rfl rfl (by kernel_rfl) (fun _ _ _ h => h) (Or.inl ⟨by rfl, ?_⟩) ?_ ?_
          rotate_left
          · intro w'
            go_simp
            with_reducible rfl
          rotate_left
          · simp only [Act.put, List.setIfInBounds_toArray, List.set_cons_zero, List.set_cons_succ, i64_w, i32_w]
            rfl
          refine pure_ (i := 4) (N := some 19) (v := ?_) (a' := ?_) #[true, true, true, true, true, false, false, false, false, false, false, false, false, false, false, false, false, false, false, false, false] rfl rfl (by kernel_rfl) (fun _ _ _ h => h) (Or.inl ⟨by rfl, ?_⟩) ?_ ?_
          rotate_left
          · intro w'
            go_simp
            with_reducible rfl
          rotate_left
          · simp only [Act.put, List.setIfInBounds_toArray, List.set_cons_zero, List.set_cons_succ, i64_w, i32_w]
            rfl
          refine pure_ (i := 5) (N := some 20) (v := ?_) (a' := ?_) #[true, true, true, true, true, true, false, false, false, false, false, false, false, false, false, false, false, false, false, false, false] rfl rfl (by kernel_rfl) (fun _ _ _ h => h) (Or.inl ⟨by rfl, ?_⟩) ?_ ?_
          rotate_left
          · intro w'
            go_simp
            with_reducible rfl
          rotate_left
          · simp only [Act.put, List.setIfInBounds_toArray, List.set_cons_zero, List.set_cons_succ, i64_w, i32_w]
            rfl
          refine pure_ (i := 6) (N := some 21) (v := ?_) (a' := ?_) #[true, true, true, true, true, true, true, false, false, false, false, false, false, false, false, false, false, false, false, false, false] rfl rfl (by kernel_rfl) (fun _ _ _ h => h) (Or.inl ⟨by rfl, ?_⟩) ?_ ?_
          rotate_left
          · intro w'
            go_simp
            with_reducible rfl
          rotate_left
          · simp only [Act.put, List.setIfInBounds_toArray, List.set_cons_zero, List.set_cons_succ, i64_w, i32_w]
            rfl
          refine pure_ (i := 7) (N := some 22) (v := ?_) (a' := ?_) #[true, true, true, true, true, true, true, true, false, false, false, false, false, false, false, false, false, false, false, false, false] rfl rfl (by kernel_rfl) (fun _ _ _ h => h) (Or.inl ⟨by rfl, ?_⟩) ?_ ?_
          rotate_left
          · intro w'
            go_simp
            with_reducible rfl
          rotate_left
          · simp only [Act.put, List.setIfInBounds_toArray, List.set_cons_zero, List.set_cons_succ, i64_w, i32_w]
            rfl
          refine pure_ (i := 8) (N := some 23) (v := ?_) (a' := ?_) #[true, true, true, true, true, true, true, true, true, false, false, false, false, false, false, false, false, false, false, false, false] rfl rfl (by kernel_rfl) (fun _ _ _ h => h) (Or.inl ⟨by rfl, ?_⟩) ?_ ?_
          rotate_left
          · intro w'
            go_simp
            with_reducible rfl
          rotate_left
          · simp only [Act.put, List.setIfInBounds_toArray, List.set_cons_zero, List.set_cons_succ, i64_w, i32_w]
            rfl
          refine pure_ (i := 9) (N := some 24) (v := ?_) (a' := ?_) #[true, true, true, true, true, true, true, true, true, true, false, false, false, false, false, false, false, false, false, false, false] rfl rfl (by kernel_rfl) (fun _ _ _ h => h) (Or.inl ⟨by rfl, ?_⟩) ?_ ?_
          rotate_left
          · intro w'
            go_simp
            with_reducible rfl
          rotate_left
          · simp only [Act.put, List.setIfInBounds_toArray, List.set_cons_zero, List.set_cons_succ, i64_w, i32_w]
            rfl
          refine pure_ (i := 10) (N := some 25) (v := ?_) (a' := ?_) #[true, true, true, true, true, true, true, true, true, true, true, false, false, false, false, false, false, false, false, false, false] rfl rfl (by kernel_rfl) (fun _ _ _ h => h) (Or.inl ⟨by rfl, ?_⟩) ?_ ?_
          rotate_left
          · intro w'
            go_simp
            with_reducible rfl
          rotate_left
          · simp only [Act.put, List.setIfInBounds_toArray, List.set_cons_zero, List.set_cons_succ, i64_w, i32_w]
            rfl
          refine pure_ (i := 11) (N := some 26) (v := ?_) (a' := ?_) #[true, true, true, true, true, true, true, true, true, true, true, true, false, false, false, false, false, false, false, false, false] rfl rfl (by kernel_rfl) (fun _ _ _ h => h) (Or.inl ⟨by rfl, ?_⟩) ?_ ?_
          rotate_left
          · intro w'
            go_simp
            with_reducible rfl
          rotate_left
          · simp only [Act.put, List.setIfInBounds_toArray, List.set_cons_zero, List.set_cons_succ, i64_w, i32_w]
            rfl
          refine pure_ (i := 12) (N := some 27) (v := ?_) (a' := ?_) #[true, true, true, true, true, true, true, true, true, true, true, true, true, false, false, false, false, false, false, false, false] rfl rfl (by kernel_rfl) (fun _ _ _ h => h) (Or.inl ⟨by rfl, ?_⟩) ?_ ?_
          rotate_left
          · intro w'
            go_simp
            with_reducible rfl
          rotate_left
          · simp only [Act.put, List.setIfInBounds_toArray, List.set_cons_zero, List.set_cons_succ, i64_w, i32_w]
            rfl
          refine pure_ (i := 13) (N := some 28) (v := ?_) (a' := ?_) #[true, true, true, true, true, true, true, true, true, true, true, true, true, true, false, false, false, false, false, false, false] rfl rfl (by kernel_rfl) (fun _ _ _ h => h) (Or.inl ⟨by rfl, ?_⟩) ?_ ?_
          rotate_left
          · intro w'
            go_simp
            with_reducible rfl
          rotate_left
          · simp only [Act.put, List.setIfInBounds_toArray, List.set_cons_zero, List.set_cons_succ, i64_w, i32_w]
            rfl
          refine pure_ (i := 15) (N := some 30) (v := ?_) (a' := ?_) #[true, true, true, true, true, true, true, true, true, true, true, true, true, true, false, true, false, false, false, false, false] rfl rfl (by kernel_rfl) (fun _ _ _ h => h) (Or.inl ⟨by rfl, ?_⟩) ?_ ?_
          rotate_left
          · intro w'
            go_simp
            with_reducible rfl
          rotate_left
          · simp only [Act.put, List.setIfInBounds_toArray, List.set_cons_zero, List.set_cons_succ, i64_w, i32_w]
            rfl
          refine pure_ (i := 16) (N := some 31) (v := ?_) (a' := ?_) #[true, true, true, true, true, true, true, true, true, true, true, true, true, true, false, true, true, false, false, false, false] rfl rfl (by kernel_rfl) (fun _ _ _ h => h) (Or.inl ⟨by rfl, ?_⟩) ?_ ?_
          rotate_left
          · intro w'
            go_simp
            with_reducible rfl
          rotate_left
          · simp only [Act.put, List.setIfInBounds_toArray, List.set_cons_zero, List.set_cons_succ, i64_w, i32_w]
            rfl
          refine take_ (i := 14) (N := some 29) (v := ?_) (a' := ?_) #[true, true, true, true, true, true, true, true, true, true, true, true, true, true, true, true, true, false, false, false, false] rfl rfl (by kernel_rfl) (fun _ _ _ h => h) (Or.inl ⟨by rfl, ?_⟩) hHeld ?_ ?_
          rotate_left
          · intro w' s0
            go_simp
            with_reducible rfl
          rotate_left
          · simp only [Act.put, List.setIfInBounds_toArray, List.set_cons_zero, List.set_cons_succ, i64_w, i32_w]
            rfl
          refine one_ (i := 17) (N := some 32) #[true, true, true, true, true, true, true, true, true, true, true, true, true, true, true, true, true, true, false, false, false] rfl rfl (by kernel_rfl) (by decide) (fun K hK => ?_)
          refine goes_ Try.func31 (by kernel_rfl) rfl #[.int .i64 x, .int .i64 y] (by rfl) rfl rfl (by simp only [List.map_toArray, List.map_cons, List.map_nil]; rfl) ?_
          with_reducible refine (C2.out.q _).mono ?_
          rintro e w3 ⟨rfl, ⟨⟨n2, rfl⟩⟩⟩
          refine ⟨_, rfl, ?_⟩
          refine hK.out _ _ (hHeld) (fun hHeld => ?_)
          clear hK K
          refine norm_ (a' := ?_) ?_ ?_
          rotate_left
          · show Act.put _ (some 32) _ = _
            simp only [Act.put, List.setIfInBounds_toArray, List.set_cons_zero, List.set_cons_succ, i64_w, i32_w]
            rfl
          refine one_ (i := 18) (N := some 33) #[true, true, true, true, true, true, true, true, true, true, true, true, true, true, true, true, true, true, true, false, false] rfl rfl (by kernel_rfl) (by decide) (fun K hK => ?_)
          refine goes_ Try.func64 (by kernel_rfl) rfl #[.int .u64 z, .int .i64 tn] (by rfl) rfl rfl (by simp only [List.map_toArray, List.map_cons, List.map_nil]; rfl) ?_
          with_reducible refine (C3.out.q _).mono ?_
          rintro e w3 ⟨rfl, ⟨⟨n3, rfl⟩⟩⟩
          refine ⟨_, rfl, ?_⟩
          refine hK.out _ _ (hHeld) (fun hHeld => ?_)
          clear hK K
          refine norm_ (a' := ?_) ?_ ?_
          rotate_left
          · show Act.put _ (some 33) _ = _
            simp only [Act.put, List.setIfInBounds_toArray, List.set_cons_zero, List.set_cons_succ, i64_w, i32_w]
            rfl
          refine pure_ (i := 19) (N := some 34) (v := ?_) (a' := ?_) #[true, true, true, true, true, true, true, true, true, true, true, true, true, true, true, true, true, true, true, true, false] rfl rfl (by kernel_rfl) (fun _ _ _ h => h) (Or.inl ⟨by rfl, ?_⟩) ?_ ?_
          rotate_left
          · intro w'
            go_simp
            with_reducible rfl
          rotate_left
          · simp only [Act.put, List.setIfInBounds_toArray, List.set_cons_zero, List.set_cons_succ, i64_w, i32_w]
            rfl
          refine last_ (i := 20) (N := none) #[true, true, true, true, true, true, true, true, true, true, true, true, true, true, true, true, true, true, true, true, true] rfl rfl (by kernel_rfl) (by decide) (fun K hK => ?_)
          refine skip_ (w1 := ?_) (by rfl) rfl ?_ ?_
          rotate_left
          · go_simp
            rfl
          refine hK.out _ _ ?_
          clear hK K
          refine done_ (by kernel_rfl) ?_
          clear f1 f2 f3 f4 f5 f6 f7 f8
          go_wp2
          go_roundg k2
          case measure => omega
          case rel => exact ⟨y + 1, by have := HY.out; omega, by go_num, ⟨Mem.other (Mem.drewN M1.out _) (g' := w.heap.size + 2) (by omega) _ _⟩, ⟨Mem.other (Mem.drewN M2.out _) (g' := w.heap.size + 2) (by omega) _ _⟩, ⟨by rw [HV.out]; exact Mem.set (Mem.drewN M3.out _) _ _⟩, ⟨below_set (pw_below_drewN HB.out _) (by omega)⟩⟩
end Go.Proofs.Ytdbcgjclnfhdfaa.Keccak
