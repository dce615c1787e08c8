/-
  reduce, Rank and Inv of mat, walked.
-/
import Derived.Test.YtphdlidaigalkaaMatT
namespace Go.Proofs.Ytphdlidaigalkaa.Mat
open Go.RowKit Go.Proofs.YtphdlidaigalkaaW.PrintWords Go.Proofs.YtphdlidaigalkaaW.PrintLast Go.Proofs.YtphdlidaigalkaaW.PrintMore Byte Sl Arr Mem Gives ArrEq
set_option linter.unusedVariables false
set_option linter.unusedSimpArgs false
set_option maxHeartbeats 4000000
set_option maxRecDepth 100000
theorem cell_yields {o : Oper} {a : Act} {w : World} {x y : Operand} {t : TypeId} {g j : Nat} {l : List Int} {v : Int} (h : Mem .u8 w g t l) (hj : j < l.length) (ho : o.op = .store 5 x y) (hx : a.eval x = .pointer (some ⟨g, j, none⟩)) (hy : a.eval y = .int .u8 v) : (execOp a.eval o).run Try.prog w = .ok .skip (w.setCell ⟨g, j, none⟩ (.int .u8 v)) := by
  have hc := h.cell j hj
  have hf := h.free j
  unfold execOp
  rw [ho]
  simp only [hx, hy]
  go_simp
theorem results_cct {P : Program} {fn : Func} {p p' u : Tmp} {ty ty' : TypeId} (h : fn.results = #[.cell p ty, .cell p' ty', .tmp u]) (tmps : Array Value) (w : World) (g g' : Nat) (t t' : TypeId) (cs cs' : Array Value) (fr fr' : Nat × Nat) (d d' : TypeDesc)
    (hp : tmps.getD p undef = .pointer (some ⟨g, 0, none⟩)) (hg : w.heap[g]? = some (.cells cs t fr))
    (hu : P.underlying ty = some d) (hd : (match d with | .struct _ | .array _ _ => true | _ => false) = true) (hi : (P.info? ty).map (·.size) = some cs.size)
    (hp' : tmps.getD p' undef = .pointer (some ⟨g', 0, none⟩)) (hg' : w.heap[g']? = some (.cells cs' t' fr'))
    (hu' : P.underlying ty' = some d') (hd' : (match d' with | .struct _ | .array _ _ => true | _ => false) = true) (hi' : (P.info? ty').map (·.size) = some cs'.size) :
    (results fn tmps).run P w = .ok (.tuple #[.agg cs, .agg cs', tmps.getD u undef]) w := by
  have h1 : tmps[p]?.getD undef = .pointer (some ⟨g, 0, none⟩) := by simpa using hp
  have h2 : tmps[p']?.getD undef = .pointer (some ⟨g', 0, none⟩) := by simpa using hp'
  simp [results, h, h1, h2, asAddr, run_loadVar_row w g t ty cs fr d hg hu hd hi, run_loadVar_row w g' t' ty' cs' fr' d' hg' hu' hd' hi']
theorem reduce_c (f : Rows) (w : World) : Calls Try.prog 135 #[matV f] w fun e w' => ∃ m wi done, e = .returned (.tuple #[matV m, matV wi, .int .i64 (done : Nat)]) ∧ Red f m wi done 8 ∧ Below w.heap.size w w' := by
  rw [matV_eq]
  have M1 := Aside0.mk (Mem.alloc (Mem.alloc (Mem.new .u8 w 67 (cells8 f)) (.cells (cellsOf .u8 (cells8 zrow)) 67)) (.cells (cellsOf .u8 (cells8 zrow)) 67))
  have M2 := Aside0.mk (Mem.alloc (Mem.new2 .u8 w (.cells (cellsOf .u8 (cells8 f)) 67) 67 (cells8 zrow)) (.cells (cellsOf .u8 (cells8 zrow)) 67))
  have M3 := Aside0.mk (Mem.new3 .u8 w (.cells (cellsOf .u8 (cells8 f)) 67) (.cells (cellsOf .u8 (cells8 zrow)) 67) 67 (cells8 zrow))
  have HB := Aside0.mk (below_alloc (below_alloc (below_alloc (Below.refl w.heap.size w) (.cells (cellsOf .u8 (cells8 f)) 67)) (.cells (cellsOf .u8 (cells8 zrow)) 67)) (.cells (cellsOf .u8 (cells8 zrow)) 67))
  have HC := Aside0.mk one_c
  rw [matV_eq] at HC
  go_enter Try.func135, Try.ntmps135
  go_wp2_with (first
    | (go_at_call 136; (with_reducible refine (HC.out.q _).mono ?_); rintro e w1 ⟨rfl, hb1⟩; have M1 := Aside0.mk (Mem.below M1.out hb1); have M2 := Aside0.mk (Mem.below M2.out hb1); have M3 := Aside0.mk (Mem.below M3.out hb1); have HB := Aside0.mk (below_step HB.out hb1); have N1 := Aside0.mk (Mem.alloc M1.out (.cells (cellsOf .u8 (cells8 zrow)) 67)); have N2 := Aside0.mk (Mem.alloc M2.out (.cells (cellsOf .u8 (cells8 zrow)) 67)); have N3 := Aside0.mk (Mem.alloc M3.out (.cells (cellsOf .u8 (cells8 zrow)) 67)); have N5 := Aside0.mk (Mem.new .u8 w1 67 (cells8 zrow)); have NB := Aside0.mk (below_alloc HB.out (.cells (cellsOf .u8 (cells8 zrow)) 67)); have hg5 := M3.out.lt; have HS := Aside0.mk HB.out.size)
    | ((with_reducible refine gate_store (t := 67) (p := 5) rfl ?_); refine Mem.store (l' := cells8 oneF) N5.out rfl 67 (.tmp 5) (.tmp 9) rfl rfl rfl (by rw [cells8_length]; exact info_mat) (by simp only [cells8_length]) ?_))
  have P1 := Aside0.mk (Mem.row N1.out (g' := w1.heap.size) (by omega) (cellsOf .u8 (cells8 oneF)))
  have P2 := Aside0.mk (Mem.row N2.out (g' := w1.heap.size) (by omega) (cellsOf .u8 (cells8 oneF)))
  have P3 := Aside0.mk (Mem.row N3.out (g' := w1.heap.size) (by omega) (cellsOf .u8 (cells8 oneF)))
  have P5 := Aside0.mk (Mem.put N5.out (cells8 oneF))
  have PB := Aside0.mk (below_setRow NB.out (g := w1.heap.size) HS.out (cellsOf .u8 (cells8 oneF)))
  have HG := Aside0.mk hg5
  clear M1 M2 M3 HB N1 N2 N3 N5 NB hg5
  generalize hg : w1.heap.size = g5 at *
  clear hg
  have R0 := Aside0.mk (Red.start f)
  go_loopg [6, 10] 8 (fun kq dv cv w' => ∃ (done col : Nat) (m wi : Rows), col + kq = 8 ∧ dv = .int .i64 done ∧ cv = .int .i64 col ∧ Aside0 (Red f m wi done col) ∧ Aside0 (Mem .u8 w' w.heap.size 67 (cells8 m)) ∧ Aside0 (Mem .u8 w' (w.heap.size + 1) 67 (cells8 zrow)) ∧ Aside0 (Mem .u8 w' (w.heap.size + 2) 67 (cells8 zrow)) ∧ Aside0 (Mem .u8 w' g5 67 (cells8 wi)) ∧ Aside0 (Below w.heap.size w w'))
  case atStart => exact ⟨0, 0, f, oneF, by omega, rfl, rfl, R0, P1, P2, P3, P5, PB⟩
  case round =>
    clear P1 P2 P3 P5 PB R0
    obtain ⟨done, col, m, wi, hcol, rfl, rfl, HR, M1, M2, M3, M5, HB⟩ := hrel
    cases gk with
    | zero =>
      obtain rfl : col = 8 := by omega
      have hl0 := mem_loads (Mem.drew M1.out)
      have hl1 := mem_loads (Mem.drew M5.out)
      have hg5 := HG.out
      have hsz := HS.out
      go_wp2
      refine start_ (n := 6) (S := fun w' => (loadVar 67 ⟨w.heap.size, 0, none⟩).run Try.prog w' = .ok (.agg (cellsOf .u8 (cells8 m))) w' ∧ (loadVar 67 ⟨g5, 0, none⟩).run Try.prog w' = .ok (.agg (cellsOf .u8 (cells8 wi))) w') (ds := [4]) #[false, false, false, false, false, false] (by kernel_rfl) rfl rfl ⟨hl0, hl1⟩ (fun hHeld => ?_)
      refine pure_ (i := 2) (N := some 58) (v := ?_) (a' := ?_) #[false, false, true, false, false, false] rfl rfl (by kernel_rfl) (fun _ _ _ h => h) (Or.inl ⟨by rfl, ?_⟩) ?_ ?_
      rotate_left
      · intro w'
        go_simp
        with_reducible rfl
      rotate_left
      · simp only [Act.put, List.setIfInBounds_toArray, List.set_cons_zero, List.set_cons_succ, i64_w, i32_w]
        rfl
      refine take_ (i := 0) (N := some 56) (v := ?_) (a' := ?_) #[true, false, true, false, false, false] rfl rfl (by kernel_rfl) (fun _ _ _ h => h) (Or.inl ⟨by rfl, ?_⟩) hHeld ?_ ?_
      rotate_left
      · rintro w' ⟨s0, s1⟩
        refine (load_yields rfl rfl s0).trans ?_
        with_reducible rfl
      rotate_left
      · simp only [Act.put, List.setIfInBounds_toArray, List.set_cons_zero, List.set_cons_succ, i64_w, i32_w]
        rfl
      refine take_ (i := 1) (N := some 57) (v := ?_) (a' := ?_) #[true, true, true, false, false, false] rfl rfl (by kernel_rfl) (fun _ _ _ h => h) (Or.inl ⟨by rfl, ?_⟩) hHeld ?_ ?_
      rotate_left
      · rintro w' ⟨s0, s1⟩
        refine (load_yields rfl rfl s1).trans ?_
        with_reducible rfl
      rotate_left
      · simp only [Act.put, List.setIfInBounds_toArray, List.set_cons_zero, List.set_cons_succ, i64_w, i32_w]
        rfl
      refine one_ (i := 3) (N := none) #[true, true, true, true, false, false] rfl rfl (by kernel_rfl) (by decide) (fun K hK => ?_)
      refine skip_ (w1 := ?_) (by rfl) rfl ?_ ?_
      rotate_left
      · refine mat_store_yields (f2 := m) (x := .tmp 2) (y := .tmp 56) (Mem.drew M2.out) ?_ ?_ ?_ <;> rfl
      have M1 := Aside0.mk (Mem.drew M1.out)
      have M2 := Aside0.mk (Mem.drew M2.out)
      have M3 := Aside0.mk (Mem.drew M3.out)
      have M5 := Aside0.mk (Mem.drew M5.out)
      have HB := Aside0.mk (below_drew HB.out)
      have M1 := Aside0.mk (Mem.row M1.out (g' := w.heap.size + 1) (by omega) (cellsOf .u8 (cells8 m)))
      have M3 := Aside0.mk (Mem.row M3.out (g' := w.heap.size + 1) (by omega) (cellsOf .u8 (cells8 m)))
      have M5 := Aside0.mk (Mem.row M5.out (g' := w.heap.size + 1) (by omega) (cellsOf .u8 (cells8 m)))
      have M2 := Aside0.mk (Mem.put M2.out (cells8 m))
      have HB := Aside0.mk (below_setRow HB.out (g := w.heap.size + 1) (by omega) (cellsOf .u8 (cells8 m)))
      refine hK.out _ _ ⟨(mem_loads M1.out), (mem_loads M5.out)⟩ (fun hHeld => ?_)
      clear hK K
      refine last_ (i := 4) (N := none) #[true, true, true, true, true, false] rfl rfl (by kernel_rfl) (by decide) (fun K hK => ?_)
      refine skip_ (w1 := ?_) (by rfl) rfl ?_ ?_
      rotate_left
      · refine mat_store_yields (f2 := wi) (x := .tmp 3) (y := .tmp 57) M3.out ?_ ?_ ?_ <;> rfl
      have M1 := Aside0.mk (Mem.row M1.out (g' := w.heap.size + 2) (by omega) (cellsOf .u8 (cells8 wi)))
      have M2 := Aside0.mk (Mem.row M2.out (g' := w.heap.size + 2) (by omega) (cellsOf .u8 (cells8 wi)))
      have M5 := Aside0.mk (Mem.row M5.out (g' := w.heap.size + 2) (by omega) (cellsOf .u8 (cells8 wi)))
      have M3 := Aside0.mk (Mem.put M3.out (cells8 wi))
      have HB := Aside0.mk (below_setRow HB.out (g := w.heap.size + 2) (by omega) (cellsOf .u8 (cells8 wi)))
      refine hK.out _ _ ?_
      clear hK K
      refine pure_ (i := 5) (N := some 4) (v := ?_) (a' := ?_) #[true, true, true, true, true, true] rfl rfl (by kernel_rfl) (fun _ _ _ h => h) (Or.inl ⟨by rfl, ?_⟩) ?_ ?_
      rotate_left
      · intro w'
        go_simp
        with_reducible rfl
      rotate_left
      · simp only [Act.put, List.setIfInBounds_toArray, List.set_cons_zero, List.set_cons_succ, i64_w, i32_w]
        rfl
      refine done_ (by kernel_rfl) ?_
      go_wp2
      refine bodyPost_ret (results_cct rfl _ _ _ _ _ _ _ _ _ _ _ _ rfl M2.out Try.underlying67 rfl (by rw [cellsOf_size, cells8_length]; exact info_mat) rfl M3.out Try.underlying67 rfl (by rw [cellsOf_size, cells8_length]; exact info_mat)) rfl ⟨m, wi, done, rfl, HR.out, HB.out⟩
    | succ k1 =>
      have hcl : col < 8 := by omega
      have HCOL := Aside0.mk hcol
      clear hcol
      have hc1 : (col : Int) < 8 := by omega
      have hc2 : (col : Int) ≤ 8 := by omega
      have hc3 : (0 : Int) ≤ (col : Int) := by omega
      have hd8 := HR.out.le8
      have hdc := HR.out.le
      have hg5 := HG.out
      have hsz := HS.out
      go_wp2
      go_loopg [6, 8] (8 - done) (fun kq dv iv w' => ∃ i : Nat, i + kq = 8 ∧ done ≤ i ∧ dv = .int .i64 done ∧ iv = .int .i64 i ∧ Aside0 (∀ k, done ≤ k → k < i → (m k).getLsbD col = false) ∧ Aside0 (Mem .u8 w' w.heap.size 67 (cells8 m)) ∧ Aside0 (Mem .u8 w' (w.heap.size + 1) 67 (cells8 zrow)) ∧ Aside0 (Mem .u8 w' (w.heap.size + 2) 67 (cells8 zrow)) ∧ Aside0 (Mem .u8 w' g5 67 (cells8 wi)) ∧ Aside0 (Below w.heap.size w w'))
      case atStart => exact ⟨done, by omega, Nat.le_refl _, rfl, rfl, ⟨fun k h1 h2 => absurd h2 (by omega)⟩, M1, M2, M3, M5, HB⟩
      case round =>
        clear M1 M2 M3 M5 HB
        obtain ⟨i, hi, hdi, rfl, rfl, HZ, M1, M2, M3, M5, HB⟩ := hrel
        cases gk with
        | zero =>
          obtain rfl : i = 8 := by omega
          go_wp2
          go_roundg k1
          case measure => omega
          case rel => exact ⟨done, col + 1, m, wi, by have := HCOL.out; omega, rfl, by go_num, ⟨HR.out.skip HZ.out⟩, M1, M2, M3, M5, HB⟩
        | succ k2 =>
          have hil : i < 8 := by omega
          have HI := Aside0.mk hi
          clear hi
          have hi1 : (i : Int) < 8 := by omega
          have hi3 : (0 : Int) ≤ (i : Int) := by omega
          have hx := M1.out.cell i (by rw [cells8_length]; exact hil)
          rw [cells8_get _ _ hil] at hx
          have hs := shr8 (m i) col
          have ha := and_one8 (m i >>> col)
          rw [shr_bit] at ha
          rcases Bool.eq_false_or_eq_true ((m i).getLsbD col) with hb | hb
          · have HRS := Aside0.mk (HR.out.step hdi hil hb hcl)
            have HSW1 := Aside0.mk (swp_cells m i done hil (by omega))
            have HSW2 := Aside0.mk (swp_cells wi i done hil (by omega))
            have HCL := Aside0.mk (clear_c (swp m i done) (swp wi i done) done col (by omega) hcl)
            rw [matV_eq, matV_eq, matV_eq, matV_eq] at HCL
            rw [hb] at ha
            have ha1 : Go.bits .and .u8 (I8 (m i >>> col)) 1 = 1 := ha
            clear hb ha
            have hdl : done < 8 := by omega
            have hd1 : (done : Int) < 8 := by omega
            have hd3 : (0 : Int) ≤ (done : Int) := by omega
            generalize m i >>> col = s at *
            go_wp2
            have hx1 := M1.out.cell done (by rw [cells8_length]; exact hdl)
            rw [cells8_get _ _ hdl] at hx1
            have hx2 := M1.out.cell i (by rw [cells8_length]; exact hil)
            rw [cells8_get _ _ hil] at hx2
            refine start_ (n := 12) (S := fun w' => w'.cell? ⟨w.heap.size, done, none⟩ = some (.int .u8 (I8 (m done))) ∧ w'.cell? ⟨w.heap.size, i, none⟩ = some (.int .u8 (I8 (m i)))) (ds := [9, 11]) #[false, false, false, false, false, false, false, false, false, false, false, false] (by kernel_rfl) rfl rfl ⟨hx1, hx2⟩ (fun hHeld => ?_)
            refine pure_ (i := 0) (N := some 25) (v := ?_) (a' := ?_) #[true, false, false, false, false, false, false, false, false, false, false, false] rfl rfl (by kernel_rfl) (fun _ _ _ h => h) (Or.inl ⟨by rfl, ?_⟩) ?_ ?_
            rotate_left
            · intro w'
              go_simp
              with_reducible rfl
            rotate_left
            · simp only [Act.put, List.setIfInBounds_toArray, List.set_cons_zero, List.set_cons_succ, i64_w, i32_w]
              rfl
            refine pure_ (i := 1) (N := some 26) (v := ?_) (a' := ?_) #[true, true, false, false, false, false, false, false, false, false, false, false] rfl rfl (by kernel_rfl) (fun _ _ _ h => h) (Or.inl ⟨by rfl, ?_⟩) ?_ ?_
            rotate_left
            · intro w'
              go_simp
              with_reducible rfl
            rotate_left
            · simp only [Act.put, List.setIfInBounds_toArray, List.set_cons_zero, List.set_cons_succ, i64_w, i32_w]
              rfl
            refine pure_ (i := 2) (N := some 27) (v := ?_) (a' := ?_) #[true, true, true, false, false, false, false, false, false, false, false, false] rfl rfl (by kernel_rfl) (fun _ _ _ h => h) (Or.inl ⟨by rfl, ?_⟩) ?_ ?_
            rotate_left
            · intro w'
              go_simp
              with_reducible rfl
            rotate_left
            · simp only [Act.put, List.setIfInBounds_toArray, List.set_cons_zero, List.set_cons_succ, i64_w, i32_w]
              rfl
            refine pure_ (i := 3) (N := some 28) (v := ?_) (a' := ?_) #[true, true, true, true, false, false, false, false, false, false, false, false] rfl rfl (by kernel_rfl) (fun _ _ _ h => h) (Or.inl ⟨by rfl, ?_⟩) ?_ ?_
            rotate_left
            · intro w'
              go_simp
              with_reducible rfl
            rotate_left
            · simp only [Act.put, List.setIfInBounds_toArray, List.set_cons_zero, List.set_cons_succ, i64_w, i32_w]
              rfl
            refine pure_ (i := 5) (N := some 30) (v := ?_) (a' := ?_) #[true, true, true, true, false, true, false, false, false, false, false, false] rfl rfl (by kernel_rfl) (fun _ _ _ h => h) (Or.inl ⟨by rfl, ?_⟩) ?_ ?_
            rotate_left
            · intro w'
              go_simp
              with_reducible rfl
            rotate_left
            · simp only [Act.put, List.setIfInBounds_toArray, List.set_cons_zero, List.set_cons_succ, i64_w, i32_w]
              rfl
            refine pure_ (i := 6) (N := some 31) (v := ?_) (a' := ?_) #[true, true, true, true, false, true, true, false, false, false, false, false] rfl rfl (by kernel_rfl) (fun _ _ _ h => h) (Or.inl ⟨by rfl, ?_⟩) ?_ ?_
            rotate_left
            · intro w'
              go_simp
              with_reducible rfl
            rotate_left
            · simp only [Act.put, List.setIfInBounds_toArray, List.set_cons_zero, List.set_cons_succ, i64_w, i32_w]
              rfl
            refine take_ (i := 4) (N := some 29) (v := ?_) (a' := ?_) #[true, true, true, true, true, true, true, false, false, false, false, false] rfl rfl (by kernel_rfl) (fun _ _ _ h => h) (Or.inl ⟨by rfl, ?_⟩) hHeld ?_ ?_
            rotate_left
            · rintro w' ⟨s0, s1⟩
              go_simp
              with_reducible rfl
            rotate_left
            · simp only [Act.put, List.setIfInBounds_toArray, List.set_cons_zero, List.set_cons_succ, i64_w, i32_w]
              rfl
            refine take_ (i := 7) (N := some 32) (v := ?_) (a' := ?_) #[true, true, true, true, true, true, true, true, false, false, false, false] rfl rfl (by kernel_rfl) (fun _ _ _ h => h) (Or.inl ⟨by rfl, ?_⟩) hHeld ?_ ?_
            rotate_left
            · rintro w' ⟨s0, s1⟩
              go_simp
              with_reducible rfl
            rotate_left
            · simp only [Act.put, List.setIfInBounds_toArray, List.set_cons_zero, List.set_cons_succ, i64_w, i32_w]
              rfl
            refine pure_ (i := 8) (N := some 33) (v := ?_) (a' := ?_) #[true, true, true, true, true, true, true, true, true, false, false, false] rfl rfl (by kernel_rfl) (fun _ _ _ h => h) (Or.inl ⟨by rfl, ?_⟩) ?_ ?_
            rotate_left
            · intro w'
              go_simp
              with_reducible rfl
            rotate_left
            · simp only [Act.put, List.setIfInBounds_toArray, List.set_cons_zero, List.set_cons_succ, i64_w, i32_w]
              rfl
            refine last_ (i := 9) (N := none) #[true, true, true, true, true, true, true, true, true, true, false, false] rfl rfl (by kernel_rfl) (by decide) (fun K hK => ?_)
            refine skip_ (w1 := ?_) (by rfl) rfl ?_ ?_
            rotate_left
            · refine cell_yields (x := .tmp 33) (y := .tmp 29) (j := i) (v := I8 (m done)) (Mem.drew M1.out) (by simp only [List.length_set, cells8_length]; omega) ?_ ?_ ?_ <;> rfl
            have M2 := Aside0.mk (Mem.drew M2.out)
            have M3 := Aside0.mk (Mem.drew M3.out)
            have M5 := Aside0.mk (Mem.drew M5.out)
            have M1 := Aside0.mk (Mem.drew M1.out)
            have HB := Aside0.mk (below_drew HB.out)
            have M2 := Aside0.mk (Mem.other M2.out (g' := w.heap.size) (by omega) i (.int .u8 (I8 (m done))))
            have M3 := Aside0.mk (Mem.other M3.out (g' := w.heap.size) (by omega) i (.int .u8 (I8 (m done))))
            have M5 := Aside0.mk (Mem.other M5.out (g' := w.heap.size) (by omega) i (.int .u8 (I8 (m done))))
            have M1 := Aside0.mk (Mem.set M1.out i (I8 (m done)))
            have HB := Aside0.mk (below_set (g := w.heap.size) (j := i) (v := .int .u8 (I8 (m done))) HB.out (by omega))
            refine hK.out _ _ ?_
            clear hK K
            refine pure_ (i := 10) (N := some 34) (v := ?_) (a' := ?_) #[true, true, true, true, true, true, true, true, true, true, true, false] rfl rfl (by kernel_rfl) (fun _ _ _ h => h) (Or.inl ⟨by rfl, ?_⟩) ?_ ?_
            rotate_left
            · intro w'
              go_simp
              with_reducible rfl
            rotate_left
            · simp only [Act.put, List.setIfInBounds_toArray, List.set_cons_zero, List.set_cons_succ, i64_w, i32_w]
              rfl
            refine last_ (i := 11) (N := none) #[true, true, true, true, true, true, true, true, true, true, true, true] rfl rfl (by kernel_rfl) (by decide) (fun K hK => ?_)
            refine skip_ (w1 := ?_) (by rfl) rfl ?_ ?_
            rotate_left
            · refine cell_yields (x := .tmp 34) (y := .tmp 32) (j := done) (v := I8 (m i)) M1.out (by simp only [List.length_set, cells8_length]; omega) ?_ ?_ ?_ <;> rfl
            have M2 := Aside0.mk (Mem.other M2.out (g' := w.heap.size) (by omega) done (.int .u8 (I8 (m i))))
            have M3 := Aside0.mk (Mem.other M3.out (g' := w.heap.size) (by omega) done (.int .u8 (I8 (m i))))
            have M5 := Aside0.mk (Mem.other M5.out (g' := w.heap.size) (by omega) done (.int .u8 (I8 (m i))))
            have M1 := Aside0.mk (Mem.set M1.out done (I8 (m i)))
            have HB := Aside0.mk (below_set (g := w.heap.size) (j := done) (v := .int .u8 (I8 (m i))) HB.out (by omega))
            refine hK.out _ _ ?_
            clear hK K
            refine done_ (by kernel_rfl) ?_
            rw [HSW1.out] at M1
            clear hx hx1 hx2
            go_wp2
            have hx1 := M5.out.cell done (by rw [cells8_length]; exact hdl)
            rw [cells8_get _ _ hdl] at hx1
            have hx2 := M5.out.cell i (by rw [cells8_length]; exact hil)
            rw [cells8_get _ _ hil] at hx2
            refine start_ (n := 12) (S := fun w' => w'.cell? ⟨g5, done, none⟩ = some (.int .u8 (I8 (wi done))) ∧ w'.cell? ⟨g5, i, none⟩ = some (.int .u8 (I8 (wi i)))) (ds := [9, 11]) #[false, false, false, false, false, false, false, false, false, false, false, false] (by kernel_rfl) rfl rfl ⟨hx1, hx2⟩ (fun hHeld => ?_)
            refine pure_ (i := 0) (N := some 35) (v := ?_) (a' := ?_) #[true, false, false, false, false, false, false, false, false, false, false, false] rfl rfl (by kernel_rfl) (fun _ _ _ h => h) (Or.inl ⟨by rfl, ?_⟩) ?_ ?_
            rotate_left
            · intro w'
              go_simp
              with_reducible rfl
            rotate_left
            · simp only [Act.put, List.setIfInBounds_toArray, List.set_cons_zero, List.set_cons_succ, i64_w, i32_w]
              rfl
            refine pure_ (i := 1) (N := some 36) (v := ?_) (a' := ?_) #[true, true, false, false, false, false, false, false, false, false, false, false] rfl rfl (by kernel_rfl) (fun _ _ _ h => h) (Or.inl ⟨by rfl, ?_⟩) ?_ ?_
            rotate_left
            · intro w'
              go_simp
              with_reducible rfl
            rotate_left
            · simp only [Act.put, List.setIfInBounds_toArray, List.set_cons_zero, List.set_cons_succ, i64_w, i32_w]
              rfl
            refine pure_ (i := 2) (N := some 37) (v := ?_) (a' := ?_) #[true, true, true, false, false, false, false, false, false, false, false, false] rfl rfl (by kernel_rfl) (fun _ _ _ h => h) (Or.inl ⟨by rfl, ?_⟩) ?_ ?_
            rotate_left
            · intro w'
              go_simp
              with_reducible rfl
            rotate_left
            · simp only [Act.put, List.setIfInBounds_toArray, List.set_cons_zero, List.set_cons_succ, i64_w, i32_w]
              rfl
            refine pure_ (i := 3) (N := some 38) (v := ?_) (a' := ?_) #[true, true, true, true, false, false, false, false, false, false, false, false] rfl rfl (by kernel_rfl) (fun _ _ _ h => h) (Or.inl ⟨by rfl, ?_⟩) ?_ ?_
            rotate_left
            · intro w'
              go_simp
              with_reducible rfl
            rotate_left
            · simp only [Act.put, List.setIfInBounds_toArray, List.set_cons_zero, List.set_cons_succ, i64_w, i32_w]
              rfl
            refine pure_ (i := 5) (N := some 40) (v := ?_) (a' := ?_) #[true, true, true, true, false, true, false, false, false, false, false, false] rfl rfl (by kernel_rfl) (fun _ _ _ h => h) (Or.inl ⟨by rfl, ?_⟩) ?_ ?_
            rotate_left
            · intro w'
              go_simp
              with_reducible rfl
            rotate_left
            · simp only [Act.put, List.setIfInBounds_toArray, List.set_cons_zero, List.set_cons_succ, i64_w, i32_w]
              rfl
            refine pure_ (i := 6) (N := some 41) (v := ?_) (a' := ?_) #[true, true, true, true, false, true, true, false, false, false, false, false] rfl rfl (by kernel_rfl) (fun _ _ _ h => h) (Or.inl ⟨by rfl, ?_⟩) ?_ ?_
            rotate_left
            · intro w'
              go_simp
              with_reducible rfl
            rotate_left
            · simp only [Act.put, List.setIfInBounds_toArray, List.set_cons_zero, List.set_cons_succ, i64_w, i32_w]
              rfl
            refine take_ (i := 4) (N := some 39) (v := ?_) (a' := ?_) #[true, true, true, true, true, true, true, false, false, false, false, false] rfl rfl (by kernel_rfl) (fun _ _ _ h => h) (Or.inl ⟨by rfl, ?_⟩) hHeld ?_ ?_
            rotate_left
            · rintro w' ⟨s0, s1⟩
              go_simp
              with_reducible rfl
            rotate_left
            · simp only [Act.put, List.setIfInBounds_toArray, List.set_cons_zero, List.set_cons_succ, i64_w, i32_w]
              rfl
            refine take_ (i := 7) (N := some 42) (v := ?_) (a' := ?_) #[true, true, true, true, true, true, true, true, false, false, false, false] rfl rfl (by kernel_rfl) (fun _ _ _ h => h) (Or.inl ⟨by rfl, ?_⟩) hHeld ?_ ?_
            rotate_left
            · rintro w' ⟨s0, s1⟩
              go_simp
              with_reducible rfl
            rotate_left
            · simp only [Act.put, List.setIfInBounds_toArray, List.set_cons_zero, List.set_cons_succ, i64_w, i32_w]
              rfl
            refine pure_ (i := 8) (N := some 43) (v := ?_) (a' := ?_) #[true, true, true, true, true, true, true, true, true, false, false, false] rfl rfl (by kernel_rfl) (fun _ _ _ h => h) (Or.inl ⟨by rfl, ?_⟩) ?_ ?_
            rotate_left
            · intro w'
              go_simp
              with_reducible rfl
            rotate_left
            · simp only [Act.put, List.setIfInBounds_toArray, List.set_cons_zero, List.set_cons_succ, i64_w, i32_w]
              rfl
            refine last_ (i := 9) (N := none) #[true, true, true, true, true, true, true, true, true, true, false, false] rfl rfl (by kernel_rfl) (by decide) (fun K hK => ?_)
            refine skip_ (w1 := ?_) (by rfl) rfl ?_ ?_
            rotate_left
            · refine cell_yields (x := .tmp 43) (y := .tmp 39) (j := i) (v := I8 (wi done)) (Mem.drew M5.out) (by simp only [List.length_set, cells8_length]; omega) ?_ ?_ ?_ <;> rfl
            have M1 := Aside0.mk (Mem.drew M1.out)
            have M2 := Aside0.mk (Mem.drew M2.out)
            have M3 := Aside0.mk (Mem.drew M3.out)
            have M5 := Aside0.mk (Mem.drew M5.out)
            have HB := Aside0.mk (below_drew HB.out)
            have M1 := Aside0.mk (Mem.other M1.out (g' := g5) (by omega) i (.int .u8 (I8 (wi done))))
            have M2 := Aside0.mk (Mem.other M2.out (g' := g5) (by omega) i (.int .u8 (I8 (wi done))))
            have M3 := Aside0.mk (Mem.other M3.out (g' := g5) (by omega) i (.int .u8 (I8 (wi done))))
            have M5 := Aside0.mk (Mem.set M5.out i (I8 (wi done)))
            have HB := Aside0.mk (below_set (g := g5) (j := i) (v := .int .u8 (I8 (wi done))) HB.out (by omega))
            refine hK.out _ _ ?_
            clear hK K
            refine pure_ (i := 10) (N := some 44) (v := ?_) (a' := ?_) #[true, true, true, true, true, true, true, true, true, true, true, false] rfl rfl (by kernel_rfl) (fun _ _ _ h => h) (Or.inl ⟨by rfl, ?_⟩) ?_ ?_
            rotate_left
            · intro w'
              go_simp
              with_reducible rfl
            rotate_left
            · simp only [Act.put, List.setIfInBounds_toArray, List.set_cons_zero, List.set_cons_succ, i64_w, i32_w]
              rfl
            refine last_ (i := 11) (N := none) #[true, true, true, true, true, true, true, true, true, true, true, true] rfl rfl (by kernel_rfl) (by decide) (fun K hK => ?_)
            refine skip_ (w1 := ?_) (by rfl) rfl ?_ ?_
            rotate_left
            · refine cell_yields (x := .tmp 44) (y := .tmp 42) (j := done) (v := I8 (wi i)) M5.out (by simp only [List.length_set, cells8_length]; omega) ?_ ?_ ?_ <;> rfl
            have M1 := Aside0.mk (Mem.other M1.out (g' := g5) (by omega) done (.int .u8 (I8 (wi i))))
            have M2 := Aside0.mk (Mem.other M2.out (g' := g5) (by omega) done (.int .u8 (I8 (wi i))))
            have M3 := Aside0.mk (Mem.other M3.out (g' := g5) (by omega) done (.int .u8 (I8 (wi i))))
            have M5 := Aside0.mk (Mem.set M5.out done (I8 (wi i)))
            have HB := Aside0.mk (below_set (g := g5) (j := done) (v := .int .u8 (I8 (wi i))) HB.out (by omega))
            refine hK.out _ _ ?_
            clear hK K
            refine done_ (by kernel_rfl) ?_
            rw [HSW2.out] at M5
            clear hx1 hx2
            generalize swp m i done = m1 at *
            generalize swp wi i done = wi1 at *
            generalize clrF m1 m1 done col = m2 at *
            generalize clrF m1 wi1 done col = wi2 at *
            go_wp2_with (first
              | ((with_reducible refine gate_dst (N := 46) rfl ?_); refine Mem.load M1.out rfl 67 (.tmp 1) rfl rfl Try.underlying67 (by rw [cells8_length]; exact info_mat) ?_)
              | ((with_reducible refine gate_dst (N := 47) rfl ?_); refine Mem.load M5.out rfl 67 (.tmp 5) rfl rfl Try.underlying67 (by rw [cells8_length]; exact info_mat) ?_)
              | (go_at_call 141; (with_reducible refine (HCL.out.q _).mono ?_); rintro e w2 ⟨rfl, hb2⟩; have M1 := Aside0.mk (Mem.below M1.out hb2); have M2 := Aside0.mk (Mem.below M2.out hb2); have M3 := Aside0.mk (Mem.below M3.out hb2); have M5 := Aside0.mk (Mem.below M5.out hb2); have HB := Aside0.mk (below_step HB.out hb2))
              | ((with_reducible refine gate_store (t := 67) (p := 1) rfl ?_); refine Mem.store (l' := cells8 m2) M1.out rfl 67 (.tmp 1) (.tmp 51) rfl rfl rfl (by rw [cells8_length]; exact info_mat) (by simp only [cells8_length]) ?_)
              | ((with_reducible refine gate_store (t := 67) (p := 5) rfl ?_); refine Mem.store (l' := cells8 wi2) (Mem.row M5.out (g' := w.heap.size) (by omega) (cellsOf .u8 (cells8 m2))) rfl 67 (.tmp 5) (.tmp 52) rfl rfl rfl (by rw [cells8_length]; exact info_mat) (by simp only [cells8_length]) ?_))
            go_roundg k1
            case measure => omega
            case rel => exact ⟨done + 1, col + 1, m2, wi2, by have := HCOL.out; omega, by go_num, by go_num, HRS, ⟨Mem.row (Mem.put M1.out (cells8 m2)) (by omega) _⟩, ⟨Mem.row (Mem.row M2.out (by omega) _) (by omega) _⟩, ⟨Mem.row (Mem.row M3.out (by omega) _) (by omega) _⟩, ⟨Mem.put (Mem.row M5.out (by omega) _) (cells8 wi2)⟩, ⟨below_setRow (below_setRow HB.out (by omega) _) (by omega) _⟩⟩
          · rw [hb] at ha
            have ha1 : Go.bits .and .u8 (I8 (m i >>> col)) 1 = 0 := ha
            clear ha
            have HZ := Aside0.mk (show ∀ k, done ≤ k → k < i + 1 → (m k).getLsbD col = false from fun k h1 h2 => by
              rcases Nat.lt_or_ge k i with h | h
              · exact HZ.out k h1 h
              · obtain rfl : k = i := by omega
                exact hb)
            clear hb
            generalize m i >>> col = s at *
            go_wp2
            go_roundg k2
            case measure => omega
            case rel => exact ⟨i + 1, by have := HI.out; omega, by omega, rfl, by go_num, HZ, M1, M2, M3, M5, HB⟩
end Go.Proofs.Ytphdlidaigalkaa.Mat
