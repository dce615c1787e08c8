/-
  clear of mat, walked.
-/
import Derived.Test.YtphdlidaigalkaaMatD
namespace Go.Proofs.Ytphdlidaigalkaa.Mat
open Go.RowKit Go.Proofs.YtphdlidaigalkaaW.PrintWords Go.Proofs.YtphdlidaigalkaaW.PrintLast Go.Proofs.YtphdlidaigalkaaW.PrintMore Byte Sl Arr Mem Gives ArrEq
set_option linter.unusedVariables false
set_option linter.unusedSimpArgs false
set_option maxHeartbeats 4000000
set_option maxRecDepth 100000
theorem store_yields {o : Oper} {a : Act} {w : World} {ty t : TypeId} {x y : Operand} {g : Nat} {old cells : Array Value} (ho : o.op = .store ty x y) (hx : a.eval x = .pointer (some ⟨g, 0, none⟩)) (hy : a.eval y = .agg cells) (hg : w.heap[g]? = some (.cells old t (0, 0))) (hi : (Try.prog.info? ty).map (·.size) = some cells.size)
    (hold : old.size = cells.size) (h1 : cells.all (·.oneCell') = true) : (execOp a.eval o).run Try.prog w = .ok .skip (w.setRow g cells) := by
  unfold execOp
  simp only [ho, hx, hy, Instr.storeAt, Instr.sureAddr, Sem.run_bind, Sem.run_pure, Result.andThen_ok, run_storeVar_row w g t ty old cells hg hi hold h1]
theorem mat_store_yields {o : Oper} {a : Act} {w : World} {x y : Operand} {g : Nat} {f f2 : Rows} (h : Mem .u8 w g 67 (cells8 f)) (ho : o.op = .store 67 x y) (hx : a.eval x = .pointer (some ⟨g, 0, none⟩)) (hy : a.eval y = .agg (cellsOf .u8 (cells8 f2))) : (execOp a.eval o).run Try.prog w = .ok .skip (w.setRow g (cellsOf .u8 (cells8 f2))) :=
  store_yields ho hx hy h (by rw [cellsOf_size, cells8_length]; exact info_mat) (by rw [cellsOf_size, cellsOf_size, cells8_length, cells8_length]) (by simp [cellsOf, Value.oneCell'])
def clrTo (f g : Rows) (r c j : Nat) : Rows := fun k => if k < j ∧ k ≠ r ∧ (f k).getLsbD c = true then g k ^^^ g r else g k
def clrF (f g : Rows) (r c : Nat) : Rows := fun k => if k ≠ r ∧ (f k).getLsbD c = true then g k ^^^ g r else g k
theorem clrTo_zero (f g : Rows) (r c : Nat) : cells8 (clrTo f g r c 0) = cells8 g := cells8_congr fun k _ => by simp [clrTo]
theorem clrTo_end (f g : Rows) (r c : Nat) : cells8 (clrTo f g r c 8) = cells8 (clrF f g r c) := cells8_congr fun k hk => by simp [clrTo, clrF, hk]
theorem clrTo_at (f g : Rows) (r c j : Nat) : clrTo f g r c j j = g j := by simp [clrTo]
theorem clrTo_row (f g : Rows) (r c j : Nat) : clrTo f g r c j r = g r := by simp [clrTo]
theorem clrTo_set (f g : Rows) (r c j : Nat) (hj : j < 8) (hr : j ≠ r) (hb : (f j).getLsbD c = true) : (cells8 (clrTo f g r c j)).set j (I8 (g j ^^^ g r)) = cells8 (clrTo f g r c (j + 1)) := by
  rw [cells8_set _ _ hj]
  refine put_congr fun k _ => ?_
  unfold clrTo
  by_cases h : k = j
  · subst h
    rw [if_pos rfl, if_pos ⟨by omega, hr, hb⟩]
  · rw [if_neg h]
    have e : (k < j + 1) = (k < j) := by simp; omega
    simp only [e]
theorem clrTo_no (f g : Rows) (r c j : Nat) (h : j = r ∨ (f j).getLsbD c = false) : cells8 (clrTo f g r c (j + 1)) = cells8 (clrTo f g r c j) := cells8_congr fun k _ => by
  unfold clrTo
  by_cases hk : k = j
  · subst hk
    rw [if_neg, if_neg (by omega)]
    rintro ⟨_, h1, h2⟩
    rcases h with h | h
    · exact h1 h
    · rw [h] at h2; cases h2
  · have e : (k < j + 1) = (k < j) := by simp; omega
    simp only [e]
theorem clear_c (f g : Rows) (r c : Nat) (hr : r < 8) (hc : c < 8) : GivesB 141 #[matV f, matV g, .int .i64 r, .int .i64 c] (.tuple #[matV (clrF f f r c), matV (clrF f g r c)]) := by
  intro w
  rw [matV_eq, matV_eq, matV_eq, matV_eq]
  have M1 := Aside0.mk (Mem.alloc (Mem.alloc (Mem.alloc (Mem.new .u8 w 67 (cells8 f)) (.cells (cellsOf .u8 (cells8 g)) 67)) (.cells (cellsOf .u8 (cells8 zrow)) 67)) (.cells (cellsOf .u8 (cells8 zrow)) 67))
  have M2 := Aside0.mk (Mem.alloc (Mem.alloc (Mem.new2 .u8 w (.cells (cellsOf .u8 (cells8 f)) 67) 67 (cells8 g)) (.cells (cellsOf .u8 (cells8 zrow)) 67)) (.cells (cellsOf .u8 (cells8 zrow)) 67))
  have M3 := Aside0.mk (Mem.alloc (Mem.new3 .u8 w (.cells (cellsOf .u8 (cells8 f)) 67) (.cells (cellsOf .u8 (cells8 g)) 67) 67 (cells8 zrow)) (.cells (cellsOf .u8 (cells8 zrow)) 67))
  have M4 := Aside0.mk (new4 .u8 w (.cells (cellsOf .u8 (cells8 f)) 67) (.cells (cellsOf .u8 (cells8 g)) 67) (.cells (cellsOf .u8 (cells8 zrow)) 67) 67 (cells8 zrow))
  have HB := Aside0.mk (below_alloc (below_alloc (below_alloc (below_alloc (Below.refl w.heap.size w) (.cells (cellsOf .u8 (cells8 f)) 67)) (.cells (cellsOf .u8 (cells8 g)) 67)) (.cells (cellsOf .u8 (cells8 zrow)) 67)) (.cells (cellsOf .u8 (cells8 zrow)) 67))
  have hr1 : (r : Int) < 8 := by omega
  have hr3 : (0 : Int) ≤ (r : Int) := by omega
  have hc1 : (c : Int) < 8 := by omega
  have hc2 : (c : Int) ≤ 8 := by omega
  have hc3 : (0 : Int) ≤ (c : Int) := by omega
  go_enter Try.func141, Try.ntmps141
  go_wp2
  go_loopg [11] 8 (fun kq i w' => ∃ j : Nat, j + kq = 8 ∧ i = .int .i64 j ∧ Aside0 (Mem .u8 w' w.heap.size 67 (cells8 (clrTo f f r c j))) ∧ Aside0 (Mem .u8 w' (w.heap.size + 1) 67 (cells8 (clrTo f g r c j))) ∧ Aside0 (Mem .u8 w' (w.heap.size + 2) 67 (cells8 zrow)) ∧ Aside0 (Mem .u8 w' (w.heap.size + 3) 67 (cells8 zrow)) ∧ Aside0 (Below w.heap.size w w'))
  case atStart => exact ⟨0, by omega, rfl, ⟨by rw [clrTo_zero]; exact M1.out⟩, ⟨by rw [clrTo_zero]; exact M2.out⟩, M3, M4, HB⟩
  case round =>
    clear M1 M2 M3 M4 HB
    obtain ⟨j, hj, rfl, M1, M2, M3, M4, HB⟩ := hrel
    cases gk with
    | zero =>
      obtain rfl : j = 8 := by omega
      rw [clrTo_end] at M1 M2
      have hl0 := mem_loads (Mem.drew M1.out)
      have hl1 := mem_loads (Mem.drew M2.out)
      obtain ⟨p, hp⟩ : ∃ z, z = clrF f f r c := ⟨_, rfl⟩
      obtain ⟨q, hq⟩ : ∃ z, z = clrF f g r c := ⟨_, rfl⟩
      rw [← hp] at M1 hl0
      rw [← hq] at M2 hl1
      have HPQ := Aside0.mk (And.intro hp hq)
      clear hp hq
      go_wp2
      refine start_ (n := 4) (S := fun w' => (loadVar 67 ⟨w.heap.size, 0, none⟩).run Try.prog w' = .ok (.agg (cellsOf .u8 (cells8 p))) w' ∧ (loadVar 67 ⟨w.heap.size + 1, 0, none⟩).run Try.prog w' = .ok (.agg (cellsOf .u8 (cells8 q))) w') (ds := [3]) #[false, false, false, false] (by kernel_rfl) rfl rfl ⟨hl0, hl1⟩ (fun hHeld => ?_)
      refine take_ (i := 0) (N := some 43) (v := ?_) (a' := ?_) #[true, false, false, false] rfl rfl (by kernel_rfl) (fun _ _ _ h => h) (Or.inl ⟨by rfl, ?_⟩) hHeld ?_ ?_
      rotate_left
      · rintro w' ⟨s0, s1⟩
        refine (load_yields rfl rfl s0).trans ?_
        with_reducible rfl
      rotate_left
      · simp only [Act.put, List.setIfInBounds_toArray, List.set_cons_zero, List.set_cons_succ, i64_w, i32_w]
        rfl
      refine take_ (i := 1) (N := some 44) (v := ?_) (a' := ?_) #[true, true, false, false] rfl rfl (by kernel_rfl) (fun _ _ _ h => h) (Or.inl ⟨by rfl, ?_⟩) hHeld ?_ ?_
      rotate_left
      · rintro w' ⟨s0, s1⟩
        refine (load_yields rfl rfl s1).trans ?_
        with_reducible rfl
      rotate_left
      · simp only [Act.put, List.setIfInBounds_toArray, List.set_cons_zero, List.set_cons_succ, i64_w, i32_w]
        rfl
      refine one_ (i := 2) (N := none) #[true, true, true, false] rfl rfl (by kernel_rfl) (by decide) (fun K hK => ?_)
      refine skip_ (w1 := ?_) (by rfl) rfl ?_ ?_
      rotate_left
      · refine mat_store_yields (f2 := p) (x := .tmp 8) (y := .tmp 43) (Mem.drew M3.out) ?_ ?_ ?_ <;> rfl
      have M1 := Aside0.mk (Mem.row (Mem.drew M1.out) (g' := w.heap.size + 2) (by omega) (cellsOf .u8 (cells8 p)))
      have M2 := Aside0.mk (Mem.row (Mem.drew M2.out) (g' := w.heap.size + 2) (by omega) (cellsOf .u8 (cells8 p)))
      have M4 := Aside0.mk (Mem.row (Mem.drew M4.out) (g' := w.heap.size + 2) (by omega) (cellsOf .u8 (cells8 p)))
      have M3 := Aside0.mk (Mem.put (Mem.drew M3.out) (cells8 p))
      have HB := Aside0.mk (below_setRow (below_drew HB.out) (g := w.heap.size + 2) (by omega) (cellsOf .u8 (cells8 p)))
      refine hK.out _ _ ⟨(mem_loads M1.out), (mem_loads M2.out)⟩ (fun hHeld => ?_)
      clear hK K
      refine last_ (i := 3) (N := none) #[true, true, true, true] rfl rfl (by kernel_rfl) (by decide) (fun K hK => ?_)
      refine skip_ (w1 := ?_) (by rfl) rfl ?_ ?_
      rotate_left
      · refine mat_store_yields (f2 := q) (x := .tmp 9) (y := .tmp 44) M4.out ?_ ?_ ?_ <;> rfl
      have M3 := Aside0.mk (Mem.row M3.out (g' := w.heap.size + 3) (by omega) (cellsOf .u8 (cells8 q)))
      have M4 := Aside0.mk (Mem.put M4.out (cells8 q))
      have HB := Aside0.mk (below_setRow HB.out (g := w.heap.size + 3) (by omega) (cellsOf .u8 (cells8 q)))
      refine hK.out _ _ ?_
      clear hK K
      refine done_ (by kernel_rfl) ?_
      go_wp2
      have hp := HPQ.out.1
      have hq := HPQ.out.2
      subst hp
      subst hq
      refine bodyPost_ret (results_cc rfl _ _ _ _ _ _ _ _ _ _ _ _ rfl M3.out Try.underlying67 rfl (by rw [cellsOf_size, cells8_length]; exact info_mat) rfl M4.out Try.underlying67 rfl (by rw [cellsOf_size, cells8_length]; exact info_mat)) rfl ⟨rfl, HB.out⟩
    | succ k1 =>
      have hlt : j < 8 := by omega
      have HJ := Aside0.mk hj
      clear hj
      have hj1 : (j : Int) < 8 := by omega
      have hj2 : (j : Int) ≤ 8 := by omega
      have hj3 : (0 : Int) ≤ (j : Int) := by omega
      by_cases hjr : j = r
      · subst hjr
        have HV1 := Aside0.mk (clrTo_no f f j c j (.inl rfl))
        have HV2 := Aside0.mk (clrTo_no f g j c j (.inl rfl))
        go_wp2
        go_roundg k1
        case measure => omega
        case rel => exact ⟨j + 1, by have := HJ.out; omega, by go_num, ⟨by rw [HV1.out]; exact M1.out⟩, ⟨by rw [HV2.out]; exact M2.out⟩, M3, M4, HB⟩
      · have hne : ((j : Int) == (r : Int)) = false := by rw [beq_eq_false_iff_ne]; omega
        have hne2 : ((j : Int) != (r : Int)) = true := by simp only [bne, hne]; rfl
        have hx := M1.out.cell j (by rw [cells8_length]; exact hlt)
        rw [cells8_get _ _ hlt, clrTo_at] at hx
        have hs := shr8 (f j) c
        have ha := and_one8 (f j >>> c)
        rw [shr_bit] at ha
        rcases Bool.eq_false_or_eq_true ((f j).getLsbD c) with hb | hb
        · have HV1 := Aside0.mk (clrTo_set f f r c j hlt hjr hb)
          have HV2 := Aside0.mk (clrTo_set f g r c j hlt hjr hb)
          rw [← xor8] at HV1 HV2
          rw [hb] at ha
          have ha1 : Go.bits .and .u8 (I8 (f j >>> c)) 1 = 1 := ha
          clear hb ha hjr
          have hz := M1.out.cell r (by rw [cells8_length]; exact hr)
          rw [cells8_get _ _ hr, clrTo_row] at hz
          have hf := M1.out.free j
          generalize f j >>> c = s at *
          go_wp2
          refine start_ (n := 9) (S := fun w' => w'.cell? ⟨w.heap.size, j, none⟩ = some (.int .u8 (I8 (f j))) ∧ w'.cell? ⟨w.heap.size, r, none⟩ = some (.int .u8 (I8 (f r)))) (ds := [8]) #[false, false, false, false, false, false, false, false, false] (by kernel_rfl) rfl rfl ⟨hx, hz⟩ (fun hHeld => ?_)
          refine pure_ (i := 0) (N := some 26) (v := ?_) (a' := ?_) #[true, false, false, false, false, false, false, false, false] rfl rfl (by kernel_rfl) (fun _ _ _ h => h) (Or.inl ⟨by rfl, ?_⟩) ?_ ?_
          rotate_left
          · intro w'
            go_simp
            with_reducible rfl
          rotate_left
          · simp only [Act.put, List.setIfInBounds_toArray, List.set_cons_zero, List.set_cons_succ, i64_w, i32_w]
            rfl
          refine pure_ (i := 1) (N := some 27) (v := ?_) (a' := ?_) #[true, true, false, false, false, false, false, false, false] rfl rfl (by kernel_rfl) (fun _ _ _ h => h) (Or.inl ⟨by rfl, ?_⟩) ?_ ?_
          rotate_left
          · intro w'
            go_simp
            with_reducible rfl
          rotate_left
          · simp only [Act.put, List.setIfInBounds_toArray, List.set_cons_zero, List.set_cons_succ, i64_w, i32_w]
            rfl
          refine pure_ (i := 3) (N := some 29) (v := ?_) (a' := ?_) #[true, true, false, true, false, false, false, false, false] rfl rfl (by kernel_rfl) (fun _ _ _ h => h) (Or.inl ⟨by rfl, ?_⟩) ?_ ?_
          rotate_left
          · intro w'
            go_simp
            with_reducible rfl
          rotate_left
          · simp only [Act.put, List.setIfInBounds_toArray, List.set_cons_zero, List.set_cons_succ, i64_w, i32_w]
            rfl
          refine pure_ (i := 4) (N := some 30) (v := ?_) (a' := ?_) #[true, true, false, true, true, false, false, false, false] rfl rfl (by kernel_rfl) (fun _ _ _ h => h) (Or.inl ⟨by rfl, ?_⟩) ?_ ?_
          rotate_left
          · intro w'
            go_simp
            with_reducible rfl
          rotate_left
          · simp only [Act.put, List.setIfInBounds_toArray, List.set_cons_zero, List.set_cons_succ, i64_w, i32_w]
            rfl
          refine take_ (i := 2) (N := some 28) (v := ?_) (a' := ?_) #[true, true, true, true, true, false, false, false, false] rfl rfl (by kernel_rfl) (fun _ _ _ h => h) (Or.inl ⟨by rfl, ?_⟩) hHeld ?_ ?_
          rotate_left
          · rintro w' ⟨s0, s1⟩
            go_simp
            with_reducible rfl
          rotate_left
          · simp only [Act.put, List.setIfInBounds_toArray, List.set_cons_zero, List.set_cons_succ, i64_w, i32_w]
            rfl
          refine take_ (i := 5) (N := some 31) (v := ?_) (a' := ?_) #[true, true, true, true, true, true, false, false, false] rfl rfl (by kernel_rfl) (fun _ _ _ h => h) (Or.inl ⟨by rfl, ?_⟩) hHeld ?_ ?_
          rotate_left
          · rintro w' ⟨s0, s1⟩
            go_simp
            with_reducible rfl
          rotate_left
          · simp only [Act.put, List.setIfInBounds_toArray, List.set_cons_zero, List.set_cons_succ, i64_w, i32_w]
            rfl
          refine pure_ (i := 6) (N := some 32) (v := ?_) (a' := ?_) #[true, true, true, true, true, true, true, false, false] rfl rfl (by kernel_rfl) (fun _ _ _ h => h) (Or.inl ⟨by rfl, ?_⟩) ?_ ?_
          rotate_left
          · intro w'
            go_simp
            with_reducible rfl
          rotate_left
          · simp only [Act.put, List.setIfInBounds_toArray, List.set_cons_zero, List.set_cons_succ, i64_w, i32_w]
            rfl
          refine pure_ (i := 7) (N := some 33) (v := ?_) (a' := ?_) #[true, true, true, true, true, true, true, true, false] rfl rfl (by kernel_rfl) (fun _ _ _ h => h) (Or.inl ⟨by rfl, ?_⟩) ?_ ?_
          rotate_left
          · intro w'
            go_simp
            with_reducible rfl
          rotate_left
          · simp only [Act.put, List.setIfInBounds_toArray, List.set_cons_zero, List.set_cons_succ, i64_w, i32_w]
            rfl
          refine last_ (i := 8) (N := none) #[true, true, true, true, true, true, true, true, true] rfl rfl (by kernel_rfl) (by decide) (fun K hK => ?_)
          refine skip_ (w1 := ?_) (by rfl) rfl ?_ ?_
          rotate_left
          · go_simp
            rfl
          refine hK.out _ _ ?_
          clear hK K
          refine done_ (by kernel_rfl) ?_
          have M1 := Aside0.mk (Mem.drew (Mem.set M1.out j (Go.bits .xor .u8 (I8 (f j)) (I8 (f r)))))
          have M2 := Aside0.mk (Mem.drew (Mem.other M2.out (g' := w.heap.size) (by omega) j (.int .u8 (Go.bits .xor .u8 (I8 (f j)) (I8 (f r))))))
          have M3 := Aside0.mk (Mem.drew (Mem.other M3.out (g' := w.heap.size) (by omega) j (.int .u8 (Go.bits .xor .u8 (I8 (f j)) (I8 (f r))))))
          have M4 := Aside0.mk (Mem.drew (Mem.other M4.out (g' := w.heap.size) (by omega) j (.int .u8 (Go.bits .xor .u8 (I8 (f j)) (I8 (f r))))))
          have HB := Aside0.mk (show Below w.heap.size w (wr.setCell ⟨w.heap.size, j, none⟩ (.int .u8 (Go.bits .xor .u8 (I8 (f j)) (I8 (f r))))).drew from below_drew (below_set HB.out (Nat.le_refl _)))
          rw [HV1.out] at M1
          have hx2 := M2.out.cell j (by rw [cells8_length]; exact hlt)
          rw [cells8_get _ _ hlt, clrTo_at] at hx2
          have hz2 := M2.out.cell r (by rw [cells8_length]; exact hr)
          rw [cells8_get _ _ hr, clrTo_row] at hz2
          have hf2 := M2.out.free j
          clear hx hz hf
          go_wp2
          refine start_ (n := 9) (S := fun w' => w'.cell? ⟨w.heap.size + 1, j, none⟩ = some (.int .u8 (I8 (g j))) ∧ w'.cell? ⟨w.heap.size + 1, r, none⟩ = some (.int .u8 (I8 (g r)))) (ds := [8]) #[false, false, false, false, false, false, false, false, false] (by kernel_rfl) rfl rfl ⟨hx2, hz2⟩ (fun hHeld => ?_)
          refine pure_ (i := 0) (N := some 34) (v := ?_) (a' := ?_) #[true, false, false, false, false, false, false, false, false] rfl rfl (by kernel_rfl) (fun _ _ _ h => h) (Or.inl ⟨by rfl, ?_⟩) ?_ ?_
          rotate_left
          · intro w'
            go_simp
            with_reducible rfl
          rotate_left
          · simp only [Act.put, List.setIfInBounds_toArray, List.set_cons_zero, List.set_cons_succ, i64_w, i32_w]
            rfl
          refine pure_ (i := 1) (N := some 35) (v := ?_) (a' := ?_) #[true, true, false, false, false, false, false, false, false] rfl rfl (by kernel_rfl) (fun _ _ _ h => h) (Or.inl ⟨by rfl, ?_⟩) ?_ ?_
          rotate_left
          · intro w'
            go_simp
            with_reducible rfl
          rotate_left
          · simp only [Act.put, List.setIfInBounds_toArray, List.set_cons_zero, List.set_cons_succ, i64_w, i32_w]
            rfl
          refine pure_ (i := 3) (N := some 37) (v := ?_) (a' := ?_) #[true, true, false, true, false, false, false, false, false] rfl rfl (by kernel_rfl) (fun _ _ _ h => h) (Or.inl ⟨by rfl, ?_⟩) ?_ ?_
          rotate_left
          · intro w'
            go_simp
            with_reducible rfl
          rotate_left
          · simp only [Act.put, List.setIfInBounds_toArray, List.set_cons_zero, List.set_cons_succ, i64_w, i32_w]
            rfl
          refine pure_ (i := 4) (N := some 38) (v := ?_) (a' := ?_) #[true, true, false, true, true, false, false, false, false] rfl rfl (by kernel_rfl) (fun _ _ _ h => h) (Or.inl ⟨by rfl, ?_⟩) ?_ ?_
          rotate_left
          · intro w'
            go_simp
            with_reducible rfl
          rotate_left
          · simp only [Act.put, List.setIfInBounds_toArray, List.set_cons_zero, List.set_cons_succ, i64_w, i32_w]
            rfl
          refine take_ (i := 2) (N := some 36) (v := ?_) (a' := ?_) #[true, true, true, true, true, false, false, false, false] rfl rfl (by kernel_rfl) (fun _ _ _ h => h) (Or.inl ⟨by rfl, ?_⟩) hHeld ?_ ?_
          rotate_left
          · rintro w' ⟨s0, s1⟩
            go_simp
            with_reducible rfl
          rotate_left
          · simp only [Act.put, List.setIfInBounds_toArray, List.set_cons_zero, List.set_cons_succ, i64_w, i32_w]
            rfl
          refine take_ (i := 5) (N := some 39) (v := ?_) (a' := ?_) #[true, true, true, true, true, true, false, false, false] rfl rfl (by kernel_rfl) (fun _ _ _ h => h) (Or.inl ⟨by rfl, ?_⟩) hHeld ?_ ?_
          rotate_left
          · rintro w' ⟨s0, s1⟩
            go_simp
            with_reducible rfl
          rotate_left
          · simp only [Act.put, List.setIfInBounds_toArray, List.set_cons_zero, List.set_cons_succ, i64_w, i32_w]
            rfl
          refine pure_ (i := 6) (N := some 40) (v := ?_) (a' := ?_) #[true, true, true, true, true, true, true, false, false] rfl rfl (by kernel_rfl) (fun _ _ _ h => h) (Or.inl ⟨by rfl, ?_⟩) ?_ ?_
          rotate_left
          · intro w'
            go_simp
            with_reducible rfl
          rotate_left
          · simp only [Act.put, List.setIfInBounds_toArray, List.set_cons_zero, List.set_cons_succ, i64_w, i32_w]
            rfl
          refine pure_ (i := 7) (N := some 41) (v := ?_) (a' := ?_) #[true, true, true, true, true, true, true, true, false] rfl rfl (by kernel_rfl) (fun _ _ _ h => h) (Or.inl ⟨by rfl, ?_⟩) ?_ ?_
          rotate_left
          · intro w'
            go_simp
            with_reducible rfl
          rotate_left
          · simp only [Act.put, List.setIfInBounds_toArray, List.set_cons_zero, List.set_cons_succ, i64_w, i32_w]
            rfl
          refine last_ (i := 8) (N := none) #[true, true, true, true, true, true, true, true, true] rfl rfl (by kernel_rfl) (by decide) (fun K hK => ?_)
          refine skip_ (w1 := ?_) (by rfl) rfl ?_ ?_
          rotate_left
          · go_simp
            rfl
          refine hK.out _ _ ?_
          clear hK K
          refine done_ (by kernel_rfl) ?_
          go_wp2
          go_roundg k1
          case measure => omega
          case rel => exact ⟨j + 1, by have := HJ.out; omega, by go_num, ⟨Mem.drew (Mem.other M1.out (g' := w.heap.size + 1) (by omega) _ _)⟩, ⟨by rw [← HV2.out]; exact Mem.drew (Mem.set M2.out _ _)⟩, ⟨Mem.drew (Mem.other M3.out (g' := w.heap.size + 1) (by omega) _ _)⟩, ⟨Mem.drew (Mem.other M4.out (g' := w.heap.size + 1) (by omega) _ _)⟩, ⟨below_drew (below_set HB.out (by omega))⟩⟩
        · have HV1 := Aside0.mk (clrTo_no f f r c j (.inr hb))
          have HV2 := Aside0.mk (clrTo_no f g r c j (.inr hb))
          rw [hb] at ha
          have ha1 : Go.bits .and .u8 (I8 (f j >>> c)) 1 = 0 := ha
          clear hb ha
          generalize f j >>> c = s at *
          go_wp2
          go_roundg k1
          case measure => omega
          case rel => exact ⟨j + 1, by have := HJ.out; omega, by go_num, ⟨by rw [HV1.out]; exact M1.out⟩, ⟨by rw [HV2.out]; exact M2.out⟩, M3, M4, HB⟩
end Go.Proofs.Ytphdlidaigalkaa.Mat
