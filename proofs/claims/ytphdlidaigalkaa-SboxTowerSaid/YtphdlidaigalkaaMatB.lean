/-
  Apply, One, Flip, Columns and Mul of mat, and the document's Bit, Apply, Columns and Mul, walked.
-/
import Derived.Test.YtphdlidaigalkaaMatA
namespace Go.Proofs.Ytphdlidaigalkaa.Mat
open Go.RowKit Go.Proofs.YtphdlidaigalkaaW.PrintWords Go.Proofs.YtphdlidaigalkaaW.PrintLast Go.Proofs.YtphdlidaigalkaaW.PrintMore Byte Sl Arr Mem Gives ArrEq
set_option linter.unusedVariables false
set_option linter.unusedSimpArgs false
set_option maxHeartbeats 4000000
set_option maxRecDepth 100000
theorem app_c (f : Rows) (x : BitVec 8) : GivesB 46 #[matV f, .int .u8 (I8 x)] (.int .u8 (I8 (app f x))) := by
  intro w
  rw [matV_eq]
  have M1 := Aside0.mk (Mem.new .u8 w 67 (cells8 f))
  have HB := Aside0.mk (below_alloc (Below.refl w.heap.size w) (.cells (cellsOf .u8 (cells8 f)) 67))
  go_enter Try.func46, Try.ntmps46
  go_wp2_with (first
    | ((with_reducible refine gate_dst (N := 8) rfl ?_); refine Mem.load M1.out rfl 67 (.tmp 2) rfl rfl Try.underlying67 (by rw [cells8_length]; exact info_mat) ?_))
  go_loopg [5, 9] 8 (fun kq o i w' => ∃ j : Nat, j + kq = 8 ∧ o = .int .u8 (I8 (ofB (fun i => par (f i &&& x)) j)) ∧ i = .int .i64 j ∧ Aside0 (Below w.heap.size w w'))
  case atStart => exact ⟨0, by omega, rfl, rfl, HB⟩
  case round =>
    clear M1 HB
    obtain ⟨j, hj, rfl, rfl, HB⟩ := hrel
    cases gk with
    | zero =>
      obtain rfl : j = 8 := by omega
      go_wp2
      go_ret
      exact ⟨rfl, HB.out⟩
    | succ k1 =>
      have hlt : j < 8 := by omega
      have HJ := Aside0.mk hj
      clear hj
      have hix := run_index_arr (k := .u8) (P := Try.prog) (l := cells8 f) Try.underlying67 Try.underlying5 info_w8 (cells8_length f) j hlt
      rw [cells8_get f j hlt] at hix
      have ha := and8 (f j) x
      have HC := Aside0.mk (pop_c (f j &&& x))
      have hp := and_i64_one (popN (f j &&& x)) (by have := (pop_par (f j &&& x)).2.1; omega)
      rw [(pop_par _).1, parN_I8] at hp
      have hb1 : (j : Int) < 8 := by omega
      have hb2 : (j : Int) ≤ 8 := by omega
      have hb3 : (0 : Int) ≤ (j : Int) := by omega
      have hs := shl8 (bitB (par (f j &&& x))) j
      have ho := or8 (ofB (fun i => par (f i &&& x)) j) (bitB (par (f j &&& x)) <<< j)
      have hc : I8 (bitB (par (f j &&& x))) % 256 = I8 (bitB (par (f j &&& x))) := Int.emod_eq_of_lt (I8_lo _) (I8_hi _)
      have hpb : (0 : Int) ≤ I8 (bitB (par (f j &&& x))) ∧ I8 (bitB (par (f j &&& x))) ≤ 255 := by have := I8_lo (bitB (par (f j &&& x))); have := I8_hi (bitB (par (f j &&& x))); omega
      go_wp2_with (first
        | (go_at_call 97; (with_reducible refine (HC.out.q _).mono ?_); rintro e w' ⟨rfl, ⟨n1, rfl⟩⟩))
      go_roundg k1
      case measure => omega
      case rel => exact ⟨j + 1, by have := HJ.out; omega, rfl, by go_num, ⟨pw_below_drewN HB.out _⟩⟩
/-- What turns nothing. -/
def oneF : Rows := fun i => 1#8 <<< i
def oneTo (j : Nat) : Rows := fun i => if i < j then 1#8 <<< i else 0#8
theorem one_c : GivesB 136 #[] (matV oneF) := by
  intro w
  have M1 := Aside0.mk (Mem.alloc (Mem.new .u8 w 67 (cells8 zrow)) (.cells (cellsOf .u8 (cells8 zrow)) 67))
  have M2 := Aside0.mk (Mem.new2 .u8 w (.cells (cellsOf .u8 (cells8 zrow)) 67) 67 (cells8 zrow))
  have HB := Aside0.mk (below_alloc (below_alloc (Below.refl w.heap.size w) (.cells (cellsOf .u8 (cells8 zrow)) 67)) (.cells (cellsOf .u8 (cells8 zrow)) 67))
  go_enter Try.func136, Try.ntmps136
  go_wp2
  go_loopg [3] 8 (fun kq i w' => ∃ j : Nat, j + kq = 8 ∧ i = .int .i64 j ∧ Aside0 (Mem .u8 w' w.heap.size 67 (cells8 zrow)) ∧ Aside0 (Mem .u8 w' (w.heap.size + 1) 67 (cells8 (oneTo j))) ∧ Aside0 (Below w.heap.size w w'))
  case atStart => exact ⟨0, by omega, rfl, M1, ⟨by rw [cells8_congr (f := oneTo 0) (g := zrow) (fun i _ => rfl)]; exact M2.out⟩, HB⟩
  case round =>
    clear M1 M2 HB
    obtain ⟨j, hj, rfl, M1, M2, HB⟩ := hrel
    cases gk with
    | zero =>
      obtain rfl : j = 8 := by omega
      rw [cells8_congr (f := oneTo 8) (g := oneF) (fun i hi => by simp [oneTo, oneF, hi])] at M2
      go_wp2_with (first
        | ((with_reducible refine gate_dst (N := 11) rfl ?_); refine Mem.load M2.out rfl 67 (.tmp 1) rfl rfl Try.underlying67 (by rw [cells8_length]; exact info_mat) ?_)
        | ((with_reducible refine gate_store (t := 67) (p := 0) rfl ?_); refine Mem.store (l' := cells8 oneF) M1.out rfl 67 (.tmp 0) (.tmp 11) rfl rfl rfl (by rw [cells8_length]; exact info_mat) (by rw [cells8_length, cells8_length]) ?_))
      refine bodyPost_ret (v := .agg (cellsOf .u8 (cells8 (oneF)))) (results_cell_row rfl _ _ _ _ _ _ _ rfl (Mem.put M1.out (cells8 (oneF))) Try.underlying67 rfl (by rw [cellsOf_size, cells8_length]; exact info_mat)) rfl ⟨rfl, below_setRow HB.out (by omega) _⟩
    | succ k1 =>
      have hlt : j < 8 := by omega
      have HJ := Aside0.mk hj
      clear hj
      have hf := M2.out.free j
      have hx := M2.out.cell j (by rw [cells8_length]; exact hlt)
      have hb1 : (j : Int) < 8 := by omega
      have hb2 : (j : Int) ≤ 8 := by omega
      have hb3 : (0 : Int) ≤ (j : Int) := by omega
      have hs := shl1 j
      have HV := Aside0.mk ((cells8_set (oneTo j) j hlt (1#8 <<< j)).trans (put_congr (g := oneTo (j + 1)) (fun k _ => by
        unfold oneTo
        by_cases h : k = j
        · subst h; simp
        · by_cases h2 : k < j
          · simp [h, h2, show k < j + 1 by omega]
          · simp [h, h2, show ¬ k < j + 1 by omega])))
      go_wp2
      go_roundg k1
      case measure => omega
      case rel => exact ⟨j + 1, by have := HJ.out; omega, by go_num, ⟨Mem.other M1.out (g' := w.heap.size + 1) (by omega) _ _⟩, ⟨by rw [← HV.out]; exact Mem.set M2.out _ _⟩, ⟨below_set HB.out (by omega)⟩⟩
/-- Rows as columns. -/
def flipF (f : Rows) : Rows := fun j => ofB (fun i => (f i).getLsbD j) 8
def flipTo (f : Rows) (i j : Nat) : Rows := fun k => ofB (fun i => (f i).getLsbD k) (if k < j then i + 1 else i)
theorem flipTo_zero (f : Rows) : cells8 (flipTo f 0 0) = cells8 zrow := cells8_congr fun k _ => rfl
theorem flipTo_next (f : Rows) (i : Nat) : cells8 (flipTo f i 8) = cells8 (flipTo f (i + 1) 0) := cells8_congr fun k hk => by simp [flipTo, hk]
theorem flipTo_end (f : Rows) : cells8 (flipTo f 8 0) = cells8 (flipF f) := cells8_congr fun k hk => by simp [flipTo, flipF]
theorem flipTo_set (f : Rows) (i j : Nat) (hj : j < 8) : (cells8 (flipTo f i j)).set j (I8 (flipTo f i j j ||| (bitB ((f i).getLsbD j) <<< i))) = cells8 (flipTo f i (j + 1)) := by
  rw [cells8_set _ _ hj]
  refine put_congr fun k _ => ?_
  unfold flipTo
  by_cases h : k = j
  · subst h
    rw [if_pos rfl, if_neg (by omega), if_pos (by omega)]; rfl
  · rw [if_neg h]
    by_cases h2 : k < j
    · rw [if_pos h2, if_pos (by omega)]
    · rw [if_neg h2, if_neg (by omega)]
theorem flip_c (f : Rows) : GivesB 134 #[matV f] (matV (flipF f)) := by
  intro w
  rw [matV_eq]
  have M1 := Aside0.mk (Mem.alloc (Mem.alloc (Mem.new .u8 w 67 (cells8 f)) (.cells (cellsOf .u8 (cells8 zrow)) 67)) (.cells (cellsOf .u8 (cells8 zrow)) 67))
  have M2 := Aside0.mk (Mem.alloc (Mem.new2 .u8 w (.cells (cellsOf .u8 (cells8 f)) 67) 67 (cells8 zrow)) (.cells (cellsOf .u8 (cells8 zrow)) 67))
  have M3 := Aside0.mk (Mem.new3 .u8 w (.cells (cellsOf .u8 (cells8 f)) 67) (.cells (cellsOf .u8 (cells8 zrow)) 67) 67 (cells8 zrow))
  have HB := Aside0.mk (below_alloc (below_alloc (below_alloc (Below.refl w.heap.size w) (.cells (cellsOf .u8 (cells8 f)) 67)) (.cells (cellsOf .u8 (cells8 zrow)) 67)) (.cells (cellsOf .u8 (cells8 zrow)) 67))
  go_enter Try.func134, Try.ntmps134
  go_wp2_with (first
    | ((with_reducible refine gate_dst (N := 7) rfl ?_); refine Mem.load M1.out rfl 67 (.tmp 1) rfl rfl Try.underlying67 (by rw [cells8_length]; exact info_mat) ?_))
  go_loopg [8] 8 (fun kq i w' => ∃ j : Nat, j + kq = 8 ∧ i = .int .i64 j ∧ Aside0 (Mem .u8 w' (w.heap.size + 1) 67 (cells8 zrow)) ∧ Aside0 (Mem .u8 w' (w.heap.size + 2) 67 (cells8 (flipTo f j 0))) ∧ Aside0 (Below w.heap.size w w'))
  case atStart => exact ⟨0, by omega, rfl, M2, ⟨by rw [flipTo_zero]; exact M3.out⟩, HB⟩
  case round =>
    clear M1 M2 M3 HB
    obtain ⟨i, hi, rfl, M2, M3, HB⟩ := hrel
    cases gk with
    | zero =>
      obtain rfl : i = 8 := by omega
      rw [flipTo_end] at M3
      go_wp2_with (first
        | ((with_reducible refine gate_dst (N := 28) rfl ?_); refine Mem.load M3.out rfl 67 (.tmp 3) rfl rfl Try.underlying67 (by rw [cells8_length]; exact info_mat) ?_)
        | ((with_reducible refine gate_store (t := 67) (p := 2) rfl ?_); refine Mem.store (l' := cells8 (flipF f)) M2.out rfl 67 (.tmp 2) (.tmp 28) rfl rfl rfl (by rw [cells8_length]; exact info_mat) (by rw [cells8_length, cells8_length]) ?_))
      refine bodyPost_ret (v := .agg (cellsOf .u8 (cells8 (flipF f)))) (results_cell_row rfl _ _ _ _ _ _ _ rfl (Mem.put M2.out (cells8 (flipF f))) Try.underlying67 rfl (by rw [cellsOf_size, cells8_length]; exact info_mat)) rfl ⟨rfl, below_setRow HB.out (by omega) _⟩
    | succ k1 =>
      have hil : i < 8 := by omega
      have HI := Aside0.mk hi
      clear hi
      have hix := run_index_arr (k := .u8) (P := Try.prog) (l := cells8 f) Try.underlying67 Try.underlying5 info_w8 (cells8_length f) i hil
      rw [cells8_get f i hil] at hix
      have hb1 : (i : Int) < 8 := by omega
      have hb2 : (i : Int) ≤ 8 := by omega
      have hb3 : (0 : Int) ≤ (i : Int) := by omega
      go_wp2
      clear hix
      go_loopg [12] 8 (fun kq q w' => ∃ j : Nat, j + kq = 8 ∧ q = .int .i64 j ∧ Aside0 (Mem .u8 w' (w.heap.size + 1) 67 (cells8 zrow)) ∧ Aside0 (Mem .u8 w' (w.heap.size + 2) 67 (cells8 (flipTo f i j))) ∧ Aside0 (Below w.heap.size w w'))
      case atStart => exact ⟨0, by omega, rfl, M2, M3, HB⟩
      case round =>
        clear M2 M3 HB
        obtain ⟨j, hj, rfl, M2, M3, HB⟩ := hrel
        cases gk with
        | zero =>
          obtain rfl : j = 8 := by omega
          go_wp2
          go_roundg k1
          case measure => omega
          case rel => exact ⟨i + 1, by have := HI.out; omega, by go_num, M2, ⟨by rw [← flipTo_next]; exact M3.out⟩, HB⟩
        | succ k2 =>
          have hjl : j < 8 := by omega
          have HJ := Aside0.mk hj
          clear hj
          have HV := Aside0.mk (flipTo_set f i j hjl)
          have hx := M3.out.cell j (by rw [cells8_length]; exact hjl)
          rw [cells8_get _ _ hjl] at hx
          have hf := M3.out.free j
          have hj1 : (j : Int) < 8 := by omega
          have hj2 : (j : Int) ≤ 8 := by omega
          have hj3 : (0 : Int) ≤ (j : Int) := by omega
          have hs := shr8 (f i) j
          have ha := and_one8 (f i >>> j)
          rw [shr_bit] at ha
          have hl := shl8 (bitB ((f i).getLsbD j)) i
          have ho := or8 (flipTo f i j j) (bitB ((f i).getLsbD j) <<< i)
          generalize flipTo f i j j = row at *
          generalize bitB ((f i).getLsbD j) = b at *
          generalize f i >>> j = s at *
          rw [← ho, ← hl] at HV
          clear hl ho
          go_wp2
          refine start_ (n := 12) (S := fun w' => w'.cell? ⟨w.heap.size + 2, j, none⟩ = some (.int .u8 (I8 row))) (ds := [11]) #[false, false, false, false, false, false, false, false, false, false, false, false] (by kernel_rfl) rfl rfl (hx) (fun hHeld => ?_)
          refine pure_ (i := 0) (N := some 15) (v := ?_) (a' := ?_) #[true, false, false, false, false, false, false, false, false, false, false, false] rfl rfl (by kernel_rfl) (fun _ _ _ h => h) (Or.inl ⟨by rfl, ?_⟩) ?_ ?_
          rotate_left
          · intro w'
            go_simp
            with_reducible rfl
          rotate_left
          · simp only [Act.put, List.setIfInBounds_toArray, List.set_cons_zero, List.set_cons_succ, i64_w, i32_w]
            rfl
          refine pure_ (i := 1) (N := some 16) (v := ?_) (a' := ?_) #[true, true, false, false, false, false, false, false, false, false, false, false] rfl rfl (by kernel_rfl) (fun _ _ _ h => h) (Or.inl ⟨by rfl, ?_⟩) ?_ ?_
          rotate_left
          · intro w'
            go_simp
            with_reducible rfl
          rotate_left
          · simp only [Act.put, List.setIfInBounds_toArray, List.set_cons_zero, List.set_cons_succ, i64_w, i32_w]
            rfl
          refine pure_ (i := 3) (N := some 18) (v := ?_) (a' := ?_) #[true, true, false, true, false, false, false, false, false, false, false, false] rfl rfl (by kernel_rfl) (fun _ _ _ h => h) (Or.inl ⟨by rfl, ?_⟩) ?_ ?_
          rotate_left
          · intro w'
            go_simp
            with_reducible rfl
          rotate_left
          · simp only [Act.put, List.setIfInBounds_toArray, List.set_cons_zero, List.set_cons_succ, i64_w, i32_w]
            rfl
          refine pure_ (i := 4) (N := some 19) (v := ?_) (a' := ?_) #[true, true, false, true, true, false, false, false, false, false, false, false] rfl rfl (by kernel_rfl) (fun _ _ _ h => h) (Or.inl ⟨by rfl, ?_⟩) ?_ ?_
          rotate_left
          · intro w'
            go_simp
            with_reducible rfl
          rotate_left
          · simp only [Act.put, List.setIfInBounds_toArray, List.set_cons_zero, List.set_cons_succ, i64_w, i32_w]
            rfl
          refine pure_ (i := 5) (N := some 20) (v := ?_) (a' := ?_) #[true, true, false, true, true, true, false, false, false, false, false, false] rfl rfl (by kernel_rfl) (fun _ _ _ h => h) (Or.inl ⟨by rfl, ?_⟩) ?_ ?_
          rotate_left
          · intro w'
            go_simp
            with_reducible rfl
          rotate_left
          · simp only [Act.put, List.setIfInBounds_toArray, List.set_cons_zero, List.set_cons_succ, i64_w, i32_w]
            rfl
          refine pure_ (i := 6) (N := some 21) (v := ?_) (a' := ?_) #[true, true, false, true, true, true, true, false, false, false, false, false] rfl rfl (by kernel_rfl) (fun _ _ _ h => h) (Or.inl ⟨by rfl, ?_⟩) ?_ ?_
          rotate_left
          · intro w'
            go_simp
            with_reducible rfl
          rotate_left
          · simp only [Act.put, List.setIfInBounds_toArray, List.set_cons_zero, List.set_cons_succ, i64_w, i32_w]
            rfl
          refine pure_ (i := 7) (N := some 22) (v := ?_) (a' := ?_) #[true, true, false, true, true, true, true, true, false, false, false, false] rfl rfl (by kernel_rfl) (fun _ _ _ h => h) (Or.inl ⟨by rfl, ?_⟩) ?_ ?_
          rotate_left
          · intro w'
            go_simp
            with_reducible rfl
          rotate_left
          · simp only [Act.put, List.setIfInBounds_toArray, List.set_cons_zero, List.set_cons_succ, i64_w, i32_w]
            rfl
          refine pure_ (i := 8) (N := some 23) (v := ?_) (a' := ?_) #[true, true, false, true, true, true, true, true, true, false, false, false] rfl rfl (by kernel_rfl) (fun _ _ _ h => h) (Or.inl ⟨by rfl, ?_⟩) ?_ ?_
          rotate_left
          · intro w'
            go_simp
            with_reducible rfl
          rotate_left
          · simp only [Act.put, List.setIfInBounds_toArray, List.set_cons_zero, List.set_cons_succ, i64_w, i32_w]
            rfl
          refine take_ (i := 2) (N := some 17) (v := ?_) (a' := ?_) #[true, true, true, true, true, true, true, true, true, false, false, false] rfl rfl (by kernel_rfl) (fun _ _ _ h => h) (Or.inl ⟨by rfl, ?_⟩) hHeld ?_ ?_
          rotate_left
          · intro w' s0
            go_simp
            with_reducible rfl
          rotate_left
          · simp only [Act.put, List.setIfInBounds_toArray, List.set_cons_zero, List.set_cons_succ, i64_w, i32_w]
            rfl
          refine pure_ (i := 9) (N := some 24) (v := ?_) (a' := ?_) #[true, true, true, true, true, true, true, true, true, true, false, false] rfl rfl (by kernel_rfl) (fun _ _ _ h => h) (Or.inl ⟨by rfl, ?_⟩) ?_ ?_
          rotate_left
          · intro w'
            go_simp
            with_reducible rfl
          rotate_left
          · simp only [Act.put, List.setIfInBounds_toArray, List.set_cons_zero, List.set_cons_succ, i64_w, i32_w]
            rfl
          refine pure_ (i := 10) (N := some 25) (v := ?_) (a' := ?_) #[true, true, true, true, true, true, true, true, true, true, true, false] rfl rfl (by kernel_rfl) (fun _ _ _ h => h) (Or.inl ⟨by rfl, ?_⟩) ?_ ?_
          rotate_left
          · intro w'
            go_simp
            with_reducible rfl
          rotate_left
          · simp only [Act.put, List.setIfInBounds_toArray, List.set_cons_zero, List.set_cons_succ, i64_w, i32_w]
            rfl
          refine last_ (i := 11) (N := none) #[true, true, true, true, true, true, true, true, true, true, true, true] rfl rfl (by kernel_rfl) (by decide) (fun K hK => ?_)
          refine skip_ (w1 := ?_) (by rfl) rfl ?_ ?_
          rotate_left
          · go_simp
            rfl
          refine hK.out _ _ ?_
          clear hK K
          refine done_ (by kernel_rfl) ?_
          go_wp2
          go_roundg k2
          case measure => omega
          case rel => exact ⟨j + 1, by have := HJ.out; omega, by go_num, ⟨Mem.drew (Mem.other M2.out (g' := w.heap.size + 2) (by omega) _ _)⟩, ⟨by rw [← HV.out]; exact Mem.drew (Mem.set M3.out _ _)⟩, ⟨below_drew (below_set HB.out (by omega))⟩⟩
theorem columns_c (f : Rows) : GivesB 126 #[matV f] (matV (flipF f)) := by
  intro w
  have HC := Aside0.mk (flip_c f)
  rw [matV_eq, matV_eq] at HC
  rw [matV_eq]
  have M1 := Aside0.mk (Mem.alloc (Mem.new .u8 w 66 (cells8 f)) (.cells (cellsOf .u8 (cells8 zrow)) 67))
  have M2 := Aside0.mk (Mem.new2 .u8 w (.cells (cellsOf .u8 (cells8 f)) 66) 67 (cells8 zrow))
  have HB := Aside0.mk (below_alloc (below_alloc (Below.refl w.heap.size w) (.cells (cellsOf .u8 (cells8 f)) 66)) (.cells (cellsOf .u8 (cells8 zrow)) 67))
  go_enter Try.func126, Try.ntmps126
  go_wp2_with (first
    | ((with_reducible refine gate_dst (N := 3) rfl ?_); refine Mem.load M1.out rfl 66 (.tmp 1) rfl rfl Try.underlying66 (by rw [cells8_length]; exact info_c8) ?_)
    | (go_at_call 134; (with_reducible refine (HC.out.q _).mono ?_); rintro e w1 ⟨rfl, hb1⟩; have M2 := Aside0.mk (Mem.below M2.out hb1); have HB := Aside0.mk (below_step HB.out hb1))
    | ((with_reducible refine gate_store (t := 67) (p := 2) rfl ?_); refine Mem.store (l' := cells8 (flipF f)) M2.out rfl 67 (.tmp 2) (.tmp 4) rfl rfl rfl (by rw [cells8_length]; exact info_mat) (by rw [cells8_length, cells8_length]) ?_))
  refine bodyPost_ret (v := .agg (cellsOf .u8 (cells8 (flipF f)))) (results_cell_row rfl _ _ _ _ _ _ _ rfl (Mem.put M2.out (cells8 (flipF f))) Try.underlying67 rfl (by rw [cellsOf_size, cells8_length]; exact info_mat)) rfl ⟨rfl, below_setRow HB.out (by omega) _⟩
end Go.Proofs.Ytphdlidaigalkaa.Mat
