/-
  Mul of mat, and the document's Mul, walked.
-/
import Derived.Test.YtphdlidaigalkaaMatC
namespace Go.Proofs.Ytphdlidaigalkaa.Mat
open Go.RowKit Go.Proofs.YtphdlidaigalkaaW.PrintWords Go.Proofs.YtphdlidaigalkaaW.PrintLast Go.Proofs.YtphdlidaigalkaaW.PrintMore Byte Sl Arr Mem Gives ArrEq
set_option linter.unusedVariables false
set_option linter.unusedSimpArgs false
set_option maxHeartbeats 4000000
set_option maxRecDepth 100000
theorem new4 (k : IntKind) (w : World) (o1 o2 o3 : Obj) (t : TypeId) (l : List Int) : Mem k ((((w.alloc o1).alloc o2).alloc o3).alloc (.cells (cellsOf k l) t)) (w.heap.size + 3) t l := by
  have h := Mem.new k (((w.alloc o1).alloc o2).alloc o3) t l
  have hs : (((w.alloc o1).alloc o2).alloc o3).heap.size = w.heap.size + 3 := by
    show (((w.heap.push o1).push o2).push o3).size = _
    simp
  rwa [hs] at h
theorem load_yields {o : Oper} {a : Act} {w' : World} {ty : TypeId} {x : Operand} {g : Nat} {v : Value} (ho : o.op = .load ty x) (hx : a.eval x = .pointer (some ⟨g, 0, none⟩)) (h : (loadVar ty ⟨g, 0, none⟩).run Try.prog w' = .ok v w') : (execOp a.eval o).run Try.prog w' = .ok (.value v) w' := by
  unfold execOp
  simp only [ho, hx, Instr.loadAt, Instr.sureAddr, Sem.run_bind, Sem.run_pure, Result.andThen_ok, h]
theorem eql_yields {o : Oper} {a : Act} {w' : World} {op : BinOp} {ty z : TypeId} {x y : Operand} {xs ys : Array Value} {v : Value} (ho : o.op = .binOp op ty x y z) (hx : a.eval x = .agg xs) (hy : a.eval y = .agg ys) (hm : Try.prog.eqGuardType Try.prog.depth ty = false) (h : (binOp op ty (.agg xs) (.agg ys)).run Try.prog w' = .ok v w') : (execOp a.eval o).run Try.prog w' = .ok (.value v) w' := by
  unfold execOp
  simp only [ho, hx, hy, Sem.run_bind, Sem.run_pure, Result.andThen_ok, run_eqGuard_agg _ _ _ _ _ _ _ hm, h]
theorem wpList_eql_row {P : Program} {ops : Array Oper} {rest : List Oper} {o : Oper} {a : Act} {w : World} {Q : Exit → Act → World → Prop} (hgd : o.guard = none) {op : BinOp} {ty z : TypeId} {x y : Operand} (ho : o.op = .binOp op ty x y z) {xs ys : Array Value} (hx : a.eval x = .agg xs) (hy : a.eval y = .agg ys) (hm : P.eqGuardType P.depth ty = false) {v : Value} (h : (binOp op ty (.agg xs) (.agg ys)).run P w = .ok v w)
    (hK : wpList P ops Q rest (a.put o.dst v) w) : wpList P ops Q (o :: rest) a w :=
  wpList_plain hgd fun _ hK' => by
    unfold Oper.wp execOp
    simp only [ho, hx, hy, Sem.run_bind, Sem.run_pure, Result.andThen_ok, run_eqGuard_agg _ _ _ _ _ _ _ hm, h]
    exact hK' _ _ hK
theorem guardM : Try.prog.eqGuardType Try.prog.depth 67 = false := by kernel_rfl
theorem mem_loads {w : World} {g : Nat} {f : Rows} (h : Mem .u8 w g 67 (cells8 f)) : (loadVar 67 ⟨g, 0, none⟩).run Try.prog w = .ok (.agg (cellsOf .u8 (cells8 f))) w :=
  run_loadVar_row w g _ _ _ _ _ h Try.underlying67 rfl (by rw [cellsOf_size, cells8_length]; exact info_mat)
theorem eqs (f g : Rows) (w : World) : (binOp .eql 67 (.agg (cellsOf .u8 (cells8 f))) (.agg (cellsOf .u8 (cells8 g)))).run Try.prog w = .ok (.bool (decide (cells8 f = cells8 g))) w :=
  run_eql_arr Try.underlying67 Try.underlying5 info_w8 _ _ (cells8_length _) (cells8_length _) w
theorem neqs (f g : Rows) (w : World) : (binOp .neq 67 (.agg (cellsOf .u8 (cells8 f))) (.agg (cellsOf .u8 (cells8 g)))).run Try.prog w = .ok (.bool (!decide (cells8 f = cells8 g))) w :=
  run_neq_arr Try.underlying67 Try.underlying5 info_w8 _ _ (cells8_length _) (cells8_length _) w
/-! ### Mul -/
def mrow (f g : Rows) (k : Nat) : Nat → BitVec 8
  | 0 => 0#8
  | n + 1 => mrow f g k n ^^^ (if (f k).getLsbD n then g n else 0#8)
def mulF (f g : Rows) : Rows := fun k => mrow f g k 8
def mulTo (f g : Rows) (i j : Nat) : Rows := fun k => mrow f g k (if k < i then 8 else if k = i then j else 0)
theorem mulTo_zero (f g : Rows) : cells8 (mulTo f g 0 0) = cells8 zrow := cells8_congr fun k _ => by
  unfold mulTo
  rw [if_neg (by omega), ite_self]; rfl
theorem mulTo_next (f g : Rows) (i : Nat) : cells8 (mulTo f g i 8) = cells8 (mulTo f g (i + 1) 0) := cells8_congr fun k _ => by
  unfold mulTo
  by_cases h : k < i
  · rw [if_pos h, if_pos (by omega)]
  · by_cases h2 : k = i
    · rw [if_neg h, if_pos h2, if_pos (by omega)]
    · rw [if_neg h, if_neg h2, if_neg (by omega), ite_self]
theorem mulTo_end (f g : Rows) : cells8 (mulTo f g 8 0) = cells8 (mulF f g) := cells8_congr fun k hk => by
  unfold mulTo
  rw [if_pos hk]; rfl
theorem mulTo_set (f g : Rows) (i j : Nat) (hi : i < 8) : (cells8 (mulTo f g i j)).set i (I8 (mulTo f g i j i ^^^ (if (f i).getLsbD j then g j else 0#8))) = cells8 (mulTo f g i (j + 1)) := by
  rw [cells8_set _ _ hi]
  refine put_congr fun k _ => ?_
  unfold mulTo
  by_cases h : k = i
  · subst h
    simp [mrow]
  · rw [if_neg h]
    by_cases h2 : k < i
    · rw [if_pos h2, if_pos h2]
    · rw [if_neg h2, if_neg h, if_neg h2, if_neg h]
theorem mulTo_no (f g : Rows) (i j : Nat) (hb : (f i).getLsbD j = false) : cells8 (mulTo f g i (j + 1)) = cells8 (mulTo f g i j) := cells8_congr fun k _ => by
  unfold mulTo
  by_cases h : k = i
  · subst h
    simp [mrow, hb]
  · by_cases h2 : k < i
    · rw [if_pos h2, if_pos h2]
    · rw [if_neg h2, if_neg h, if_neg h2, if_neg h]
theorem mul_c (f g : Rows) : GivesB 129 #[matV f, matV g] (matV (mulF f g)) := by
  intro w
  rw [matV_eq, matV_eq, matV_eq]
  have M1 := Aside0.mk (Mem.alloc (Mem.alloc (Mem.alloc (Mem.new .u8 w 67 (cells8 f)) (.cells (cellsOf .u8 (cells8 g)) 67)) (.cells (cellsOf .u8 (cells8 zrow)) 67)) (.cells (cellsOf .u8 (cells8 zrow)) 67))
  have M2 := Aside0.mk (Mem.alloc (Mem.alloc (Mem.new2 .u8 w (.cells (cellsOf .u8 (cells8 f)) 67) 67 (cells8 g)) (.cells (cellsOf .u8 (cells8 zrow)) 67)) (.cells (cellsOf .u8 (cells8 zrow)) 67))
  have M3 := Aside0.mk (Mem.alloc (Mem.new3 .u8 w (.cells (cellsOf .u8 (cells8 f)) 67) (.cells (cellsOf .u8 (cells8 g)) 67) 67 (cells8 zrow)) (.cells (cellsOf .u8 (cells8 zrow)) 67))
  have M4 := Aside0.mk (new4 .u8 w (.cells (cellsOf .u8 (cells8 f)) 67) (.cells (cellsOf .u8 (cells8 g)) 67) (.cells (cellsOf .u8 (cells8 zrow)) 67) 67 (cells8 zrow))
  have HB := Aside0.mk (below_alloc (below_alloc (below_alloc (below_alloc (Below.refl w.heap.size w) (.cells (cellsOf .u8 (cells8 f)) 67)) (.cells (cellsOf .u8 (cells8 g)) 67)) (.cells (cellsOf .u8 (cells8 zrow)) 67)) (.cells (cellsOf .u8 (cells8 zrow)) 67))
  go_enter Try.func129, Try.ntmps129
  go_wp2_with (first
    | ((with_reducible refine gate_dst (N := 9) rfl ?_); refine Mem.load M1.out rfl 67 (.tmp 2) rfl rfl Try.underlying67 (by rw [cells8_length]; exact info_mat) ?_))
  go_loopg [10] 8 (fun kq i w' => ∃ j : Nat, j + kq = 8 ∧ i = .int .i64 j ∧ Aside0 (Mem .u8 w' (w.heap.size + 1) 67 (cells8 g)) ∧ Aside0 (Mem .u8 w' (w.heap.size + 2) 67 (cells8 zrow)) ∧ Aside0 (Mem .u8 w' (w.heap.size + 3) 67 (cells8 (mulTo f g j 0))) ∧ Aside0 (Below w.heap.size w w'))
  case atStart => exact ⟨0, by omega, rfl, M2, M3, ⟨by rw [mulTo_zero]; exact M4.out⟩, HB⟩
  case round =>
    clear M1 M2 M3 M4 HB
    obtain ⟨i, hi, rfl, M2, M3, M4, HB⟩ := hrel
    cases gk with
    | zero =>
      obtain rfl : i = 8 := by omega
      rw [mulTo_end] at M4
      go_wp2_with (first
        | ((with_reducible refine gate_dst (N := 32) rfl ?_); refine Mem.load M4.out rfl 67 (.tmp 5) rfl rfl Try.underlying67 (by rw [cells8_length]; exact info_mat) ?_)
        | ((with_reducible refine gate_store (t := 67) (p := 4) rfl ?_); refine Mem.store (l' := cells8 (mulF f g)) M3.out rfl 67 (.tmp 4) (.tmp 32) rfl rfl rfl (by rw [cells8_length]; exact info_mat) (by simp only [cells8_length]) ?_))
      refine bodyPost_ret (v := .agg (cellsOf .u8 (cells8 (mulF f g)))) (results_cell_row rfl _ _ _ _ _ _ _ rfl (Mem.put M3.out (cells8 (mulF f g))) Try.underlying67 rfl (by rw [cellsOf_size, cells8_length]; exact info_mat)) rfl ⟨rfl, below_setRow HB.out (by omega) _⟩
    | succ k1 =>
      have hil : i < 8 := by omega
      have HI := Aside0.mk hi
      clear hi
      have hix := run_index_arr (k := .u8) (P := Try.prog) (l := cells8 f) Try.underlying67 Try.underlying5 info_w8 (cells8_length f) i hil
      rw [cells8_get f i hil] at hix
      have hb1 : (i : Int) < 8 := by omega
      have hb2 : (i : Int) ≤ 8 := by omega
      have hb3 : (0 : Int) ≤ (i : Int) := by omega
      go_wp2
      clear hix
      go_loopg [14] 8 (fun kq q w' => ∃ j : Nat, j + kq = 8 ∧ q = .int .i64 j ∧ Aside0 (Mem .u8 w' (w.heap.size + 1) 67 (cells8 g)) ∧ Aside0 (Mem .u8 w' (w.heap.size + 2) 67 (cells8 zrow)) ∧ Aside0 (Mem .u8 w' (w.heap.size + 3) 67 (cells8 (mulTo f g i j))) ∧ Aside0 (Below w.heap.size w w'))
      case atStart => exact ⟨0, by omega, rfl, M2, M3, M4, HB⟩
      case round =>
        clear M2 M3 M4 HB
        obtain ⟨j, hj, rfl, M2, M3, M4, HB⟩ := hrel
        cases gk with
        | zero =>
          obtain rfl : j = 8 := by omega
          go_wp2
          go_roundg k1
          case measure => omega
          case rel => exact ⟨i + 1, by have := HI.out; omega, by go_num, M2, M3, ⟨by rw [← mulTo_next]; exact M4.out⟩, HB⟩
        | succ k2 =>
          have hjl : j < 8 := by omega
          have HJ := Aside0.mk hj
          clear hj
          have hj1 : (j : Int) < 8 := by omega
          have hj2 : (j : Int) ≤ 8 := by omega
          have hj3 : (0 : Int) ≤ (j : Int) := by omega
          have hs := shr8 (f i) j
          have ha := and_one8 (f i >>> j)
          rw [shr_bit] at ha
          rcases Bool.eq_false_or_eq_true ((f i).getLsbD j) with hb | hb
          · have HV := Aside0.mk (mulTo_set f g i j hil)
            rw [if_pos hb] at HV
            rw [hb] at ha
            have ha1 : Go.bits .and .u8 (I8 (f i >>> j)) 1 = 1 := ha
            clear hb ha
            have hx := M4.out.cell i (by rw [cells8_length]; exact hil)
            rw [cells8_get _ _ hil] at hx
            have hy := M2.out.cell j (by rw [cells8_length]; exact hjl)
            rw [cells8_get _ _ hjl] at hy
            have hf := M4.out.free i
            rw [← xor8] at HV
            generalize mulTo f g i j i = row at *
            generalize f i >>> j = s at *
            go_wp2
            refine start_ (n := 9) (S := fun w' => w'.cell? ⟨w.heap.size + 3, i, none⟩ = some (.int .u8 (I8 row)) ∧ w'.cell? ⟨w.heap.size + 1, j, none⟩ = some (.int .u8 (I8 (g j)))) (ds := [8]) #[false, false, false, false, false, false, false, false, false] (by kernel_rfl) rfl rfl ⟨hx, hy⟩ (fun hHeld => ?_)
            refine pure_ (i := 0) (N := some 22) (v := ?_) (a' := ?_) #[true, false, false, false, false, false, false, false, false] rfl rfl (by kernel_rfl) (fun _ _ _ h => h) (Or.inl ⟨by rfl, ?_⟩) ?_ ?_
            rotate_left
            · intro w'
              go_simp
              with_reducible rfl
            rotate_left
            · simp only [Act.put, List.setIfInBounds_toArray, List.set_cons_zero, List.set_cons_succ, i64_w, i32_w]
              rfl
            refine pure_ (i := 1) (N := some 23) (v := ?_) (a' := ?_) #[true, true, false, false, false, false, false, false, false] rfl rfl (by kernel_rfl) (fun _ _ _ h => h) (Or.inl ⟨by rfl, ?_⟩) ?_ ?_
            rotate_left
            · intro w'
              go_simp
              with_reducible rfl
            rotate_left
            · simp only [Act.put, List.setIfInBounds_toArray, List.set_cons_zero, List.set_cons_succ, i64_w, i32_w]
              rfl
            refine pure_ (i := 3) (N := some 25) (v := ?_) (a' := ?_) #[true, true, false, true, false, false, false, false, false] rfl rfl (by kernel_rfl) (fun _ _ _ h => h) (Or.inl ⟨by rfl, ?_⟩) ?_ ?_
            rotate_left
            · intro w'
              go_simp
              with_reducible rfl
            rotate_left
            · simp only [Act.put, List.setIfInBounds_toArray, List.set_cons_zero, List.set_cons_succ, i64_w, i32_w]
              rfl
            refine pure_ (i := 4) (N := some 26) (v := ?_) (a' := ?_) #[true, true, false, true, true, false, false, false, false] rfl rfl (by kernel_rfl) (fun _ _ _ h => h) (Or.inl ⟨by rfl, ?_⟩) ?_ ?_
            rotate_left
            · intro w'
              go_simp
              with_reducible rfl
            rotate_left
            · simp only [Act.put, List.setIfInBounds_toArray, List.set_cons_zero, List.set_cons_succ, i64_w, i32_w]
              rfl
            refine take_ (i := 2) (N := some 24) (v := ?_) (a' := ?_) #[true, true, true, true, true, false, false, false, false] rfl rfl (by kernel_rfl) (fun _ _ _ h => h) (Or.inl ⟨by rfl, ?_⟩) hHeld ?_ ?_
            rotate_left
            · rintro w' ⟨s0, s1⟩
              go_simp
              with_reducible rfl
            rotate_left
            · simp only [Act.put, List.setIfInBounds_toArray, List.set_cons_zero, List.set_cons_succ, i64_w, i32_w]
              rfl
            refine take_ (i := 5) (N := some 27) (v := ?_) (a' := ?_) #[true, true, true, true, true, true, false, false, false] rfl rfl (by kernel_rfl) (fun _ _ _ h => h) (Or.inl ⟨by rfl, ?_⟩) hHeld ?_ ?_
            rotate_left
            · rintro w' ⟨s0, s1⟩
              go_simp
              with_reducible rfl
            rotate_left
            · simp only [Act.put, List.setIfInBounds_toArray, List.set_cons_zero, List.set_cons_succ, i64_w, i32_w]
              rfl
            refine pure_ (i := 6) (N := some 28) (v := ?_) (a' := ?_) #[true, true, true, true, true, true, true, false, false] rfl rfl (by kernel_rfl) (fun _ _ _ h => h) (Or.inl ⟨by rfl, ?_⟩) ?_ ?_
            rotate_left
            · intro w'
              go_simp
              with_reducible rfl
            rotate_left
            · simp only [Act.put, List.setIfInBounds_toArray, List.set_cons_zero, List.set_cons_succ, i64_w, i32_w]
              rfl
            refine pure_ (i := 7) (N := some 29) (v := ?_) (a' := ?_) #[true, true, true, true, true, true, true, true, false] rfl rfl (by kernel_rfl) (fun _ _ _ h => h) (Or.inl ⟨by rfl, ?_⟩) ?_ ?_
            rotate_left
            · intro w'
              go_simp
              with_reducible rfl
            rotate_left
            · simp only [Act.put, List.setIfInBounds_toArray, List.set_cons_zero, List.set_cons_succ, i64_w, i32_w]
              rfl
            refine last_ (i := 8) (N := none) #[true, true, true, true, true, true, true, true, true] rfl rfl (by kernel_rfl) (by decide) (fun K hK => ?_)
            refine skip_ (w1 := ?_) (by rfl) rfl ?_ ?_
            rotate_left
            · go_simp
              rfl
            refine hK.out _ _ ?_
            clear hK K
            refine done_ (by kernel_rfl) ?_
            go_wp2
            go_roundg k2
            case measure => omega
            case rel => exact ⟨j + 1, by have := HJ.out; omega, by go_num, ⟨Mem.drew (Mem.other M2.out (g' := w.heap.size + 3) (by omega) _ _)⟩, ⟨Mem.drew (Mem.other M3.out (g' := w.heap.size + 3) (by omega) _ _)⟩, ⟨by rw [← HV.out]; exact Mem.drew (Mem.set M4.out _ _)⟩, ⟨below_drew (below_set HB.out (by omega))⟩⟩
          · have HV := Aside0.mk (mulTo_no f g i j hb)
            rw [hb] at ha
            have ha1 : Go.bits .and .u8 (I8 (f i >>> j)) 1 = 0 := ha
            clear hb ha
            generalize f i >>> j = s at *
            go_wp2
            go_roundg k2
            case measure => omega
            case rel => exact ⟨j + 1, by have := HJ.out; omega, by go_num, M2, M3, ⟨by rw [HV.out]; exact M4.out⟩, HB⟩
def rmulC (f g : Rows) : Rows := fun k => app f (app g (1#8 <<< k))
end Go.Proofs.Ytphdlidaigalkaa.Mat
