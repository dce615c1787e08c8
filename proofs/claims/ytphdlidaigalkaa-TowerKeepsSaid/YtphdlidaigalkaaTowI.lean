/-
  The law of the tower's answers, walked.
-/
import Derived.Test.YtphdlidaigalkaaTowH
namespace Go.Proofs.Ytphdlidaigalkaa.Mat
open Go.RowKit Go.Proofs.Ytphdlidaigalkaa.PNib Go.Proofs.YtphdlidaigalkaaW.PrintWords Go.Proofs.YtphdlidaigalkaaW.PrintLast Go.Proofs.YtphdlidaigalkaaW.PrintMore Byte Sl Arr Mem Gives ArrEq
set_option linter.unusedVariables false
set_option linter.unusedSimpArgs false
set_option maxHeartbeats 4000000
set_option maxRecDepth 100000
def colTo' (j : Nat) : Rows := fun k => if k < j then TowE.cols k else 0#8
theorem colTo'_zero : cells8 (colTo' 0) = cells8 zrow := cells8_congr fun k _ => rfl
theorem colTo'_end : cells8 (flipF (colTo' 8)) = cells8 inF := cells8_congr fun k hk => ext8 fun j hj => by
  unfold inF
  rw [flip_bit _ _ _ hj, flip_bit _ _ _ hj]
  unfold colTo'
  rw [if_pos hj]
theorem colTo'_set (j : Nat) (hj : j < 8) : (cells8 (colTo' j)).set j (I8 (TowE.cols j)) = cells8 (colTo' (j + 1)) := by
  rw [cells8_set _ _ hj]
  refine put_congr fun k _ => ?_
  unfold colTo'
  by_cases h : k = j
  · subst h; simp
  · by_cases h2 : k < j
    · simp [h, h2, show k < j + 1 by omega]
    · simp [h, h2, show ¬ k < j + 1 by omega]
theorem rinmat_c : GivesB 31 #[] (.agg (cellsOf .u8 (cells8 inF))) := by
  intro w
  have M1 := Aside0.mk (Mem.alloc (Mem.new .u8 w 67 (cells8 zrow)) (.cells (cellsOf .u8 (cells8 zrow)) 66))
  have M2 := Aside0.mk (Mem.new2 .u8 w (.cells (cellsOf .u8 (cells8 zrow)) 67) 66 (cells8 zrow))
  have HB := Aside0.mk (below_alloc (below_alloc (Below.refl w.heap.size w) (.cells (cellsOf .u8 (cells8 zrow)) 67)) (.cells (cellsOf .u8 (cells8 zrow)) 66))
  go_enter Try.func31, Try.ntmps31
  go_wp2_with (first
    | ((with_reducible refine gate_dst (N := 3) rfl ?_); refine wpList_build_zero rfl 66 rfl _ built8c ?_)
    | ((with_reducible refine gate_store (t := 66) (p := 1) rfl ?_); refine Mem.store (l' := cells8 zrow) M2.out rfl 66 (.tmp 1) (.tmp 3) rfl rfl rfl (by rw [cells8_length]; exact info_c8) (by simp only [cells8_length]) ?_))
  have N1 := Aside0.mk (Mem.row M1.out (g' := w.heap.size + 1) (by omega) (cellsOf .u8 (cells8 zrow)))
  have N2 := Aside0.mk (Mem.put M2.out (cells8 zrow))
  have NB := Aside0.mk (below_setRow HB.out (g := w.heap.size + 1) (by omega) (cellsOf .u8 (cells8 zrow)))
  clear M1 M2 HB
  go_loopg [2] 8 (fun kq iv w' => ∃ j : Nat, j + kq = 8 ∧ iv = .int .i64 j ∧ Aside0 (Mem .u8 w' w.heap.size 67 (cells8 zrow)) ∧ Aside0 (Mem .u8 w' (w.heap.size + 1) 66 (cells8 (colTo' j))) ∧ Aside0 (Below w.heap.size w w'))
  case atStart => exact ⟨0, by omega, rfl, N1, ⟨by rw [colTo'_zero]; exact N2.out⟩, NB⟩
  case round =>
    clear N1 N2 NB
    obtain ⟨j, hj, rfl, M1, M2, HB⟩ := hrel
    cases gk with
    | zero =>
      obtain rfl : j = 8 := by omega
      have HC := rcolumns_c (colTo' 8)
      rw [matV_eq, matV_eq, colTo'_end] at HC
      have HC := Aside0.mk HC
      go_wp2_with (first
        | ((with_reducible refine gate_dst (N := 14) rfl ?_); refine Mem.load M2.out rfl 66 (.tmp 1) rfl rfl Try.underlying66 (by rw [cells8_length]; exact info_c8) ?_)
        | (go_at_call 88; (with_reducible refine (HC.out.q _).mono ?_); rintro e w1 ⟨rfl, hb1⟩; have M1 := Aside0.mk (Mem.below M1.out hb1); have HB := Aside0.mk (below_step HB.out hb1))
        | ((with_reducible refine gate_store (t := 67) (p := 0) rfl ?_); refine Mem.store (l' := cells8 inF) M1.out rfl 67 (.tmp 0) (.tmp 15) rfl rfl rfl (by rw [cells8_length]; exact info_mat) (by simp only [cells8_length]) ?_))
      refine bodyPost_ret (v := .agg (cellsOf .u8 (cells8 (inF)))) (results_cell_row rfl _ _ _ _ _ _ _ rfl (Mem.put M1.out (cells8 (inF))) Try.underlying67 rfl (by rw [cellsOf_size, cells8_length]; exact info_mat)) rfl ⟨rfl, below_setRow HB.out (by omega) _⟩
    | succ k1 =>
      have hlt : j < 8 := by omega
      have HJ := Aside0.mk hj
      clear hj
      have HV := Aside0.mk (colTo'_set j hlt)
      have hb1 : (j : Int) < 8 := by omega
      have hb2 : (j : Int) ≤ 8 := by omega
      have hb3 : (0 : Int) ≤ (j : Int) := by omega
      have hjw := wrapu j (by omega)
      have hs := shl1 j
      have HC := Aside0.mk (rin_c j hlt).b
      generalize hu : 1#8 <<< j = u at *
      clear hu
      generalize TowE.cols j = cj at *
      go_wp2_with (first
        | (go_at_call 87; (with_reducible refine (HC.out.q _).mono ?_); rintro e w2 ⟨rfl, hb2⟩; have M1 := Aside0.mk (Mem.below M1.out hb2); have M2 := Aside0.mk (Mem.below M2.out hb2); have HB := Aside0.mk (below_step HB.out hb2); have hx := M2.out.cell j (by rw [cells8_length]; exact hlt); have hf := M2.out.free j))
      go_roundg k1
      case measure => omega
      case rel => exact ⟨j + 1, by have := HJ.out; omega, by go_num, ⟨Mem.other M1.out (g' := w.heap.size + 1) (by omega) _ _⟩, ⟨by rw [← HV.out]; exact Mem.set M2.out _ _⟩, ⟨below_set HB.out (by omega)⟩⟩
theorem routmat_c : GivesB 33 #[] (.agg (cellsOf .u8 (cells8 outF))) := by
  intro w
  have M1 := Aside0.mk (Mem.new .u8 w 67 (cells8 zrow))
  have HB := Aside0.mk (below_alloc (Below.refl w.heap.size w) (.cells (cellsOf .u8 (cells8 zrow)) 67))
  have C1 := Aside0.mk rinmat_c
  have C2 := Aside0.mk (rinv_c inF)
  rw [matV_eq] at C2
  go_enter Try.func33, Try.ntmps33
  go_wp2_with (first
    | (go_at_call 31; (with_reducible refine (C1.out.q _).mono ?_); rintro e w1 ⟨rfl, hb1⟩; have M1 := Aside0.mk (Mem.below M1.out hb1); have HB := Aside0.mk (below_step HB.out hb1))
    | (go_at_call 89; (with_reducible refine (C2.out _).mono ?_); rintro e w2 ⟨g2, ok2, rfl, hI, hb2⟩; have HI := Aside0.mk (rinv_out hI).2; have lt1 := Nat.lt_of_lt_of_le M1.out.lt hb2.size; have M1 := Aside0.mk (Mem.row (Mem.alloc (Mem.below M1.out hb2) (.cells (cellsOf .u8 (cells8 zrow)) 67)) (g' := w2.heap.size) (by omega) (cellsOf .u8 (cells8 outF))); have Z2 := Aside0.mk (Mem.new .u8 w2 67 (cells8 zrow)); have N2 := Aside0.mk (Mem.put Z2.out (cells8 outF)); have hs2 := (below_step HB.out hb2).size; have HB := Aside0.mk (below_setRow (below_alloc (below_step HB.out hb2) (.cells (cellsOf .u8 (cells8 zrow)) 67)) (g := w2.heap.size) hs2 (cellsOf .u8 (cells8 outF))); rw [matV_eq, HI.out]; clear hI hb2)
    | ((with_reducible refine gate_store (t := 67) (p := 1) rfl ?_); refine Mem.store (l' := cells8 outF) Z2.out rfl 67 (.tmp 1) (.tmp 6) rfl rfl rfl (by rw [cells8_length]; exact info_mat) (by simp only [cells8_length]) ?_)
    | ((with_reducible refine gate_dst (N := 8) rfl ?_); refine Mem.load N2.out rfl 67 (.tmp 1) rfl rfl Try.underlying67 (by rw [cells8_length]; exact info_mat) ?_)
    | ((with_reducible refine gate_store (t := 67) (p := 0) rfl ?_); refine Mem.store (l' := cells8 outF) M1.out rfl 67 (.tmp 0) (.tmp 8) rfl rfl rfl (by rw [cells8_length]; exact info_mat) (by simp only [cells8_length]) ?_))
  refine bodyPost_ret (v := .agg (cellsOf .u8 (cells8 (outF)))) (results_cell_row rfl _ _ _ _ _ _ _ rfl (Mem.put M1.out (cells8 (outF))) Try.underlying67 rfl (by rw [cellsOf_size, cells8_length]; exact info_mat)) rfl ⟨rfl, below_setRow HB.out (by omega) _⟩
end Go.Proofs.Ytphdlidaigalkaa.Mat
