/-
  Rows of a block, moved, by lists: the callers. No condition.
-/
import Derived.Test.YtpdikfmdnlhllaaXAesMov
namespace Go.Proofs.Ytpdikfmdnlhllaa.AesLin
open Go.RowKit Go.Proofs.YtpdikfmdnlhllaaW.PrintWords Go.Proofs.YtpdikfmdnlhllaaW.PrintLast Go.Proofs.YtpdikfmdnlhllaaW.PrintMore Byte Sl Arr Mem Gives AesMov
set_option linter.unusedVariables false
def z16 : List Int := List.replicate 16 0
set_option maxHeartbeats 4000000 in
set_option maxRecDepth 100000 in
theorem arows_c (l : List Int) (hl : l.length = 16) (w : World) : Calls Try.prog 22 #[.agg (cellsOf .u8 l)] w fun e w' => e = .returned (.agg (cellsOf .u8 (rowsL l))) ∧ Below w.heap.size w w' := by
  have HL := Aside0.mk hl
  have HR := Aside0.mk (rowsL_length l)
  have M1 := Aside0.mk (Mem.alloc (Mem.new .u8 w 31 l) (.cells (cellsOf .u8 z16) 31))
  have M2 := Aside0.mk (Mem.new2 .u8 w (.cells (cellsOf .u8 l) 31) 31 z16)
  have HB := Aside0.mk (below_alloc (below_alloc (Below.refl w.heap.size w) (.cells (cellsOf .u8 l) 31)) (.cells (cellsOf .u8 z16) 31))
  have C1 := Aside0.mk (fun w0 => moved1_l l hl w0)
  generalize rowsL l = r1 at *
  obtain ⟨cl, hcl⟩ : ∃ cs, cs = cellsOf .u8 l := ⟨_, rfl⟩
  have HCL := Aside0.mk hcl
  rw [← hcl] at M2 HB C1 ⊢
  clear hl
  have M1 := Aside0.mk (show Mem .u8 ((w.alloc (.cells cl 31)).alloc (.cells (cellsOf .u8 z16) 31)) w.heap.size 31 l by rw [hcl]; exact M1.out)
  clear hcl
  go_enter Try.func22, Try.ntmps22
  go_wp2_with (first
    | ((with_reducible refine gate_dst (N := 3) rfl ?_); refine Mem.load M1.out rfl 31 (.tmp 1) rfl rfl Try.underlying31 (by rw [HL.out]; exact info16) ?_; rw [← HCL.out])
    | (go_at_call 70; (refine (C1.out _).mono ?_); clear C1; rintro e w' ⟨rfl, hb⟩; have M2 := Aside0.mk (Mem.below M2.out hb); have HB := Aside0.mk (below_step HB.out hb); clear hb)
    | ((with_reducible refine gate_store (t := 31) (p := 2) rfl ?_); refine Mem.store (l' := r1) M2.out rfl 31 (.tmp 2) (.tmp 4) rfl rfl rfl (by rw [HR.out]; exact info16) (by rw [HR.out]; rfl) ?_))
  refine bodyPost_ret (v := .agg (cellsOf .u8 r1)) (results_cell_row rfl _ _ _ _ _ _ _ rfl (Mem.put M2.out r1) Try.underlying31 rfl (by rw [cellsOf_size, HR.out]; exact info16)) rfl ⟨rfl, below_setRow HB.out (by omega) _⟩
set_option maxHeartbeats 4000000 in
set_option maxRecDepth 100000 in
theorem aback_c (l : List Int) (hl : l.length = 16) (w : World) : Calls Try.prog 26 #[.agg (cellsOf .u8 l)] w fun e w' => e = .returned (.agg (cellsOf .u8 (backL l))) ∧ Below w.heap.size w w' := by
  have HL := Aside0.mk hl
  have HR := Aside0.mk (backL_length l)
  have M1 := Aside0.mk (Mem.alloc (Mem.new .u8 w 31 l) (.cells (cellsOf .u8 z16) 31))
  have M2 := Aside0.mk (Mem.new2 .u8 w (.cells (cellsOf .u8 l) 31) 31 z16)
  have HB := Aside0.mk (below_alloc (below_alloc (Below.refl w.heap.size w) (.cells (cellsOf .u8 l) 31)) (.cells (cellsOf .u8 z16) 31))
  have C1 := Aside0.mk (fun w0 => moved3_l l hl w0)
  generalize backL l = r1 at *
  obtain ⟨cl, hcl⟩ : ∃ cs, cs = cellsOf .u8 l := ⟨_, rfl⟩
  have HCL := Aside0.mk hcl
  rw [← hcl] at M2 HB C1 ⊢
  clear hl
  have M1 := Aside0.mk (show Mem .u8 ((w.alloc (.cells cl 31)).alloc (.cells (cellsOf .u8 z16) 31)) w.heap.size 31 l by rw [hcl]; exact M1.out)
  clear hcl
  go_enter Try.func26, Try.ntmps26
  go_wp2_with (first
    | ((with_reducible refine gate_dst (N := 3) rfl ?_); refine Mem.load M1.out rfl 31 (.tmp 1) rfl rfl Try.underlying31 (by rw [HL.out]; exact info16) ?_; rw [← HCL.out])
    | (go_at_call 70; (refine (C1.out _).mono ?_); clear C1; rintro e w' ⟨rfl, hb⟩; have M2 := Aside0.mk (Mem.below M2.out hb); have HB := Aside0.mk (below_step HB.out hb); clear hb)
    | ((with_reducible refine gate_store (t := 31) (p := 2) rfl ?_); refine Mem.store (l' := r1) M2.out rfl 31 (.tmp 2) (.tmp 4) rfl rfl rfl (by rw [HR.out]; exact info16) (by rw [HR.out]; rfl) ?_))
  refine bodyPost_ret (v := .agg (cellsOf .u8 r1)) (results_cell_row rfl _ _ _ _ _ _ _ rfl (Mem.put M2.out r1) Try.underlying31 rfl (by rw [cellsOf_size, HR.out]; exact info16)) rfl ⟨rfl, below_setRow HB.out (by omega) _⟩
set_option maxHeartbeats 4000000 in
set_option maxRecDepth 100000 in
theorem rback_c (l : List Int) (hl : l.length = 16) (w : World) : Calls Try.prog 27 #[.agg (cellsOf .u8 l)] w fun e w' => e = .returned (.agg (cellsOf .u8 (rowsL (rowsL (rowsL l))))) ∧ Below w.heap.size w w' := by
  have HL := Aside0.mk hl
  have HR := Aside0.mk (rowsL_length (rowsL (rowsL l)))
  have M1 := Aside0.mk (Mem.alloc (Mem.new .u8 w 31 l) (.cells (cellsOf .u8 z16) 31))
  have M2 := Aside0.mk (Mem.new2 .u8 w (.cells (cellsOf .u8 l) 31) 31 z16)
  have HB := Aside0.mk (below_alloc (below_alloc (Below.refl w.heap.size w) (.cells (cellsOf .u8 l) 31)) (.cells (cellsOf .u8 z16) 31))
  have C1 := Aside0.mk (fun w0 => rrows_l l hl w0)
  have C2 := Aside0.mk (fun w0 => rrows_l (rowsL l) (rowsL_length l) w0)
  have C3 := Aside0.mk (fun w0 => rrows_l (rowsL (rowsL l)) (rowsL_length (rowsL l)) w0)
  generalize rowsL l = r1 at *
  generalize rowsL r1 = r2 at *
  generalize rowsL r2 = r3 at *
  obtain ⟨cl, hcl⟩ : ∃ cs, cs = cellsOf .u8 l := ⟨_, rfl⟩
  have HCL := Aside0.mk hcl
  rw [← hcl] at M2 HB C1 ⊢
  clear hl
  have M1 := Aside0.mk (show Mem .u8 ((w.alloc (.cells cl 31)).alloc (.cells (cellsOf .u8 z16) 31)) w.heap.size 31 l by rw [hcl]; exact M1.out)
  clear hcl
  go_enter Try.func27, Try.ntmps27
  go_wp2_with (first
    | ((with_reducible refine gate_dst (N := 3) rfl ?_); refine Mem.load M1.out rfl 31 (.tmp 1) rfl rfl Try.underlying31 (by rw [HL.out]; exact info16) ?_; rw [← HCL.out])
    | (go_at_call 23; (refine (C1.out _).mono ?_); clear C1; rintro e w' ⟨rfl, hb⟩; have M2 := Aside0.mk (Mem.below M2.out hb); have HB := Aside0.mk (below_step HB.out hb); clear hb)
    | (go_at_call 23; (refine (C2.out _).mono ?_); clear C2; rintro e w' ⟨rfl, hb⟩; have M2 := Aside0.mk (Mem.below M2.out hb); have HB := Aside0.mk (below_step HB.out hb); clear hb)
    | (go_at_call 23; (refine (C3.out _).mono ?_); clear C3; rintro e w' ⟨rfl, hb⟩; have M2 := Aside0.mk (Mem.below M2.out hb); have HB := Aside0.mk (below_step HB.out hb); clear hb)
    | ((with_reducible refine gate_store (t := 31) (p := 2) rfl ?_); refine Mem.store (l' := r3) M2.out rfl 31 (.tmp 2) (.tmp 6) rfl rfl rfl (by rw [HR.out]; exact info16) (by rw [HR.out]; rfl) ?_))
  refine bodyPost_ret (v := .agg (cellsOf .u8 r3)) (results_cell_row rfl _ _ _ _ _ _ _ rfl (Mem.put M2.out r3) Try.underlying31 rfl (by rw [cellsOf_size, HR.out]; exact info16)) rfl ⟨rfl, below_setRow HB.out (by omega) _⟩
end Go.Proofs.Ytpdikfmdnlhllaa.AesLin
