/-
  The tower's matrices out of its field, and the document's: walked.
-/
import Derived.Test.YtphdlidaigalkaaTowG
namespace Go.Proofs.Ytphdlidaigalkaa.Mat
open Go.RowKit Go.Proofs.Ytphdlidaigalkaa.PNib Go.Proofs.YtphdlidaigalkaaW.PrintWords Go.Proofs.YtphdlidaigalkaaW.PrintLast Go.Proofs.YtphdlidaigalkaaW.PrintMore Byte Sl Arr Mem Gives ArrEq
set_option linter.unusedVariables false
set_option linter.unusedSimpArgs false
set_option maxHeartbeats 4000000
set_option maxRecDepth 100000
theorem own_first {w : World} {g : Nat} (h : FAt w g 0 0 zrow zrow) : Calls Try.prog 86 #[.pointer (some ⟨g, 0, none⟩)] w fun e w' => e = .returned (.pointer (some ⟨g, 0, none⟩)) ∧ FAt w' g 1 0 inF outF ∧ Ch g w w' := by
  have hmf : ∀ (fn : Fn) (first cap : Array Value) (w : World), (Instr.makeFunc fn first cap).run Try.prog w = .ok (.func fn first cap) w := fun _ _ _ _ => rfl
  have HD := Aside0.mk (OnceField.do_first g 0 (.pointer (some ⟨g, 0, none⟩)) (fun w' => FAt w' g 0 1 inF outF ∧ Ch g (w.setCell ⟨g, 0 + 1, none⟩ (.int .i32 1)) w') w (cell_d h) (cell_s h) (FRow.free h 0) (FRow.free h 1)
    (make_c (set_s h 1)) (fun w' hp => ⟨cell_d hp.1, cell_s hp.1, FRow.free hp.1 0, FRow.free hp.1 1⟩))
  clear h
  go_enter Try.func86, Try.ntmps86
  go_wp2_with (first
    | (go_at_call 117; (with_reducible refine (HD.out).mono ?_); rintro e w' ⟨rfl, w2, hw2, rfl⟩))
  go_ret
  refine ⟨rfl, set_s (set_d (show FAt w2.drew g 0 1 inF outF from FRow.below hw2.1 (below_drew (Below.refl _ _))) 1) 0, ?_⟩
  exact ((((Ch.set w 1 _).trans hw2.2).trans (Ch.of_below (below_drew (Below.refl _ _)))).trans (Ch.set _ 0 _)).trans (Ch.set _ 1 _)
theorem own_done {w : World} {g : Nat} {i o : Rows} (h : FAt w g 1 0 i o) : Calls Try.prog 86 #[.pointer (some ⟨g, 0, none⟩)] w fun e w' => e = .returned (.pointer (some ⟨g, 0, none⟩)) ∧ w' = w := by
  have hmf : ∀ (fn : Fn) (first cap : Array Value) (w : World), (Instr.makeFunc fn first cap).run Try.prog w = .ok (.func fn first cap) w := fun _ _ _ _ => rfl
  have HD := Aside0.mk (OnceField.do_done ⟨g, 0, none⟩ (.func (.func 118) #[.pointer (some ⟨g, 0, none⟩)] #[]) w (cell_d h))
  clear h
  go_enter Try.func86, Try.ntmps86
  go_wp2_with (first
    | (go_at_call 117; (with_reducible refine (HD.out).mono ?_); rintro e w' ⟨rfl, rfl⟩))
  go_ret
  exact ⟨rfl, rfl⟩
theorem own_nil (w : World) : Calls Try.prog 86 #[.pointer none] w fun e w' => ∃ g, e = .returned (.pointer (some ⟨g, 0, none⟩)) ∧ FAt w' g 1 0 inF outF ∧ Below w.heap.size w w' := by
  have hmf : ∀ (fn : Fn) (first cap : Array Value) (w : World), (Instr.makeFunc fn first cap).run Try.prog w = .ok (.func fn first cap) w := fun _ _ _ _ => rfl
  have HN := Aside0.mk (new_c w)
  have HD := Aside0.mk (fun (w : World) (g : Nat) (h : FAt w g 0 0 zrow zrow) => OnceField.do_first g 0 (.pointer (some ⟨g, 0, none⟩)) (fun w' => FAt w' g 0 1 inF outF ∧ Ch g (w.setCell ⟨g, 0 + 1, none⟩ (.int .i32 1)) w') w (cell_d h) (cell_s h) (FRow.free h 0) (FRow.free h 1)
    (make_c (set_s h 1)) (fun w' hp => ⟨cell_d hp.1, cell_s hp.1, FRow.free hp.1 0, FRow.free hp.1 1⟩))
  go_enter Try.func86, Try.ntmps86
  go_wp2_with (first
    | (go_at_call 29; (with_reducible refine (HN.out).mono ?_); rintro e w1 ⟨g, rfl, hg, h1, hb1⟩; have H1 := Aside0.mk h1; have HG := Aside0.mk (And.intro hg hb1); clear hg h1 hb1)
    | (go_at_call 117; (with_reducible refine (HD.out _ _ H1.out).mono ?_); rintro e w' ⟨rfl, w2, hw2, rfl⟩))
  go_ret
  refine ⟨g, rfl, set_s (set_d (show FAt w2.drew g 0 1 inF outF from FRow.below hw2.1 (below_drew (Below.refl _ _))) 1) 0, ?_⟩
  have hc : Ch g w1 _ := ((((Ch.set w1 1 (.int .i32 1)).trans hw2.2).trans (Ch.of_below (below_drew (Below.refl _ _)))).trans (Ch.set _ 0 (.int .u32 1))).trans (Ch.set _ 1 (.int .i32 0))
  exact hc.below HG.out.2 HG.out.2.size HG.out.1
theorem in_done {w : World} {g : Nat} (h : FAt w g 1 0 inF outF) : Calls Try.prog 30 #[.pointer (some ⟨g, 0, none⟩)] w fun e w' => e = .returned (.agg (cellsOf .u8 (cells8 inF))) ∧ FAt w' g 1 0 inF outF ∧ Below w.heap.size w w' := by
  have H := Aside0.mk (show FAt (w.alloc (.cells (cellsOf .u8 (cells8 zrow)) 67)) g 1 0 inF outF from FRow.below h (below_alloc (Below.refl _ _) _))
  have HLT := Aside0.mk (FRow.lt h)
  have M2 := Aside0.mk (Mem.new .u8 w 67 (cells8 zrow))
  have HB := Aside0.mk (below_alloc (Below.refl w.heap.size w) (.cells (cellsOf .u8 (cells8 zrow)) 67))
  clear h
  go_enter Try.func30, Try.ntmps30
  go_wp2_with (first
    | (go_at_call 86; (refine (own_done H.out).mono ?_); rintro e w' ⟨rfl, rfl⟩)
    | ((with_reducible refine gate_dst (N := 7) rfl ?_); refine wp_load_in H.out rfl (.tmp 6) rfl rfl ?_)
    | ((with_reducible refine gate_store (t := 67) (p := 2) rfl ?_); refine Mem.store (l' := cells8 inF) M2.out rfl 67 (.tmp 2) (.tmp 7) rfl rfl rfl (by rw [cells8_length]; exact info_mat) (by simp only [cells8_length]) ?_))
  refine bodyPost_ret (v := .agg (cellsOf .u8 (cells8 inF))) (results_cell_row rfl _ _ _ _ _ _ _ rfl (Mem.put M2.out (cells8 inF)) Try.underlying67 rfl (by rw [cellsOf_size, cells8_length]; exact info_mat)) rfl ⟨rfl, ?_, below_setRow HB.out (Nat.le_refl _) _⟩
  exact (setRow_other _ w.heap.size g _ (Nat.ne_of_lt HLT.out)).trans H.out
theorem in_nil : GivesB 30 #[.pointer none] (.agg (cellsOf .u8 (cells8 inF))) := by
  intro w
  have M2 := Aside0.mk (Mem.new .u8 w 67 (cells8 zrow))
  have HB := Aside0.mk (below_alloc (Below.refl w.heap.size w) (.cells (cellsOf .u8 (cells8 zrow)) 67))
  go_enter Try.func30, Try.ntmps30
  go_wp2_with (first
    | (go_at_call 86; (refine (own_nil _).mono ?_); rintro e w1 ⟨g, rfl, hF, hb1⟩; have H := Aside0.mk hF; have M2 := Aside0.mk (Mem.below M2.out hb1); have HB := Aside0.mk (below_step HB.out hb1); clear hF hb1)
    | ((with_reducible refine gate_dst (N := 7) rfl ?_); refine wp_load_in H.out rfl (.tmp 6) rfl rfl ?_)
    | ((with_reducible refine gate_store (t := 67) (p := 2) rfl ?_); refine Mem.store (l' := cells8 inF) M2.out rfl 67 (.tmp 2) (.tmp 7) rfl rfl rfl (by rw [cells8_length]; exact info_mat) (by simp only [cells8_length]) ?_))
  refine bodyPost_ret (v := .agg (cellsOf .u8 (cells8 inF))) (results_cell_row rfl _ _ _ _ _ _ _ rfl (Mem.put M2.out (cells8 inF)) Try.underlying67 rfl (by rw [cellsOf_size, cells8_length]; exact info_mat)) rfl ⟨rfl, below_setRow HB.out (Nat.le_refl _) _⟩
theorem out_done {w : World} {g : Nat} (h : FAt w g 1 0 inF outF) : Calls Try.prog 32 #[.pointer (some ⟨g, 0, none⟩)] w fun e w' => e = .returned (.agg (cellsOf .u8 (cells8 outF))) ∧ FAt w' g 1 0 inF outF ∧ Below w.heap.size w w' := by
  have H := Aside0.mk (show FAt (w.alloc (.cells (cellsOf .u8 (cells8 zrow)) 67)) g 1 0 inF outF from FRow.below h (below_alloc (Below.refl _ _) _))
  have HLT := Aside0.mk (FRow.lt h)
  have M2 := Aside0.mk (Mem.new .u8 w 67 (cells8 zrow))
  have HB := Aside0.mk (below_alloc (Below.refl w.heap.size w) (.cells (cellsOf .u8 (cells8 zrow)) 67))
  clear h
  go_enter Try.func32, Try.ntmps32
  go_wp2_with (first
    | (go_at_call 86; (refine (own_done H.out).mono ?_); rintro e w' ⟨rfl, rfl⟩)
    | ((with_reducible refine gate_dst (N := 7) rfl ?_); refine wp_load_out H.out rfl (.tmp 6) rfl rfl ?_)
    | ((with_reducible refine gate_store (t := 67) (p := 2) rfl ?_); refine Mem.store (l' := cells8 outF) M2.out rfl 67 (.tmp 2) (.tmp 7) rfl rfl rfl (by rw [cells8_length]; exact info_mat) (by simp only [cells8_length]) ?_))
  refine bodyPost_ret (v := .agg (cellsOf .u8 (cells8 outF))) (results_cell_row rfl _ _ _ _ _ _ _ rfl (Mem.put M2.out (cells8 outF)) Try.underlying67 rfl (by rw [cellsOf_size, cells8_length]; exact info_mat)) rfl ⟨rfl, ?_, below_setRow HB.out (Nat.le_refl _) _⟩
  exact (setRow_other _ w.heap.size g _ (Nat.ne_of_lt HLT.out)).trans H.out
theorem out_nil : GivesB 32 #[.pointer none] (.agg (cellsOf .u8 (cells8 outF))) := by
  intro w
  have M2 := Aside0.mk (Mem.new .u8 w 67 (cells8 zrow))
  have HB := Aside0.mk (below_alloc (Below.refl w.heap.size w) (.cells (cellsOf .u8 (cells8 zrow)) 67))
  go_enter Try.func32, Try.ntmps32
  go_wp2_with (first
    | (go_at_call 86; (refine (own_nil _).mono ?_); rintro e w1 ⟨g, rfl, hF, hb1⟩; have H := Aside0.mk hF; have M2 := Aside0.mk (Mem.below M2.out hb1); have HB := Aside0.mk (below_step HB.out hb1); clear hF hb1)
    | ((with_reducible refine gate_dst (N := 7) rfl ?_); refine wp_load_out H.out rfl (.tmp 6) rfl rfl ?_)
    | ((with_reducible refine gate_store (t := 67) (p := 2) rfl ?_); refine Mem.store (l' := cells8 outF) M2.out rfl 67 (.tmp 2) (.tmp 7) rfl rfl rfl (by rw [cells8_length]; exact info_mat) (by simp only [cells8_length]) ?_))
  refine bodyPost_ret (v := .agg (cellsOf .u8 (cells8 outF))) (results_cell_row rfl _ _ _ _ _ _ _ rfl (Mem.put M2.out (cells8 outF)) Try.underlying67 rfl (by rw [cellsOf_size, cells8_length]; exact info_mat)) rfl ⟨rfl, below_setRow HB.out (Nat.le_refl _) _⟩
theorem in_first {w : World} {g : Nat} (h : FAt w g 0 0 zrow zrow) : Calls Try.prog 30 #[.pointer (some ⟨g, 0, none⟩)] w fun e w' => e = .returned (.agg (cellsOf .u8 (cells8 inF))) ∧ FAt w' g 1 0 inF outF ∧ Ch g w w' := by
  have H := Aside0.mk (show FAt (w.alloc (.cells (cellsOf .u8 (cells8 zrow)) 67)) g 0 0 zrow zrow from FRow.below h (below_alloc (Below.refl _ _) _))
  have HLT := Aside0.mk (FRow.lt h)
  have M2 := Aside0.mk (Mem.new .u8 w 67 (cells8 zrow))
  have HC0 := Aside0.mk (Ch.of_below (g := g) (below_alloc (Below.refl w.heap.size w) (.cells (cellsOf .u8 (cells8 zrow)) 67)))
  clear h
  go_enter Try.func30, Try.ntmps30
  go_wp2_with (first
    | (go_at_call 86; (refine (own_first H.out).mono ?_); rintro e w1 ⟨rfl, hF, hc⟩; have H := Aside0.mk hF; have M2 := Aside0.mk (show Mem .u8 w1 w.heap.size 67 (cells8 zrow) from (hc.block _ M2.out.lt (fun e => absurd (Option.some.inj e) (by have := HLT.out; omega))).trans M2.out); have HC0 := Aside0.mk (HC0.out.trans hc); clear hF hc)
    | ((with_reducible refine gate_dst (N := 7) rfl ?_); refine wp_load_in H.out rfl (.tmp 6) rfl rfl ?_)
    | ((with_reducible refine gate_store (t := 67) (p := 2) rfl ?_); refine Mem.store (l' := cells8 inF) M2.out rfl 67 (.tmp 2) (.tmp 7) rfl rfl rfl (by rw [cells8_length]; exact info_mat) (by simp only [cells8_length]) ?_))
  refine bodyPost_ret (v := .agg (cellsOf .u8 (cells8 inF))) (results_cell_row rfl _ _ _ _ _ _ _ rfl (Mem.put M2.out (cells8 inF)) Try.underlying67 rfl (by rw [cellsOf_size, cells8_length]; exact info_mat)) rfl ⟨rfl, ?_, ?_⟩
  · exact (setRow_other _ w.heap.size g _ (Nat.ne_of_lt HLT.out)).trans H.out
  · have hC := HC0.out
    exact ⟨hC.os, hC.tape, hC.output, by rw [setRow_size]; exact hC.size, fun k hk hne => (setRow_other _ w.heap.size k _ (Nat.ne_of_lt hk)).trans (hC.block k hk hne)⟩
end Go.Proofs.Ytphdlidaigalkaa.Mat
