/-
  Inv of mat, walked.
-/
import Derived.Test.YtphdlidaigalkaaMatF
import Derived.Test.YtphdlidaigalkaaMatU
namespace Go.Proofs.Ytphdlidaigalkaa.Mat
open Go.RowKit Go.Proofs.YtphdlidaigalkaaW.PrintWords Go.Proofs.YtphdlidaigalkaaW.PrintLast Go.Proofs.YtphdlidaigalkaaW.PrintMore Byte Sl Arr Mem Gives ArrEq
set_option linter.unusedVariables false
set_option linter.unusedSimpArgs false
set_option maxHeartbeats 4000000
set_option maxRecDepth 100000
/-- g is what a matrix's inverse is to be. -/
structure InvOf (f g : Rows) (ok : Bool) : Prop where
  full : ok = true ↔ rank f = 8
  back : ok = true → ∀ x, app g (app f x) = x ∧ app f (app g x) = x
  none : ok = false → cells8 g = cells8 zrow
theorem inv_c (f : Rows) (w : World) : Calls Try.prog 127 #[matV f] w fun e w' => ∃ g ok, e = .returned (.tuple #[matV g, .bool ok]) ∧ InvOf f g ok ∧ Below w.heap.size w w' := by
  rw [matV_eq]
  have M1 := Aside0.mk (Mem.alloc (Mem.new .u8 w 67 (cells8 f)) (.cells (cellsOf .u8 (cells8 zrow)) 67))
  have M2 := Aside0.mk (Mem.new2 .u8 w (.cells (cellsOf .u8 (cells8 f)) 67) 67 (cells8 zrow))
  have HB := Aside0.mk (below_alloc (below_alloc (Below.refl w.heap.size w) (.cells (cellsOf .u8 (cells8 f)) 67)) (.cells (cellsOf .u8 (cells8 zrow)) 67))
  have HC := Aside0.mk (reduce_c f)
  rw [matV_eq] at HC
  have HO := Aside0.mk one_c
  rw [matV_eq] at HO
  have LLM2 := Aside0.mk M2.out.lt
  go_enter Try.func127, Try.ntmps127
  go_wp2_with (first
    | ((with_reducible refine gate_dst (N := 8) rfl ?_); refine Mem.load M1.out rfl 67 (.tmp 1) rfl rfl Try.underlying67 (by rw [cells8_length]; exact info_mat) ?_)
    | (go_at_call 135; (with_reducible refine (HC.out _).mono ?_); rintro e w1 ⟨m, wi, done, rfl, hR, hb1⟩; have HR := Aside0.mk hR; have M2 := Aside0.mk (Mem.alloc (Mem.alloc (Mem.below M2.out hb1) (.cells (cellsOf .u8 (cells8 zrow)) 67)) (.cells (cellsOf .u8 (cells8 zrow)) 67)); have N1 := Aside0.mk (Mem.alloc (Mem.new .u8 w1 67 (cells8 zrow)) (.cells (cellsOf .u8 (cells8 zrow)) 67)); have N2 := Aside0.mk (Mem.new2 .u8 w1 (.cells (cellsOf .u8 (cells8 zrow)) 67) 67 (cells8 zrow)); have HS := Aside0.mk (below_step HB.out hb1).size; have HB := Aside0.mk (below_alloc (below_alloc (below_step HB.out hb1) (.cells (cellsOf .u8 (cells8 zrow)) 67)) (.cells (cellsOf .u8 (cells8 zrow)) 67)); have HLM2 := Aside0.mk (Nat.lt_of_lt_of_le LLM2.out hb1.size); clear hR hb1)
    | ((with_reducible refine gate_store (t := 67) (p := 4) rfl ?_); refine Mem.store (l' := cells8 m) N1.out rfl 67 (.tmp 4) (.tmp 10) rfl rfl rfl (by rw [cells8_length]; exact info_mat) (by simp only [cells8_length]) ?_)
    | ((with_reducible refine gate_store (t := 67) (p := 5) rfl ?_); refine Mem.store (l' := cells8 wi) (Mem.row N2.out (g' := w1.heap.size) (by omega) (cellsOf .u8 (cells8 m))) rfl 67 (.tmp 5) (.tmp 11) rfl rfl rfl (by rw [cells8_length]; exact info_mat) (by simp only [cells8_length]) ?_))
  have hS := HS.out
  have hL := HLM2.out
  have P1 := Aside0.mk (Mem.row (Mem.put N1.out (cells8 m)) (g' := w1.heap.size + 1) (by omega) (cellsOf .u8 (cells8 wi)))
  have P2 := Aside0.mk (Mem.put (Mem.row N2.out (g' := w1.heap.size) (by omega) (cellsOf .u8 (cells8 m))) (cells8 wi))
  have P3 := Aside0.mk (Mem.row (Mem.row M2.out (g' := w1.heap.size) (by omega) (cellsOf .u8 (cells8 m))) (g' := w1.heap.size + 1) (by omega) (cellsOf .u8 (cells8 wi)))
  have PB := Aside0.mk (below_setRow (below_setRow HB.out (g := w1.heap.size) (by omega) (cellsOf .u8 (cells8 m))) (g := w1.heap.size + 1) (by omega) (cellsOf .u8 (cells8 wi)))
  clear M1 M2 N1 N2 HB HC
  have hl0 := mem_loads (Mem.drew P1.out)
  have EN := neqs m oneF
  have HE := Aside0.mk HR.out.one
  go_wp2
  refine start_ (n := 3) (S := fun w' => (loadVar 67 ⟨w1.heap.size, 0, none⟩).run Try.prog w' = .ok (.agg (cellsOf .u8 (cells8 m))) w') (ds := []) #[false, false, false] (by kernel_rfl) rfl rfl (hl0) (fun hHeld => ?_)
  refine take_ (i := 0) (N := some 13) (v := ?_) (a' := ?_) #[true, false, false] rfl rfl (by kernel_rfl) (fun _ _ _ h => h) (Or.inl ⟨by rfl, ?_⟩) hHeld ?_ ?_
  rotate_left
  · intro w' s0
    refine (load_yields rfl rfl s0).trans ?_
    with_reducible rfl
  rotate_left
  · simp only [Act.put, List.setIfInBounds_toArray, List.set_cons_zero, List.set_cons_succ, i64_w, i32_w]
    rfl
  refine one_ (i := 1) (N := some 14) #[true, true, false] rfl rfl (by kernel_rfl) (by decide) (fun K hK => ?_)
  refine goes_ Try.func136 (by kernel_rfl) rfl #[] (by rfl) rfl rfl (by simp only [List.map_toArray, List.map_cons, List.map_nil]) ?_
  with_reducible refine (HO.out.q _).mono ?_
  rintro e w2 ⟨rfl, hb2⟩
  refine ⟨_, rfl, ?_⟩
  have P1 := Aside0.mk (Mem.below (Mem.drew P1.out) hb2)
  have P2 := Aside0.mk (Mem.below (Mem.drew P2.out) hb2)
  have P3 := Aside0.mk (Mem.below (Mem.drew P3.out) hb2)
  have PB := Aside0.mk (below_step (below_drew PB.out) hb2)
  refine hK.out _ _ ((mem_loads P1.out)) (fun hHeld => ?_)
  clear hK K
  refine norm_ (a' := ?_) ?_ ?_
  rotate_left
  · show Act.put _ (some 14) _ = _
    simp only [Act.put, List.setIfInBounds_toArray, List.set_cons_zero, List.set_cons_succ, i64_w, i32_w]
    rfl
  refine pure_ (i := 2) (N := some 15) (v := ?_) (a' := ?_) #[true, true, true] rfl rfl (by kernel_rfl) (fun _ _ _ h => h) (Or.inl ⟨by rfl, ?_⟩) ?_ ?_
  rotate_left
  · intro w'
    refine (eql_yields rfl rfl rfl guardM (EN w')).trans ?_
    with_reducible rfl
  rotate_left
  · simp only [Act.put, List.setIfInBounds_toArray, List.set_cons_zero, List.set_cons_succ, i64_w, i32_w]
    rfl
  refine done_ (by kernel_rfl) ?_
  clear hl0 EN
  by_cases he : cells8 m = cells8 oneF
  · have hd : (!decide (cells8 m = cells8 oneF)) = false := by rw [decide_eq_true he]; rfl
    have hrk := Aside0.mk (HE.out.1 he)
    have hmm := Aside0.mk he
    rw [hd]
    clear hd he
    go_wp2_with (first
      | ((with_reducible refine gate_dst (N := 17) rfl ?_); refine Mem.load P2.out rfl 67 (.tmp 5) rfl rfl Try.underlying67 (by rw [cells8_length]; exact info_mat) ?_)
      | ((with_reducible refine gate_store (t := 67) (p := 2) rfl ?_); refine Mem.store (l' := cells8 wi) P3.out rfl 67 (.tmp 2) (.tmp 17) rfl rfl rfl (by rw [cells8_length]; exact info_mat) (by simp only [cells8_length]) ?_))
    refine bodyPost_ret (results_ct rfl _ _ _ _ _ _ _ rfl (Mem.put P3.out (cells8 wi)) Try.underlying67 rfl (by rw [cellsOf_size, cells8_length]; exact info_mat)) rfl ⟨wi, true, rfl, ⟨⟨fun _ => hrk.out, fun _ => rfl⟩, fun _ x => ?_, fun h => by cases h⟩, below_setRow PB.out (by omega) _⟩
    have e1 : ∀ x, app wi (app f x) = x := fun x => by rw [← HR.out.eq, app_congr (cells8_inj hmm.out), one_app]
    obtain ⟨back, hb⟩ := HR.out.inv
    refine ⟨e1 x, ?_⟩
    rw [← (hb (app f (app wi x))).1, e1, (hb x).1]
  · have hd : (!decide (cells8 m = cells8 oneF)) = true := by rw [decide_eq_false he]; rfl
    have hrk := Aside0.mk (fun h => he (HE.out.2 h))
    rw [hd]
    clear hd he
    go_wp2_with (first
      | ((with_reducible refine gate_dst (N := 16) rfl ?_); refine wpList_build_zero rfl 67 rfl _ built8 ?_)
      | ((with_reducible refine gate_store (t := 67) (p := 2) rfl ?_); refine Mem.store (l' := cells8 zrow) P3.out rfl 67 (.tmp 2) (.tmp 16) rfl rfl rfl (by rw [cells8_length]; exact info_mat) (by simp only [cells8_length]) ?_))
    refine bodyPost_ret (results_ct rfl _ _ _ _ _ _ _ rfl (Mem.put P3.out (cells8 zrow)) Try.underlying67 rfl (by rw [cellsOf_size, cells8_length]; exact info_mat)) rfl ⟨zrow, false, rfl, ⟨⟨fun h => (by cases h), fun h => absurd h hrk.out⟩, fun h => (by cases h), fun _ => rfl⟩, below_setRow PB.out (by omega) _⟩
end Go.Proofs.Ytphdlidaigalkaa.Mat
