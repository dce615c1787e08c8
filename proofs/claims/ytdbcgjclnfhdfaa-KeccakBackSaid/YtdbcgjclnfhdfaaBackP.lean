/-
  Back of Keccak, walked: for any state.
-/
import Derived.Test.YtdbcgjclnfhdfaaPermK
namespace Go.Proofs.Ytdbcgjclnfhdfaa.Keccak
open Go.RowKit Go.Proofs.YtdbcgjclnfhdfaaW.PrintWords Go.Proofs.YtdbcgjclnfhdfaaW.PrintLast Go.Proofs.YtdbcgjclnfhdfaaW.PrintMore Byte Sl Arr Mem Gives RotC KecT
set_option linter.unusedVariables false
set_option linter.unusedSimpArgs false
set_option maxHeartbeats 4000000 in
set_option maxRecDepth 100000 in
theorem back_c (l : List Int) (hl : l.length = 25) (hw : Words l) : GivesB 42 #[arrV .u64 l] (arrV .u64 (backTo l 24)) := by
  intro w
  rw [arrV_eq]
  rw [arrV_eq]
  have HL := Aside0.mk hl
  have M1 := Aside0.mk (Mem.alloc (Mem.new .u64 w 42 l) (.cells (cellsOf .u64 zst) 42))
  have M2 := Aside0.mk (Mem.new2 .u64 w (.cells (cellsOf .u64 l) 42) 42 zst)
  have HB := Aside0.mk (below_alloc (below_alloc (Below.refl w.heap.size w) (.cells (cellsOf .u64 l) 42)) (.cells (cellsOf .u64 zst) 42))
  obtain ⟨cl, hcl⟩ : ∃ cs, cs = cellsOf .u64 l := ⟨_, rfl⟩
  rw [← hcl] at M1 M2 HB ⊢
  have HCl := Aside0.mk hcl
  clear hl hcl
  go_enter Try.func42, Try.ntmps42
  go_wp2
  go_loopg [3] 24 (fun kq i w' => ∃ j : Nat, j + kq = 24 ∧ i = .int .i64 (23 - (j : Int)) ∧ Aside0 (Mem .u64 w' w.heap.size 42 (backTo l j)) ∧ Aside0 (Mem .u64 w' (w.heap.size + 1) 42 zst) ∧ Aside0 (Below w.heap.size w w'))
  case atStart => exact ⟨0, by omega, rfl, M1, M2, HB⟩
  case round =>
    clear M1 M2 HB
    obtain ⟨j, hj, rfl, M1, M2, HB⟩ := hrel
    cases gk with
    | zero =>
      obtain rfl : j = 24 := by omega
      have HP := Aside0.mk (backTo_length l HL.out 24)
      obtain ⟨p, hp⟩ : ∃ z, z = backTo l 24 := ⟨_, rfl⟩
      rw [← hp] at M1 HP
      have HV := Aside0.mk hp
      clear hp hj
      go_wp2_with (first
        | ((with_reducible refine gate_dst (N := 18) rfl ?_); refine Mem.load M1.out rfl 42 (.tmp 1) rfl rfl Try.underlying42 (by rw [HP.out]; exact info_st) ?_)
        | ((with_reducible refine gate_store (t := 42) (p := 2) rfl ?_); refine Mem.store (l' := p) M2.out rfl 42 (.tmp 2) (.tmp 18) rfl rfl rfl (by rw [HP.out]; exact info_st) (by rw [HP.out, zst_length]) ?_))
      refine bodyPost_ret (v := .agg (cellsOf .u64 (p))) (results_cell_row rfl _ _ _ _ _ _ _ rfl (Mem.put M2.out (p)) Try.underlying42 rfl (by rw [cellsOf_size, HP.out]; exact info_st)) rfl ⟨by rw [HV.out], below_setRow HB.out (by omega) _⟩
    | succ k1 =>
      have hlt : j < 24 := by omega
      have HJ := Aside0.mk hj
      clear hj
      obtain ⟨q, hq⟩ : ∃ q : Nat, q = 23 - j := ⟨_, rfl⟩
      have eq0 : (23 : Int) - (j : Int) = (q : Int) := by omega
      have hP := backTo_length l HL.out j
      have hW := backTo_words l hw j
      have C4 := Aside0.mk (mark_c q (by omega))
      have HV := Aside0.mk (show backTo l (j + 1) = unmixL (mark0 (backTo l j) (23 - j)) from rfl)
      rw [← hq] at HV
      have HQ := Aside0.mk hq
      clear hq
      rw [eq0]
      obtain ⟨p', hp'⟩ : ∃ z, z = backTo l (j + 1) := ⟨_, rfl⟩
      rw [← hp'] at HV
      have HV' := Aside0.mk hp'
      clear hp'
      generalize backTo l j = p at *
      have hM := mark0_length p q
      rw [hP] at hM
      have hMW := mark0_words p q hW (by have := HQ.out; omega)
      have C1 := Aside0.mk (cc (bchi_c (mark0 p q) hM))
      have C2 := Aside0.mk (cc (bmove_c (bchiL (mark0 p q)) (bchiL_length _) (bchiL_words _ hMW)))
      have C3 := Aside0.mk (cc (btheta_c (bmoveL (bchiL (mark0 p q))) (bmoveL_length _) (bmoveL_words _)))
      rw [show thetaN (bmoveL (bchiL (mark0 p q))) 191 = unmixL (mark0 p q) from rfl] at C3
      have HM := Aside0.mk (show mark0 p q = p.set 0 (Go.bits .xor .u64 (p.getD 0 0) (markN q)) from rfl)
      have HML := Aside0.mk hM
      have HPL := Aside0.mk hP
      have HUL := Aside0.mk (unmixL_length (mark0 p q))
      have hq24 : (q : Int) ≥ 0 := by omega
      generalize unmixL (mark0 p q) = m3 at *
      generalize bmoveL (bchiL (mark0 p q)) = m2 at *
      generalize bchiL (mark0 p q) = m1 at *
      generalize mark0 p q = m at *
      have hx := M1.out.cell 0 (by rw [HPL.out]; decide)
      have hf := M1.out.free 0
      clear hP hW hM hMW
      generalize p.getD 0 0 = x at *
      generalize markN q = mk at *
      go_wp2
      refine start_ (n := 7) (S := fun w' => w'.cell? ⟨w.heap.size, 0, none⟩ = some (.int .u64 x)) (ds := [6]) #[false, false, false, false, false, false, false] (by kernel_rfl) rfl rfl (hx) (fun hHeld => ?_)
      refine pure_ (i := 0) (N := some 8) (v := ?_) (a' := ?_) #[true, false, false, false, false, false, false] rfl rfl (by kernel_rfl) (fun _ _ _ h => h) (Or.inl ⟨by rfl, ?_⟩) ?_ ?_
      rotate_left
      · intro w'
        go_simp
        with_reducible rfl
      rotate_left
      · simp only [Act.put, List.setIfInBounds_toArray, List.set_cons_zero, List.set_cons_succ, i64_w, i32_w]
        rfl
      refine pure_ (i := 2) (N := some 10) (v := ?_) (a' := ?_) #[true, false, true, false, false, false, false] rfl rfl (by kernel_rfl) (fun _ _ _ h => h) (Or.inl ⟨by rfl, ?_⟩) ?_ ?_
      rotate_left
      · intro w'
        go_simp
        with_reducible rfl
      rotate_left
      · simp only [Act.put, List.setIfInBounds_toArray, List.set_cons_zero, List.set_cons_succ, i64_w, i32_w]
        rfl
      refine take_ (i := 1) (N := some 9) (v := ?_) (a' := ?_) #[true, true, true, false, false, false, false] rfl rfl (by kernel_rfl) (fun _ _ _ h => h) (Or.inl ⟨by rfl, ?_⟩) hHeld ?_ ?_
      rotate_left
      · intro w' s0
        go_simp
        with_reducible rfl
      rotate_left
      · simp only [Act.put, List.setIfInBounds_toArray, List.set_cons_zero, List.set_cons_succ, i64_w, i32_w]
        rfl
      refine one_ (i := 3) (N := some 11) #[true, true, true, true, false, false, false] rfl rfl (by kernel_rfl) (by decide) (fun K hK => ?_)
      refine goes_ Try.func28 (by kernel_rfl) rfl #[.int .i64 q] (by rfl) rfl rfl (by simp only [List.map_toArray, List.map_cons, List.map_nil]; rfl) ?_
      with_reducible refine (C4.out.q _).mono ?_
      rintro e w4 ⟨rfl, ⟨⟨n2, rfl⟩⟩⟩
      refine ⟨_, rfl, ?_⟩
      refine hK.out _ _ (hHeld) (fun hHeld => ?_)
      clear hK K
      refine norm_ (a' := ?_) ?_ ?_
      rotate_left
      · show Act.put _ (some 11) _ = _
        simp only [Act.put, List.setIfInBounds_toArray, List.set_cons_zero, List.set_cons_succ, i64_w, i32_w]
        rfl
      refine pure_ (i := 4) (N := some 12) (v := ?_) (a' := ?_) #[true, true, true, true, true, false, false] rfl rfl (by kernel_rfl) (fun _ _ _ h => h) (Or.inl ⟨by rfl, ?_⟩) ?_ ?_
      rotate_left
      · intro w'
        go_simp
        with_reducible rfl
      rotate_left
      · simp only [Act.put, List.setIfInBounds_toArray, List.set_cons_zero, List.set_cons_succ, i64_w, i32_w]
        rfl
      refine pure_ (i := 5) (N := some 13) (v := ?_) (a' := ?_) #[true, true, true, true, true, true, false] rfl rfl (by kernel_rfl) (fun _ _ _ h => h) (Or.inl ⟨by rfl, ?_⟩) ?_ ?_
      rotate_left
      · intro w'
        go_simp
        with_reducible rfl
      rotate_left
      · simp only [Act.put, List.setIfInBounds_toArray, List.set_cons_zero, List.set_cons_succ, i64_w, i32_w]
        rfl
      refine last_ (i := 6) (N := none) #[true, true, true, true, true, true, true] rfl rfl (by kernel_rfl) (by decide) (fun K hK => ?_)
      refine skip_ (w1 := ?_) (by rfl) rfl ?_ ?_
      rotate_left
      · go_simp
        rfl
      refine hK.out _ _ ?_
      clear hK K
      refine done_ (by kernel_rfl) ?_
      have N1 := Aside0.mk (Mem.set (Mem.drewN M1.out (1 + n2)) 0 (Go.bits .xor .u64 x mk))
      rw [← HM.out] at N1
      have N2 := Aside0.mk (Mem.other (Mem.drewN M2.out (1 + n2)) (g' := w.heap.size) (by omega) 0 (.int .u64 (Go.bits .xor .u64 x mk)))
      have NB := Aside0.mk (below_set (g := w.heap.size) (j := 0) (v := .int .u64 (Go.bits .xor .u64 x mk)) (pw_below_drewN HB.out (1 + n2)) (Nat.le_refl _))
      clear M1 M2 HB hx hf hHeld
      have M1 := N1
      have M2 := N2
      have HB := NB
      clear N1 N2 NB
      go_wp2_with (first
        | ((with_reducible refine gate_dst (N := 14) rfl ?_); refine Mem.load M1.out rfl 42 (.tmp 1) rfl rfl Try.underlying42 (by rw [HML.out]; exact info_st) ?_)
        | (go_at_call 43; (with_reducible refine (C1.out.q _).mono ?_); rintro e w1 ⟨rfl, hb1⟩; have M1 := Aside0.mk (Mem.below M1.out hb1); have M2 := Aside0.mk (Mem.below M2.out hb1); have HB := Aside0.mk (below_step HB.out hb1))
        | (go_at_call 44; (with_reducible refine (C2.out.q _).mono ?_); rintro e w2 ⟨rfl, hb2⟩; have M1 := Aside0.mk (Mem.below M1.out hb2); have M2 := Aside0.mk (Mem.below M2.out hb2); have HB := Aside0.mk (below_step HB.out hb2))
        | (go_at_call 65; (with_reducible refine (C3.out.q _).mono ?_); rintro e w3 ⟨rfl, hb3⟩; have M1 := Aside0.mk (Mem.below M1.out hb3); have M2 := Aside0.mk (Mem.below M2.out hb3); have HB := Aside0.mk (below_step HB.out hb3))
        | ((with_reducible refine gate_store (t := 42) (p := 1) rfl ?_); refine Mem.store (l' := m3) M1.out rfl 42 (.tmp 1) (.tmp 17) rfl rfl rfl (by rw [HUL.out]; exact info_st) (by rw [HUL.out, HML.out]) ?_))
      go_roundg k1
      case measure => omega
      case rel => exact ⟨j + 1, by have := HJ.out; omega, by have := HQ.out; congr 1; omega, ⟨by rw [← HV'.out, HV.out]; exact Mem.put M1.out _⟩, ⟨Mem.row M2.out (by omega) _⟩, ⟨below_setRow HB.out (Nat.le_refl _) _⟩⟩
end Go.Proofs.Ytdbcgjclnfhdfaa.Keccak
