/-
  Permute of Keccak in the document's words; a sum of states; the law's fixed values: walked.
-/
import Derived.Test.YtdbcgjclnfhdfaaRChi
namespace Go.Proofs.Ytdbcgjclnfhdfaa.Keccak
open Go.RowKit Go.Proofs.YtdbcgjclnfhdfaaW.PrintWords Go.Proofs.YtdbcgjclnfhdfaaW.PrintLast Go.Proofs.YtdbcgjclnfhdfaaW.PrintMore Byte Sl Arr Mem Gives RotC KecT ArrEq OctMath
set_option linter.unusedVariables false
set_option linter.unusedSimpArgs false
set_option maxHeartbeats 4000000 in
set_option maxRecDepth 100000 in
theorem rpermute_c (l : List Int) (hl : l.length = 25) (hw : Words l) : GivesB 39 #[arrV .u64 l] (arrV .u64 (permTo l 24)) := by
  intro w
  rw [arrV_eq]
  rw [arrV_eq]
  have HL := Aside0.mk hl
  have M1 := Aside0.mk (Mem.alloc (Mem.new .u64 w 42 l) (.cells (cellsOf .u64 zst) 42))
  have M2 := Aside0.mk (Mem.new2 .u64 w (.cells (cellsOf .u64 l) 42) 42 zst)
  have HB := Aside0.mk (below_alloc (below_alloc (Below.refl w.heap.size w) (.cells (cellsOf .u64 l) 42)) (.cells (cellsOf .u64 zst) 42))
  obtain ⟨cl, hcl⟩ : ∃ cs, cs = cellsOf .u64 l := ⟨_, rfl⟩
  rw [← hcl] at M1 M2 HB ⊢
  have HCl := Aside0.mk hcl
  clear hl hcl
  go_enter Try.func39, Try.ntmps39
  go_wp2
  go_loopg [3] 24 (fun kq i w' => ∃ j : Nat, j + kq = 24 ∧ i = .int .i64 j ∧ Aside0 (Mem .u64 w' w.heap.size 42 (permTo l j)) ∧ Aside0 (Mem .u64 w' (w.heap.size + 1) 42 zst) ∧ Aside0 (Below w.heap.size w w'))
  case atStart => exact ⟨0, by omega, rfl, M1, M2, HB⟩
  case round =>
    clear M1 M2 HB
    obtain ⟨j, hj, rfl, M1, M2, HB⟩ := hrel
    cases gk with
    | zero =>
      obtain rfl : j = 24 := by omega
      have HP := Aside0.mk (permTo_length l HL.out 24)
      obtain ⟨p, hp⟩ : ∃ z, z = permTo l 24 := ⟨_, rfl⟩
      rw [← hp] at M1 HP
      have HV := Aside0.mk hp
      clear hp hj
      go_wp2_with (first
        | ((with_reducible refine gate_dst (N := 18) rfl ?_); refine Mem.load M1.out rfl 42 (.tmp 1) rfl rfl Try.underlying42 (by rw [HP.out]; exact info_st) ?_)
        | ((with_reducible refine gate_store (t := 42) (p := 2) rfl ?_); refine Mem.store (l' := p) M2.out rfl 42 (.tmp 2) (.tmp 18) rfl rfl rfl (by rw [HP.out]; exact info_st) (by rw [HP.out, zst_length]) ?_))
      refine bodyPost_ret (v := .agg (cellsOf .u64 (p))) (results_cell_row rfl _ _ _ _ _ _ _ rfl (Mem.put M2.out (p)) Try.underlying42 rfl (by rw [cellsOf_size, HP.out]; exact info_st)) rfl ⟨by rw [HV.out], below_setRow HB.out (by omega) _⟩
    | succ k1 =>
      have hlt : j < 24 := by omega
      have HJ := Aside0.mk hj
      clear hj
      have hP := permTo_length l HL.out j
      have hW := permTo_words l hw j (by omega)
      have C4 := Aside0.mk (rmark_c j hlt)
      have HV := Aside0.mk (show permTo l (j + 1) = (mixL (permTo l j)).set 0 (Go.bits .xor .u64 ((mixL (permTo l j)).getD 0 0) (markN j)) from rfl)
      obtain ⟨p', hp'⟩ : ∃ z, z = permTo l (j + 1) := ⟨_, rfl⟩
      rw [← hp'] at HV
      have HV' := Aside0.mk hp'
      clear hp'
      generalize permTo l j = p at *
      have C1 := Aside0.mk (cc (rtheta_c p hP hW))
      have C2 := Aside0.mk (cc (rmove_c (thetaL p) (thetaL_length _) (thetaL_words _ hW hP)))
      have C3 := Aside0.mk (cc (rchi_c (moveL (thetaL p)) (moveL_length _) (moveL_words _)))
      rw [show chiL (moveL (thetaL p)) = mixL p from rfl] at C3
      have HM := Aside0.mk (mixL_length p)
      have HP := Aside0.mk hP
      generalize mixL p = m at *
      generalize moveL (thetaL p) = m2 at *
      generalize thetaL p = m1 at *
      generalize hmk : markN j = mk at *
      clear hP hW hmk
      go_wp2_with (first
        | ((with_reducible refine gate_dst (N := 8) rfl ?_); refine Mem.load M1.out rfl 42 (.tmp 1) rfl rfl Try.underlying42 (by rw [HP.out]; exact info_st) ?_)
        | (go_at_call 33; (with_reducible refine (C1.out.q _).mono ?_); rintro e w1 ⟨rfl, hb1⟩; have M1 := Aside0.mk (Mem.below M1.out hb1); have M2 := Aside0.mk (Mem.below M2.out hb1); have HB := Aside0.mk (below_step HB.out hb1))
        | (go_at_call 35; (with_reducible refine (C2.out.q _).mono ?_); rintro e w2 ⟨rfl, hb2⟩; have M1 := Aside0.mk (Mem.below M1.out hb2); have M2 := Aside0.mk (Mem.below M2.out hb2); have HB := Aside0.mk (below_step HB.out hb2))
        | (go_at_call 37; (with_reducible refine (C3.out.q _).mono ?_); rintro e w3 ⟨rfl, hb3⟩; have M1 := Aside0.mk (Mem.below M1.out hb3); have M2 := Aside0.mk (Mem.below M2.out hb3); have HB := Aside0.mk (below_step HB.out hb3))
        | ((with_reducible refine gate_store (t := 42) (p := 1) rfl ?_); refine Mem.store (l' := m) M1.out rfl 42 (.tmp 1) (.tmp 11) rfl rfl rfl (by rw [HM.out]; exact info_st) (by rw [HM.out, HP.out]) ?_))
      have N1 := Aside0.mk (Mem.put M1.out m)
      have N2 := Aside0.mk (Mem.row M2.out (g' := w.heap.size) (by omega) (cellsOf .u64 m))
      have NB := Aside0.mk (below_setRow HB.out (g := w.heap.size) (Nat.le_refl _) (cellsOf .u64 m))
      have hx := N1.out.cell 0 (by rw [HM.out]; decide)
      have hf := N1.out.free 0
      generalize hmx' : m.getD 0 0 = x at *
      have hmx := Aside0.mk hmx'
      clear hmx'
      refine start_ (n := 7) (S := fun w' => w'.cell? ⟨w.heap.size, 0, none⟩ = some (.int .u64 x)) (ds := [6]) #[false, false, false, false, false, false, false] (by kernel_rfl) rfl rfl (hx) (fun hHeld => ?_)
      refine pure_ (i := 0) (N := some 12) (v := ?_) (a' := ?_) #[true, false, false, false, false, false, false] rfl rfl (by kernel_rfl) (fun _ _ _ h => h) (Or.inl ⟨by rfl, ?_⟩) ?_ ?_
      rotate_left
      · intro w'
        go_simp
        with_reducible rfl
      rotate_left
      · simp only [Act.put, List.setIfInBounds_toArray, List.set_cons_zero, List.set_cons_succ, i64_w, i32_w]
        rfl
      refine pure_ (i := 2) (N := some 14) (v := ?_) (a' := ?_) #[true, false, true, false, false, false, false] rfl rfl (by kernel_rfl) (fun _ _ _ h => h) (Or.inl ⟨by rfl, ?_⟩) ?_ ?_
      rotate_left
      · intro w'
        go_simp
        with_reducible rfl
      rotate_left
      · simp only [Act.put, List.setIfInBounds_toArray, List.set_cons_zero, List.set_cons_succ, i64_w, i32_w]
        rfl
      refine take_ (i := 1) (N := some 13) (v := ?_) (a' := ?_) #[true, true, true, false, false, false, false] rfl rfl (by kernel_rfl) (fun _ _ _ h => h) (Or.inl ⟨by rfl, ?_⟩) hHeld ?_ ?_
      rotate_left
      · intro w' s0
        go_simp
        with_reducible rfl
      rotate_left
      · simp only [Act.put, List.setIfInBounds_toArray, List.set_cons_zero, List.set_cons_succ, i64_w, i32_w]
        rfl
      refine one_ (i := 3) (N := some 15) #[true, true, true, true, false, false, false] rfl rfl (by kernel_rfl) (by decide) (fun K hK => ?_)
      refine goes_ Try.func29 (by kernel_rfl) rfl #[.int .i64 j] (by rfl) rfl rfl (by simp only [List.map_toArray, List.map_cons, List.map_nil]; rfl) ?_
      with_reducible refine (C4.out.q _).mono ?_
      rintro e w4 ⟨rfl, hb4⟩
      refine ⟨_, rfl, ?_⟩
      have hx4 := (Mem.below (Mem.drew N1.out) hb4).cell 0 (by rw [HM.out]; decide)
      have hf4 := (Mem.below (Mem.drew N1.out) hb4).free 0
      rw [hmx.out] at hx4
      refine hK.out _ _ (hx4) (fun hHeld => ?_)
      clear hK K
      refine norm_ (a' := ?_) ?_ ?_
      rotate_left
      · show Act.put _ (some 15) _ = _
        simp only [Act.put, List.setIfInBounds_toArray, List.set_cons_zero, List.set_cons_succ, i64_w, i32_w]
        rfl
      refine pure_ (i := 4) (N := some 16) (v := ?_) (a' := ?_) #[true, true, true, true, true, false, false] rfl rfl (by kernel_rfl) (fun _ _ _ h => h) (Or.inl ⟨by rfl, ?_⟩) ?_ ?_
      rotate_left
      · intro w'
        go_simp
        with_reducible rfl
      rotate_left
      · simp only [Act.put, List.setIfInBounds_toArray, List.set_cons_zero, List.set_cons_succ, i64_w, i32_w]
        rfl
      refine pure_ (i := 5) (N := some 17) (v := ?_) (a' := ?_) #[true, true, true, true, true, true, false] rfl rfl (by kernel_rfl) (fun _ _ _ h => h) (Or.inl ⟨by rfl, ?_⟩) ?_ ?_
      rotate_left
      · intro w'
        go_simp
        with_reducible rfl
      rotate_left
      · simp only [Act.put, List.setIfInBounds_toArray, List.set_cons_zero, List.set_cons_succ, i64_w, i32_w]
        rfl
      refine last_ (i := 6) (N := none) #[true, true, true, true, true, true, true] rfl rfl (by kernel_rfl) (by decide) (fun K hK => ?_)
      refine skip_ (w1 := ?_) (by rfl) rfl ?_ ?_
      rotate_left
      · go_simp
        rfl
      refine hK.out _ _ ?_
      clear hK K
      refine done_ (by kernel_rfl) ?_
      go_wp2
      go_roundg k1
      case measure => omega
      case rel => exact ⟨j + 1, by have := HJ.out; omega, by go_num, ⟨by rw [← HV'.out, HV.out]; exact Mem.set (Mem.below (Mem.drew N1.out) hb4) _ _⟩, ⟨Mem.other (Mem.below (Mem.drew N2.out) hb4) (by omega) _ _⟩, ⟨below_set (below_step (below_drew NB.out) hb4) (Nat.le_refl _)⟩⟩
def sumF (a b : List Int) (i : Nat) : Int := Go.bits .xor .u64 (a.getD i 0) (b.getD i 0)
def sumL (a b : List Int) : List Int := byI 25 (sumF a b)
theorem sumL_length (a b : List Int) : (sumL a b).length = 25 := byI_length _ _
theorem sumL_words (a b : List Int) (ha : Words a) (hb : Words b) : Words (sumL a b) := byI_words _ _ fun i _ => xor_word _ _ (words_getD ha _) (words_getD hb _)
set_option maxHeartbeats 4000000 in
set_option maxRecDepth 100000 in
theorem sum_c (a b : List Int) (ha : a.length = 25) (hb : b.length = 25) : GivesB 41 #[arrV .u64 a, arrV .u64 b] (arrV .u64 (sumL a b)) := by
  intro w
  rw [arrV_eq]
  rw [arrV_eq]
  rw [arrV_eq]
  have HA := Aside0.mk ha
  have HB_ := Aside0.mk hb
  have M1 := Aside0.mk (Mem.alloc (Mem.alloc (Mem.new .u64 w 42 a) (.cells (cellsOf .u64 b) 42)) (.cells (cellsOf .u64 zst) 42))
  have M2 := Aside0.mk (Mem.alloc (Mem.new2 .u64 w (.cells (cellsOf .u64 a) 42) 42 b) (.cells (cellsOf .u64 zst) 42))
  have M3 := Aside0.mk (Mem.new3 .u64 w (.cells (cellsOf .u64 a) 42) (.cells (cellsOf .u64 b) 42) 42 zst)
  have HB := Aside0.mk (below_alloc (below_alloc (below_alloc (Below.refl w.heap.size w) (.cells (cellsOf .u64 a) 42)) (.cells (cellsOf .u64 b) 42)) (.cells (cellsOf .u64 zst) 42))
  obtain ⟨ca, hca⟩ : ∃ cs, cs = cellsOf .u64 a := ⟨_, rfl⟩
  rw [← hca] at M1 M2 M3 HB ⊢
  have HCa := Aside0.mk hca
  clear ha hca
  obtain ⟨cb, hcb⟩ : ∃ cs, cs = cellsOf .u64 b := ⟨_, rfl⟩
  rw [← hcb] at M1 M2 M3 HB ⊢
  have HCb := Aside0.mk hcb
  clear hb hcb
  go_enter Try.func41, Try.ntmps41
  go_wp2
  go_loopg [5] 25 (fun kq i w' => ∃ j : Nat, j + kq = 25 ∧ i = .int .i64 j ∧ Aside0 (Mem .u64 w' w.heap.size 42 (fillTo (sumL a b) a j)) ∧ Aside0 (Mem .u64 w' (w.heap.size + 1) 42 b) ∧ Aside0 (Mem .u64 w' (w.heap.size + 2) 42 zst) ∧ Aside0 (Below w.heap.size w w'))
  case atStart => exact ⟨0, by omega, rfl, ⟨by rw [fillTo_zero]; exact M1.out⟩, M2, M3, HB⟩
  case round =>
    clear M1 M2 M3 HB
    obtain ⟨j, hj, rfl, M1, M2, M3, HB⟩ := hrel
    cases gk with
    | zero =>
      obtain rfl : j = 25 := by omega
      have hend : fillTo (sumL a b) a 25 = sumL a b := by
        have := fillTo_end (sumL a b) a (by rw [sumL_length, HA.out])
        rwa [HA.out] at this
      rw [hend] at M1
      clear hend
      go_wp2_with (first
        | ((with_reducible refine gate_dst (N := 19) rfl ?_); refine Mem.load M1.out rfl 42 (.tmp 2) rfl rfl Try.underlying42 (by rw [sumL_length]; exact info_st) ?_)
        | ((with_reducible refine gate_store (t := 42) (p := 4) rfl ?_); refine Mem.store (l' := sumL a b) M3.out rfl 42 (.tmp 4) (.tmp 19) rfl rfl rfl (by rw [sumL_length]; exact info_st) (by rw [sumL_length, zst_length]) ?_))
      refine bodyPost_ret (v := .agg (cellsOf .u64 (sumL a b))) (results_cell_row rfl _ _ _ _ _ _ _ rfl (Mem.put M3.out (sumL a b)) Try.underlying42 rfl (by rw [cellsOf_size, sumL_length]; exact info_st)) rfl ⟨rfl, below_setRow HB.out (by omega) _⟩
    | succ k1 =>
      have hlt : j < 25 := by omega
      have HJ := Aside0.mk hj
      clear hj
      have hx := M1.out.cell j (by rw [fillTo_length _ _ (by rw [sumL_length, HA.out]), HA.out]; exact hlt)
      have hf := M1.out.free j
      have hy := M2.out.cell j (by rw [HB_.out]; exact hlt)
      rw [fillTo_ge _ _ (by rw [sumL_length, HA.out]) j j (by rw [HA.out]; omega) (Nat.le_refl _)] at hx
      have hval : (sumL a b).getD j 0 = Go.bits .xor .u64 (a.getD j 0) (b.getD j 0) := by unfold sumL; rw [byI_get _ _ _ hlt]; rfl
      have hset := fillTo_set (sumL a b) a (by rw [sumL_length, HA.out]) j (by rw [HA.out]; omega) _ hval
      have HV := Aside0.mk hset
      clear hval hset
      generalize a.getD j 0 = x at *
      generalize b.getD j 0 = y at *
      go_wp2
      refine start_ (n := 10) (S := fun w' => w'.cell? ⟨w.heap.size, j, none⟩ = some (.int .u64 x) ∧ w'.cell? ⟨w.heap.size + 1, j, none⟩ = some (.int .u64 y)) (ds := [9]) #[false, false, false, false, false, false, false, false, false, false] (by kernel_rfl) rfl rfl ⟨hx, hy⟩ (fun hHeld => ?_)
      refine pure_ (i := 0) (N := some 10) (v := ?_) (a' := ?_) #[true, false, false, false, false, false, false, false, false, false] rfl rfl (by kernel_rfl) (fun _ _ _ h => h) (Or.inl ⟨by rfl, ?_⟩) ?_ ?_
      rotate_left
      · intro w'
        go_simp
        with_reducible rfl
      rotate_left
      · simp only [Act.put, List.setIfInBounds_toArray, List.set_cons_zero, List.set_cons_succ, i64_w, i32_w]
        rfl
      refine pure_ (i := 1) (N := some 11) (v := ?_) (a' := ?_) #[true, true, false, false, false, false, false, false, false, false] rfl rfl (by kernel_rfl) (fun _ _ _ h => h) (Or.inl ⟨by rfl, ?_⟩) ?_ ?_
      rotate_left
      · intro w'
        go_simp
        with_reducible rfl
      rotate_left
      · simp only [Act.put, List.setIfInBounds_toArray, List.set_cons_zero, List.set_cons_succ, i64_w, i32_w]
        rfl
      refine pure_ (i := 2) (N := some 12) (v := ?_) (a' := ?_) #[true, true, true, false, false, false, false, false, false, false] rfl rfl (by kernel_rfl) (fun _ _ _ h => h) (Or.inl ⟨by rfl, ?_⟩) ?_ ?_
      rotate_left
      · intro w'
        go_simp
        with_reducible rfl
      rotate_left
      · simp only [Act.put, List.setIfInBounds_toArray, List.set_cons_zero, List.set_cons_succ, i64_w, i32_w]
        rfl
      refine pure_ (i := 4) (N := some 14) (v := ?_) (a' := ?_) #[true, true, true, false, true, false, false, false, false, false] rfl rfl (by kernel_rfl) (fun _ _ _ h => h) (Or.inl ⟨by rfl, ?_⟩) ?_ ?_
      rotate_left
      · intro w'
        go_simp
        with_reducible rfl
      rotate_left
      · simp only [Act.put, List.setIfInBounds_toArray, List.set_cons_zero, List.set_cons_succ, i64_w, i32_w]
        rfl
      refine pure_ (i := 5) (N := some 15) (v := ?_) (a' := ?_) #[true, true, true, false, true, true, false, false, false, false] rfl rfl (by kernel_rfl) (fun _ _ _ h => h) (Or.inl ⟨by rfl, ?_⟩) ?_ ?_
      rotate_left
      · intro w'
        go_simp
        with_reducible rfl
      rotate_left
      · simp only [Act.put, List.setIfInBounds_toArray, List.set_cons_zero, List.set_cons_succ, i64_w, i32_w]
        rfl
      refine take_ (i := 3) (N := some 13) (v := ?_) (a' := ?_) #[true, true, true, true, true, true, false, false, false, false] rfl rfl (by kernel_rfl) (fun _ _ _ h => h) (Or.inl ⟨by rfl, ?_⟩) hHeld ?_ ?_
      rotate_left
      · rintro w' ⟨s0, s1⟩
        go_simp
        with_reducible rfl
      rotate_left
      · simp only [Act.put, List.setIfInBounds_toArray, List.set_cons_zero, List.set_cons_succ, i64_w, i32_w]
        rfl
      refine take_ (i := 6) (N := some 16) (v := ?_) (a' := ?_) #[true, true, true, true, true, true, true, false, false, false] rfl rfl (by kernel_rfl) (fun _ _ _ h => h) (Or.inl ⟨by rfl, ?_⟩) hHeld ?_ ?_
      rotate_left
      · rintro w' ⟨s0, s1⟩
        go_simp
        with_reducible rfl
      rotate_left
      · simp only [Act.put, List.setIfInBounds_toArray, List.set_cons_zero, List.set_cons_succ, i64_w, i32_w]
        rfl
      refine pure_ (i := 7) (N := some 17) (v := ?_) (a' := ?_) #[true, true, true, true, true, true, true, true, false, false] rfl rfl (by kernel_rfl) (fun _ _ _ h => h) (Or.inl ⟨by rfl, ?_⟩) ?_ ?_
      rotate_left
      · intro w'
        go_simp
        with_reducible rfl
      rotate_left
      · simp only [Act.put, List.setIfInBounds_toArray, List.set_cons_zero, List.set_cons_succ, i64_w, i32_w]
        rfl
      refine pure_ (i := 8) (N := some 18) (v := ?_) (a' := ?_) #[true, true, true, true, true, true, true, true, true, false] rfl rfl (by kernel_rfl) (fun _ _ _ h => h) (Or.inl ⟨by rfl, ?_⟩) ?_ ?_
      rotate_left
      · intro w'
        go_simp
        with_reducible rfl
      rotate_left
      · simp only [Act.put, List.setIfInBounds_toArray, List.set_cons_zero, List.set_cons_succ, i64_w, i32_w]
        rfl
      refine last_ (i := 9) (N := none) #[true, true, true, true, true, true, true, true, true, true] rfl rfl (by kernel_rfl) (by decide) (fun K hK => ?_)
      refine skip_ (w1 := ?_) (by rfl) rfl ?_ ?_
      rotate_left
      · go_simp
        rfl
      refine hK.out _ _ ?_
      clear hK K
      refine done_ (by kernel_rfl) ?_
      go_wp2
      go_roundg k1
      case measure => omega
      case rel => exact ⟨j + 1, by have := HJ.out; omega, by go_num, ⟨by rw [← HV.out]; exact Mem.drew (Mem.set M1.out _ _)⟩, ⟨Mem.drew (Mem.other M2.out (g' := w.heap.size) (by omega) _ _)⟩, ⟨Mem.drew (Mem.other M3.out (g' := w.heap.size) (by omega) _ _)⟩, ⟨below_drew (below_set HB.out (Nat.le_refl _))⟩⟩
set_option maxHeartbeats 4000000 in
set_option maxRecDepth 100000 in
theorem awake_c : GivesB 40 #[] (.bool true) := by
  intro w
  have C1 := Aside0.mk (cc (permute_c zst zst_length zst_words))
  have C2 := Aside0.mk (show Gives 28 #[.int .i64 1] (.int .u64 (markN 1)) from mark_c 1 (by decide))
  have HK := Aside0.mk (permTo_length zst zst_length 24)
  have HV : (permTo zst 24).getD 0 0 = 17376452488221285863 := by unfold permTo; decide +kernel
  have HM := mark1
  obtain ⟨p, hp⟩ : ∃ z, z = permTo zst 24 := ⟨_, rfl⟩
  rw [← hp] at C1 HK HV
  clear hp
  obtain ⟨mk, hmk⟩ : ∃ z, z = markN 1 := ⟨_, rfl⟩
  rw [← hmk] at C2 HM
  subst HM
  clear hmk
  go_enter Try.func40, Try.ntmps40
  go_wp2_with (first
    | ((with_reducible refine gate_dst (N := 2) rfl ?_); refine wpList_build_zero rfl 42 rfl (cellsOf .u64 zst) built25 ?_)
    | (go_at_call 38; (with_reducible refine (C1.out.q _).mono ?_); rintro e w1 ⟨rfl, hb1⟩; have M1 := Aside0.mk (show Mem .u64 (w1.alloc (.cells #[Value.int .u64 0, Value.int .u64 0, Value.int .u64 0, Value.int .u64 0, Value.int .u64 0, Value.int .u64 0, Value.int .u64 0, Value.int .u64 0, Value.int .u64 0, Value.int .u64 0, Value.int .u64 0, Value.int .u64 0, Value.int .u64 0, Value.int .u64 0, Value.int .u64 0, Value.int .u64 0, Value.int .u64 0, Value.int .u64 0, Value.int .u64 0, Value.int .u64 0, Value.int .u64 0, Value.int .u64 0, Value.int .u64 0, Value.int .u64 0, Value.int .u64 0] 42)) w1.heap.size 42 zst from Mem.new .u64 w1 42 zst); have HB := Aside0.mk (below_alloc hb1 (.cells #[Value.int .u64 0, Value.int .u64 0, Value.int .u64 0, Value.int .u64 0, Value.int .u64 0, Value.int .u64 0, Value.int .u64 0, Value.int .u64 0, Value.int .u64 0, Value.int .u64 0, Value.int .u64 0, Value.int .u64 0, Value.int .u64 0, Value.int .u64 0, Value.int .u64 0, Value.int .u64 0, Value.int .u64 0, Value.int .u64 0, Value.int .u64 0, Value.int .u64 0, Value.int .u64 0, Value.int .u64 0, Value.int .u64 0, Value.int .u64 0, Value.int .u64 0] 42)))
    | ((with_reducible refine gate_store (t := 42) (p := 1) rfl ?_); refine Mem.store (l' := p) M1.out rfl 42 (.tmp 1) (.tmp 3) rfl rfl rfl (by rw [HK.out]; exact info_st) (by rw [HK.out, zst_length]) ?_)
    | (go_at_call 28; (with_reducible refine (C2.out.q _).mono ?_); rintro e w2 ⟨rfl, ⟨n2, rfl⟩⟩; have hx := (Mem.drewN (Mem.put M1.out p) n2).cell 0 (by rw [HK.out]; decide); rw [HV] at hx))
  go_ret
  exact ⟨rfl, pw_below_drewN (below_setRow HB.out hb1.size _) _⟩
end Go.Proofs.Ytdbcgjclnfhdfaa.Keccak
