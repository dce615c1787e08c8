/-
  Permute and Back of Keccak, walked: for any state.
-/
import Derived.Test.YtdbcgjclnfhdfaaBackK
namespace Go.Proofs.Ytdbcgjclnfhdfaa.Keccak
open Go.RowKit Go.Proofs.YtdbcgjclnfhdfaaW.PrintWords Go.Proofs.YtdbcgjclnfhdfaaW.PrintLast Go.Proofs.YtdbcgjclnfhdfaaW.PrintMore Byte Sl Arr Mem Gives RotC KecT
set_option linter.unusedVariables false
set_option linter.unusedSimpArgs false
def mark0 (l : List Int) (i : Nat) : List Int := l.set 0 (Go.bits .xor .u64 (l.getD 0 0) (markN i))
theorem mark0_length (l : List Int) (i : Nat) : (mark0 l i).length = l.length := by simp [mark0]
theorem mark0_words (l : List Int) (i : Nat) (h : Words l) (hi : i < 24) : Words (mark0 l i) := h.set _ _ (xor_word _ _ (words_getD h _) (mark_word i hi))
def mixL (l : List Int) : List Int := chiL (moveL (thetaL l))
theorem mixL_length (l : List Int) : (mixL l).length = 25 := chiL_length _
theorem mixL_words (l : List Int) : Words (mixL l) := chiL_words _ (moveL_words _)
def permTo (l : List Int) : Nat → List Int
  | 0 => l
  | i + 1 => mark0 (mixL (permTo l i)) i
theorem permTo_length (l : List Int) (hl : l.length = 25) : ∀ i, (permTo l i).length = 25
  | 0 => hl
  | i + 1 => by rw [permTo, mark0_length, mixL_length]
theorem permTo_words (l : List Int) (h : Words l) : ∀ i, i ≤ 24 → Words (permTo l i)
  | 0, _ => h
  | i + 1, hi => mark0_words _ _ (mixL_words _) (by omega)
def unmixL (l : List Int) : List Int := thetaN (bmoveL (bchiL l)) 191
theorem unmixL_length (l : List Int) : (unmixL l).length = 25 := thetaN_length _ (bmoveL_length _) _
theorem unmixL_words (l : List Int) : Words (unmixL l) := thetaN_words _ (bmoveL_length _) (bmoveL_words _) _
def backTo (l : List Int) : Nat → List Int
  | 0 => l
  | i + 1 => unmixL (mark0 (backTo l i) (23 - i))
theorem backTo_length (l : List Int) (hl : l.length = 25) : ∀ i, (backTo l i).length = 25
  | 0 => hl
  | i + 1 => unmixL_length _
theorem backTo_words (l : List Int) (h : Words l) : ∀ i, Words (backTo l i)
  | 0 => h
  | i + 1 => unmixL_words _
set_option maxHeartbeats 4000000 in
set_option maxRecDepth 100000 in
theorem permute_c (l : List Int) (hl : l.length = 25) (hw : Words l) : GivesB 38 #[arrV .u64 l] (arrV .u64 (permTo l 24)) := by
  intro w
  rw [arrV_eq]
  rw [arrV_eq]
  have HL := Aside0.mk hl
  have M1 := Aside0.mk (Mem.alloc (Mem.new .u64 w 42 l) (.cells (cellsOf .u64 zst) 42))
  have M2 := Aside0.mk (Mem.new2 .u64 w (.cells (cellsOf .u64 l) 42) 42 zst)
  have HB := Aside0.mk (below_alloc (below_alloc (Below.refl w.heap.size w) (.cells (cellsOf .u64 l) 42)) (.cells (cellsOf .u64 zst) 42))
  obtain ⟨cl, hcl⟩ : ∃ cs, cs = cellsOf .u64 l := ⟨_, rfl⟩
  rw [← hcl] at M1 M2 HB ⊢
  have HCl := Aside0.mk hcl
  clear hl hcl
  go_enter Try.func38, Try.ntmps38
  go_wp2
  go_loopg [4] 24 (fun kq i w' => ∃ j : Nat, j + kq = 24 ∧ i = .int .i64 j ∧ Aside0 (Mem .u64 w' w.heap.size 42 (permTo l j)) ∧ Aside0 (Mem .u64 w' (w.heap.size + 1) 42 zst) ∧ Aside0 (Below w.heap.size w w'))
  case atStart => exact ⟨0, by omega, rfl, M1, M2, HB⟩
  case round =>
    clear M1 M2 HB
    obtain ⟨j, hj, rfl, M1, M2, HB⟩ := hrel
    cases gk with
    | zero =>
      obtain rfl : j = 24 := by omega
      have HP := Aside0.mk (permTo_length l HL.out 24)
      obtain ⟨p, hp⟩ : ∃ z, z = permTo l 24 := ⟨_, rfl⟩
      rw [← hp] at M1 HP
      have HV := Aside0.mk hp
      clear hp hj
      go_wp2_with (first
        | ((with_reducible refine gate_dst (N := 18) rfl ?_); refine Mem.load M1.out rfl 42 (.tmp 1) rfl rfl Try.underlying42 (by rw [HP.out]; exact info_st) ?_)
        | ((with_reducible refine gate_store (t := 42) (p := 2) rfl ?_); refine Mem.store (l' := p) M2.out rfl 42 (.tmp 2) (.tmp 18) rfl rfl rfl (by rw [HP.out]; exact info_st) (by rw [HP.out, zst_length]) ?_))
      refine bodyPost_ret (v := .agg (cellsOf .u64 (p))) (results_cell_row rfl _ _ _ _ _ _ _ rfl (Mem.put M2.out (p)) Try.underlying42 rfl (by rw [cellsOf_size, HP.out]; exact info_st)) rfl ⟨by rw [HV.out], below_setRow HB.out (by omega) _⟩
    | succ k1 =>
      have hlt : j < 24 := by omega
      have HJ := Aside0.mk hj
      clear hj
      have hP := permTo_length l HL.out j
      have hW := permTo_words l hw j (by omega)
      have C4 := Aside0.mk (mark_c j hlt)
      have HV := Aside0.mk (show permTo l (j + 1) = (mixL (permTo l j)).set 0 (Go.bits .xor .u64 ((mixL (permTo l j)).getD 0 0) (markN j)) from rfl)
      obtain ⟨p', hp'⟩ : ∃ z, z = permTo l (j + 1) := ⟨_, rfl⟩
      rw [← hp'] at HV
      have HV' := Aside0.mk hp'
      clear hp'
      generalize permTo l j = p at *
      have C1 := Aside0.mk (cc (theta_c p hP hW))
      have C2 := Aside0.mk (cc (move_c (thetaL p) (thetaL_length _) (thetaL_words _ hW hP)))
      have C3 := Aside0.mk (cc (chi_c (moveL (thetaL p)) (moveL_length _)))
      rw [show chiL (moveL (thetaL p)) = mixL p from rfl] at C3
      have HM := Aside0.mk (mixL_length p)
      have HP := Aside0.mk hP
      generalize mixL p = m at *
      generalize moveL (thetaL p) = m2 at *
      generalize thetaL p = m1 at *
      generalize hmk : markN j = mk at *
      clear hP hW hmk
      go_wp2_with (first
        | ((with_reducible refine gate_dst (N := 7) rfl ?_); refine Mem.load M1.out rfl 42 (.tmp 1) rfl rfl Try.underlying42 (by rw [HP.out]; exact info_st) ?_)
        | (go_at_call 32; (with_reducible refine (C1.out.q _).mono ?_); rintro e w1 ⟨rfl, hb1⟩; have M1 := Aside0.mk (Mem.below M1.out hb1); have M2 := Aside0.mk (Mem.below M2.out hb1); have HB := Aside0.mk (below_step HB.out hb1))
        | (go_at_call 34; (with_reducible refine (C2.out.q _).mono ?_); rintro e w2 ⟨rfl, hb2⟩; have M1 := Aside0.mk (Mem.below M1.out hb2); have M2 := Aside0.mk (Mem.below M2.out hb2); have HB := Aside0.mk (below_step HB.out hb2))
        | (go_at_call 36; (with_reducible refine (C3.out.q _).mono ?_); rintro e w3 ⟨rfl, hb3⟩; have M1 := Aside0.mk (Mem.below M1.out hb3); have M2 := Aside0.mk (Mem.below M2.out hb3); have HB := Aside0.mk (below_step HB.out hb3))
        | ((with_reducible refine gate_store (t := 42) (p := 1) rfl ?_); refine Mem.store (l' := m) M1.out rfl 42 (.tmp 1) (.tmp 10) rfl rfl rfl (by rw [HM.out]; exact info_st) (by rw [HM.out, HP.out]) ?_))
      have N1 := Aside0.mk (Mem.put M1.out m)
      have N2 := Aside0.mk (Mem.row M2.out (g' := w.heap.size) (by omega) (cellsOf .u64 m))
      have NB := Aside0.mk (below_setRow HB.out (g := w.heap.size) (Nat.le_refl _) (cellsOf .u64 m))
      have hx := N1.out.cell 0 (by rw [HM.out]; decide)
      have hf := N1.out.free 0
      generalize m.getD 0 0 = x at *
      refine start_ (n := 7) (S := fun w' => w'.cell? ⟨w.heap.size, 0, none⟩ = some (.int .u64 x)) (ds := [6]) #[false, false, false, false, false, false, false] (by kernel_rfl) rfl rfl (hx) (fun hHeld => ?_)
      refine pure_ (i := 0) (N := some 11) (v := ?_) (a' := ?_) #[true, false, false, false, false, false, false] rfl rfl (by kernel_rfl) (fun _ _ _ h => h) (Or.inl ⟨by rfl, ?_⟩) ?_ ?_
      rotate_left
      · intro w'
        go_simp
        with_reducible rfl
      rotate_left
      · simp only [Act.put, List.setIfInBounds_toArray, List.set_cons_zero, List.set_cons_succ, i64_w, i32_w]
        rfl
      refine pure_ (i := 2) (N := some 13) (v := ?_) (a' := ?_) #[true, false, true, false, false, false, false] rfl rfl (by kernel_rfl) (fun _ _ _ h => h) (Or.inl ⟨by rfl, ?_⟩) ?_ ?_
      rotate_left
      · intro w'
        go_simp
        with_reducible rfl
      rotate_left
      · simp only [Act.put, List.setIfInBounds_toArray, List.set_cons_zero, List.set_cons_succ, i64_w, i32_w]
        rfl
      refine take_ (i := 1) (N := some 12) (v := ?_) (a' := ?_) #[true, true, true, false, false, false, false] rfl rfl (by kernel_rfl) (fun _ _ _ h => h) (Or.inl ⟨by rfl, ?_⟩) hHeld ?_ ?_
      rotate_left
      · intro w' s0
        go_simp
        with_reducible rfl
      rotate_left
      · simp only [Act.put, List.setIfInBounds_toArray, List.set_cons_zero, List.set_cons_succ, i64_w, i32_w]
        rfl
      refine one_ (i := 3) (N := some 14) #[true, true, true, true, false, false, false] rfl rfl (by kernel_rfl) (by decide) (fun K hK => ?_)
      refine goes_ Try.func28 (by kernel_rfl) rfl #[.int .i64 j] (by rfl) rfl rfl (by simp only [List.map_toArray, List.map_cons, List.map_nil]; rfl) ?_
      with_reducible refine (C4.out.q _).mono ?_
      rintro e w4 ⟨rfl, ⟨⟨n2, rfl⟩⟩⟩
      refine ⟨_, rfl, ?_⟩
      refine hK.out _ _ (hHeld) (fun hHeld => ?_)
      clear hK K
      refine norm_ (a' := ?_) ?_ ?_
      rotate_left
      · show Act.put _ (some 14) _ = _
        simp only [Act.put, List.setIfInBounds_toArray, List.set_cons_zero, List.set_cons_succ, i64_w, i32_w]
        rfl
      refine pure_ (i := 4) (N := some 15) (v := ?_) (a' := ?_) #[true, true, true, true, true, false, false] rfl rfl (by kernel_rfl) (fun _ _ _ h => h) (Or.inl ⟨by rfl, ?_⟩) ?_ ?_
      rotate_left
      · intro w'
        go_simp
        with_reducible rfl
      rotate_left
      · simp only [Act.put, List.setIfInBounds_toArray, List.set_cons_zero, List.set_cons_succ, i64_w, i32_w]
        rfl
      refine pure_ (i := 5) (N := some 16) (v := ?_) (a' := ?_) #[true, true, true, true, true, true, false] rfl rfl (by kernel_rfl) (fun _ _ _ h => h) (Or.inl ⟨by rfl, ?_⟩) ?_ ?_
      rotate_left
      · intro w'
        go_simp
        with_reducible rfl
      rotate_left
      · simp only [Act.put, List.setIfInBounds_toArray, List.set_cons_zero, List.set_cons_succ, i64_w, i32_w]
        rfl
      refine last_ (i := 6) (N := none) #[true, true, true, true, true, true, true] rfl rfl (by kernel_rfl) (by decide) (fun K hK => ?_)
      refine skip_ (w1 := ?_) (by rfl) rfl ?_ ?_
      rotate_left
      · go_simp
        rfl
      refine hK.out _ _ ?_
      clear hK K
      refine done_ (by kernel_rfl) ?_
      go_wp2
      go_roundg k1
      case measure => omega
      case rel => exact ⟨j + 1, by have := HJ.out; omega, by go_num, ⟨by rw [← HV'.out, HV.out]; exact Mem.set (Mem.drewN N1.out _) _ _⟩, ⟨Mem.other (Mem.drewN N2.out _) (by omega) _ _⟩, ⟨below_set (pw_below_drewN NB.out _) (Nat.le_refl _)⟩⟩
end Go.Proofs.Ytdbcgjclnfhdfaa.Keccak
