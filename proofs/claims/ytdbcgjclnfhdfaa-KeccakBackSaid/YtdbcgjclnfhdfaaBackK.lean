/-
  BackMove, BackChi, backTheta, Permute and Back of Keccak, walked: for any state.
-/
import Derived.Test.YtdbcgjclnfhdfaaMove
import Derived.Test.YtdbcgjclnfhdfaaTheta
namespace Go.Proofs.Ytdbcgjclnfhdfaa.Keccak
open Go.RowKit Go.Proofs.YtdbcgjclnfhdfaaW.PrintWords Go.Proofs.YtdbcgjclnfhdfaaW.PrintLast Go.Proofs.YtdbcgjclnfhdfaaW.PrintMore Byte Sl Arr Mem Gives RotC KecT
set_option linter.unusedVariables false
set_option linter.unusedSimpArgs false
theorem cc {f : FuncId} {l l' : List Int} (h : GivesB f #[arrV .u64 l] (arrV .u64 l')) : GivesB f #[.agg (cellsOf .u64 l)] (.agg (cellsOf .u64 l')) := h
theorem thetaL_words (l : List Int) (h : Words l) (hl : l.length = 25) : Words (thetaL l) :=
  byI_words _ _ fun i _ => xor_word _ _ (words_getD h _) (xor_word _ _ (words_getD (colTo_words l h hl 25) _) (rotI_word _ _))
theorem chiL_words (l : List Int) (h : Words l) : Words (chiL l) :=
  byI_words _ _ fun i _ => xor_word _ _ (words_getD h _) (andNot_word _ _ (words_getD h _) (words_getD h _))
theorem turn_lt : ∀ x : Fin 5, ∀ y : Fin 5, turnN x y < 64 := by decide +kernel
def bmoveF (l : List Int) (i : Nat) : Int := rotI (l.getD (dst i) 0) (-(turnN (i % 5) (i / 5) : Int))
def bmoveL (l : List Int) : List Int := byI 25 (bmoveF l)
theorem bmoveL_length (l : List Int) : (bmoveL l).length = 25 := byI_length _ _
theorem bmoveL_words (l : List Int) : Words (bmoveL l) := byI_words _ _ fun i _ => rotI_word _ _
set_option maxHeartbeats 4000000 in
set_option maxRecDepth 100000 in
theorem bmove_c (l : List Int) (hl : l.length = 25) (hw : Words l) : GivesB 44 #[arrV .u64 l] (arrV .u64 (bmoveL l)) := by
  intro w
  rw [arrV_eq]
  rw [arrV_eq]
  have HL := Aside0.mk hl
  have M1 := Aside0.mk (Mem.alloc (Mem.alloc (Mem.new .u64 w 42 l) (.cells (cellsOf .u64 zst) 42)) (.cells (cellsOf .u64 zst) 42))
  have M2 := Aside0.mk (Mem.alloc (Mem.new2 .u64 w (.cells (cellsOf .u64 l) 42) 42 zst) (.cells (cellsOf .u64 zst) 42))
  have M3 := Aside0.mk (Mem.new3 .u64 w (.cells (cellsOf .u64 l) 42) (.cells (cellsOf .u64 zst) 42) 42 zst)
  have HB := Aside0.mk (below_alloc (below_alloc (below_alloc (Below.refl w.heap.size w) (.cells (cellsOf .u64 l) 42)) (.cells (cellsOf .u64 zst) 42)) (.cells (cellsOf .u64 zst) 42))
  obtain ⟨cl, hcl⟩ : ∃ cs, cs = cellsOf .u64 l := ⟨_, rfl⟩
  rw [← hcl] at M1 M2 M3 HB ⊢
  have HCl := Aside0.mk hcl
  clear hl hcl
  go_enter Try.func44, Try.ntmps44
  go_wp2
  go_loopg [9] 25 (fun kq i w' => ∃ j : Nat, j + kq = 25 ∧ i = .int .i64 j ∧ Aside0 (Mem .u64 w' w.heap.size 42 l) ∧ Aside0 (Mem .u64 w' (w.heap.size + 1) 42 zst) ∧ Aside0 (Mem .u64 w' (w.heap.size + 2) 42 (fillTo (bmoveL l) zst j)) ∧ Aside0 (Below w.heap.size w w'))
  case atStart => exact ⟨0, by omega, rfl, M1, M2, ⟨by rw [fillTo_zero]; exact M3.out⟩, HB⟩
  case round =>
    clear M1 M2 M3 HB
    obtain ⟨j, hj, rfl, M1, M2, M3, HB⟩ := hrel
    cases gk with
    | zero =>
      obtain rfl : j = 25 := by omega
      have hend : fillTo (bmoveL l) zst 25 = bmoveL l := fillTo_end (bmoveL l) zst (by rw [bmoveL_length, zst_length])
      rw [hend] at M3
      clear hend
      go_wp2_with (first
        | ((with_reducible refine gate_dst (N := 36) rfl ?_); refine Mem.load M3.out rfl 42 (.tmp 3) rfl rfl Try.underlying42 (by rw [bmoveL_length]; exact info_st) ?_)
        | ((with_reducible refine gate_store (t := 42) (p := 2) rfl ?_); refine Mem.store (l' := bmoveL l) M2.out rfl 42 (.tmp 2) (.tmp 36) rfl rfl rfl (by rw [bmoveL_length]; exact info_st) (by rw [bmoveL_length]; rfl) ?_))
      refine bodyPost_ret (v := .agg (cellsOf .u64 (bmoveL l))) (results_cell_row rfl _ _ _ _ _ _ _ rfl (Mem.put M2.out (bmoveL l)) Try.underlying42 rfl (by rw [cellsOf_size, bmoveL_length]; exact info_st)) rfl ⟨rfl, below_setRow HB.out (by omega) _⟩
    | succ k1 =>
      have hlt : j < 25 := by omega
      have HJ := Aside0.mk hj
      have hval : (bmoveL l).getD j 0 = rotI (l.getD (dst j) 0) (-(turnN (j % 5) (j / 5) : Int)) := by unfold bmoveL; rw [byI_get _ _ _ hlt]; rfl
      have hset := fillTo_set (bmoveL l) zst (by rw [bmoveL_length, zst_length]) j (by rw [zst_length]; omega) _ hval
      have HV := Aside0.mk hset
      have hdst : dst j < 25 := by unfold dst; omega
      have hdst' : (dst j : Nat) = j / 5 + 5 * ((2 * (j % 5) + 3 * (j / 5)) % 5) := rfl
      obtain ⟨q, hq⟩ : ∃ q, q = j % 5 := ⟨_, rfl⟩
      obtain ⟨r, hr⟩ : ∃ r, r = j / 5 := ⟨_, rfl⟩
      rw [← hq, ← hr] at HV hdst'
      obtain ⟨s, hs⟩ : ∃ s, s = (2 * q + 3 * r) % 5 := ⟨_, rfl⟩
      obtain ⟨d, hd⟩ : ∃ d, d = dst j := ⟨_, rfl⟩
      rw [← hd] at HV hdst hdst'
      rw [← hs] at hdst'
      have c1 := next_c q r (by omega) (by omega)
      rw [← hs] at c1
      have C1 := Aside0.mk c1
      have C2 := Aside0.mk (turn_c q r (by omega) (by omega))
      have C3 := Aside0.mk (rot_c (l.getD d 0) (-(turnN q r : Int)) (words_getD hw d))
      have tl : turnN q r < 64 := turn_lt ⟨q, by omega⟩ ⟨r, by omega⟩
      have e0 : (j : Int) % 5 = (q : Int) := by omega
      have e1 : (j : Int) / 5 = (r : Int) := by omega
      have hld : d < l.length := by rw [HL.out]; exact hdst
      have hdI : (d : Int) < 25 := by omega
      have hf := M3.out.free j
      have hx3 := M3.out.cell j (by rw [fillTo_length _ _ (by rw [bmoveL_length, zst_length]), zst_length]; exact hlt)
      obtain ⟨s5, hs5⟩ : ∃ s5 : Nat, s5 = 5 * s := ⟨_, rfl⟩
      have f1 : IntKind.i64.wrap ((5 : Int) * (s : Int)) = (s5 : Int) := by rw [IntKind.wrap_i64]; omega
      have f2 : IntKind.i64.wrap ((r : Int) + (s5 : Int)) = (d : Int) := by rw [IntKind.wrap_i64]; omega
      clear hval hset hj hs hd hq hr hdst' c1 hdst hs5
      have f3 : IntKind.i64.wrap (-(turnN q r : Int)) = -(turnN q r : Int) := by rw [IntKind.wrap_i64]; omega
      generalize rotI (l.getD d 0) (-(turnN q r : Int)) = R at *
      generalize hxx : l.getD d 0 = x at *
      generalize turnN q r = tn at *
      clear tl
      go_wp2_with (first
        | (go_at_call 62; (with_reducible refine (C1.out.q _).mono ?_); rintro e w' ⟨rfl, ⟨n1, rfl⟩⟩; have hx := (Mem.drewN M1.out n1).cell d hld; rw [hxx] at hx; clear hxx))
      refine start_ (n := 14) (S := fun w' => w'.cell? ⟨w.heap.size, d, none⟩ = some (.int .u64 x)) (ds := [13]) #[false, false, false, false, false, false, false, false, false, false, false, false, false, false] (by kernel_rfl) rfl rfl (hx) (fun hHeld => ?_)
      refine pure_ (i := 0) (N := some 22) (v := ?_) (a' := ?_) #[true, false, false, false, false, false, false, false, false, false, false, false, false, false] rfl rfl (by kernel_rfl) (fun _ _ _ h => h) (Or.inl ⟨by rfl, ?_⟩) ?_ ?_
      rotate_left
      · intro w'
        go_simp
        with_reducible rfl
      rotate_left
      · simp only [Act.put, List.setIfInBounds_toArray, List.set_cons_zero, List.set_cons_succ, i64_w, i32_w]
        rfl
      refine pure_ (i := 1) (N := some 23) (v := ?_) (a' := ?_) #[true, true, false, false, false, false, false, false, false, false, false, false, false, false] rfl rfl (by kernel_rfl) (fun _ _ _ h => h) (Or.inl ⟨by rfl, ?_⟩) ?_ ?_
      rotate_left
      · intro w'
        go_simp
        with_reducible rfl
      rotate_left
      · simp only [Act.put, List.setIfInBounds_toArray, List.set_cons_zero, List.set_cons_succ, i64_w, i32_w]
        rfl
      refine pure_ (i := 2) (N := some 24) (v := ?_) (a' := ?_) #[true, true, true, false, false, false, false, false, false, false, false, false, false, false] rfl rfl (by kernel_rfl) (fun _ _ _ h => h) (Or.inl ⟨by rfl, ?_⟩) ?_ ?_
      rotate_left
      · intro w'
        go_simp
        with_reducible rfl
      rotate_left
      · simp only [Act.put, List.setIfInBounds_toArray, List.set_cons_zero, List.set_cons_succ, i64_w, i32_w]
        rfl
      refine pure_ (i := 3) (N := some 25) (v := ?_) (a' := ?_) #[true, true, true, true, false, false, false, false, false, false, false, false, false, false] rfl rfl (by kernel_rfl) (fun _ _ _ h => h) (Or.inl ⟨by rfl, ?_⟩) ?_ ?_
      rotate_left
      · intro w'
        go_simp
        with_reducible rfl
      rotate_left
      · simp only [Act.put, List.setIfInBounds_toArray, List.set_cons_zero, List.set_cons_succ, i64_w, i32_w]
        rfl
      refine pure_ (i := 4) (N := some 26) (v := ?_) (a' := ?_) #[true, true, true, true, true, false, false, false, false, false, false, false, false, false] rfl rfl (by kernel_rfl) (fun _ _ _ h => h) (Or.inl ⟨by rfl, ?_⟩) ?_ ?_
      rotate_left
      · intro w'
        go_simp
        with_reducible rfl
      rotate_left
      · simp only [Act.put, List.setIfInBounds_toArray, List.set_cons_zero, List.set_cons_succ, i64_w, i32_w]
        rfl
      refine pure_ (i := 5) (N := some 27) (v := ?_) (a' := ?_) #[true, true, true, true, true, true, false, false, false, false, false, false, false, false] rfl rfl (by kernel_rfl) (fun _ _ _ h => h) (Or.inl ⟨by rfl, ?_⟩) ?_ ?_
      rotate_left
      · intro w'
        go_simp
        with_reducible rfl
      rotate_left
      · simp only [Act.put, List.setIfInBounds_toArray, List.set_cons_zero, List.set_cons_succ, i64_w, i32_w]
        rfl
      refine pure_ (i := 7) (N := some 29) (v := ?_) (a' := ?_) #[true, true, true, true, true, true, false, true, false, false, false, false, false, false] rfl rfl (by kernel_rfl) (fun _ _ _ h => h) (Or.inl ⟨by rfl, ?_⟩) ?_ ?_
      rotate_left
      · intro w'
        go_simp
        with_reducible rfl
      rotate_left
      · simp only [Act.put, List.setIfInBounds_toArray, List.set_cons_zero, List.set_cons_succ, i64_w, i32_w]
        rfl
      refine pure_ (i := 8) (N := some 30) (v := ?_) (a' := ?_) #[true, true, true, true, true, true, false, true, true, false, false, false, false, false] rfl rfl (by kernel_rfl) (fun _ _ _ h => h) (Or.inl ⟨by rfl, ?_⟩) ?_ ?_
      rotate_left
      · intro w'
        go_simp
        with_reducible rfl
      rotate_left
      · simp only [Act.put, List.setIfInBounds_toArray, List.set_cons_zero, List.set_cons_succ, i64_w, i32_w]
        rfl
      refine take_ (i := 6) (N := some 28) (v := ?_) (a' := ?_) #[true, true, true, true, true, true, true, true, true, false, false, false, false, false] rfl rfl (by kernel_rfl) (fun _ _ _ h => h) (Or.inl ⟨by rfl, ?_⟩) hHeld ?_ ?_
      rotate_left
      · intro w' s0
        go_simp
        with_reducible rfl
      rotate_left
      · simp only [Act.put, List.setIfInBounds_toArray, List.set_cons_zero, List.set_cons_succ, i64_w, i32_w]
        rfl
      refine one_ (i := 9) (N := some 31) #[true, true, true, true, true, true, true, true, true, true, false, false, false, false] rfl rfl (by kernel_rfl) (by decide) (fun K hK => ?_)
      refine goes_ Try.func30 (by kernel_rfl) rfl #[.int .i64 q, .int .i64 r] (by rfl) rfl rfl (by simp only [List.map_toArray, List.map_cons, List.map_nil]; rfl) ?_
      with_reducible refine (C2.out.q _).mono ?_
      rintro e w3 ⟨rfl, ⟨⟨n2, rfl⟩⟩⟩
      refine ⟨_, rfl, ?_⟩
      refine hK.out _ _ (hHeld) (fun hHeld => ?_)
      clear hK K
      refine norm_ (a' := ?_) ?_ ?_
      rotate_left
      · show Act.put _ (some 31) _ = _
        simp only [Act.put, List.setIfInBounds_toArray, List.set_cons_zero, List.set_cons_succ, i64_w, i32_w]
        rfl
      refine pure_ (i := 10) (N := some 32) (v := ?_) (a' := ?_) #[true, true, true, true, true, true, true, true, true, true, true, false, false, false] rfl rfl (by kernel_rfl) (fun _ _ _ h => h) (Or.inl ⟨by rfl, ?_⟩) ?_ ?_
      rotate_left
      · intro w'
        go_simp
        with_reducible rfl
      rotate_left
      · simp only [Act.put, List.setIfInBounds_toArray, List.set_cons_zero, List.set_cons_succ, i64_w, i32_w]
        rfl
      refine one_ (i := 11) (N := some 33) #[true, true, true, true, true, true, true, true, true, true, true, true, false, false] rfl rfl (by kernel_rfl) (by decide) (fun K hK => ?_)
      refine goes_ Try.func63 (by kernel_rfl) rfl #[.int .u64 x, .int .i64 (-(tn : Int))] (by rfl) rfl rfl (by simp only [List.map_toArray, List.map_cons, List.map_nil]; rfl) ?_
      with_reducible refine (C3.out.q _).mono ?_
      rintro e w3 ⟨rfl, ⟨⟨n3, rfl⟩⟩⟩
      refine ⟨_, rfl, ?_⟩
      refine hK.out _ _ (hHeld) (fun hHeld => ?_)
      clear hK K
      refine norm_ (a' := ?_) ?_ ?_
      rotate_left
      · show Act.put _ (some 33) _ = _
        simp only [Act.put, List.setIfInBounds_toArray, List.set_cons_zero, List.set_cons_succ, i64_w, i32_w]
        rfl
      refine pure_ (i := 12) (N := some 34) (v := ?_) (a' := ?_) #[true, true, true, true, true, true, true, true, true, true, true, true, true, false] rfl rfl (by kernel_rfl) (fun _ _ _ h => h) (Or.inl ⟨by rfl, ?_⟩) ?_ ?_
      rotate_left
      · intro w'
        go_simp
        with_reducible rfl
      rotate_left
      · simp only [Act.put, List.setIfInBounds_toArray, List.set_cons_zero, List.set_cons_succ, i64_w, i32_w]
        rfl
      refine last_ (i := 13) (N := none) #[true, true, true, true, true, true, true, true, true, true, true, true, true, true] rfl rfl (by kernel_rfl) (by decide) (fun K hK => ?_)
      refine skip_ (w1 := ?_) (by rfl) rfl ?_ ?_
      rotate_left
      · go_simp
        rfl
      refine hK.out _ _ ?_
      clear hK K
      refine done_ (by kernel_rfl) ?_
      clear f1 f2 f3
      go_wp2
      go_roundg k1
      case measure => omega
      case rel => exact ⟨j + 1, by have := HJ.out; omega, by go_num, ⟨Mem.other (Mem.drewN M1.out _) (by omega) _ _⟩, ⟨Mem.other (Mem.drewN M2.out _) (by omega) _ _⟩, ⟨by rw [← HV.out]; exact Mem.set (Mem.drewN M3.out _) _ _⟩, ⟨below_set (pw_below_drewN HB.out _) (by omega)⟩⟩
def bchiL (l : List Int) : List Int := chiL (chiL (chiL l))
theorem bchiL_length (l : List Int) : (bchiL l).length = 25 := chiL_length _
theorem bchiL_words (l : List Int) (h : Words l) : Words (bchiL l) := chiL_words _ (chiL_words _ (chiL_words _ h))
set_option maxHeartbeats 4000000 in
set_option maxRecDepth 100000 in
theorem bchi_c (l : List Int) (hl : l.length = 25) : GivesB 43 #[arrV .u64 l] (arrV .u64 (bchiL l)) := by
  intro w
  rw [arrV_eq]
  rw [arrV_eq]
  have HL := Aside0.mk hl
  have M1 := Aside0.mk (Mem.alloc (Mem.new .u64 w 42 l) (.cells (cellsOf .u64 zst) 42))
  have M2 := Aside0.mk (Mem.new2 .u64 w (.cells (cellsOf .u64 l) 42) 42 zst)
  have HB := Aside0.mk (below_alloc (below_alloc (Below.refl w.heap.size w) (.cells (cellsOf .u64 l) 42)) (.cells (cellsOf .u64 zst) 42))
  obtain ⟨cl, hcl⟩ : ∃ cs, cs = cellsOf .u64 l := ⟨_, rfl⟩
  rw [← hcl] at M1 M2 HB ⊢
  have HCl := Aside0.mk hcl
  clear hl hcl
  have C1 := Aside0.mk (cc (chi_c l HL.out))
  have C2 := Aside0.mk (cc (chi_c (chiL l) (chiL_length _)))
  have C3 := Aside0.mk (cc (chi_c (chiL (chiL l)) (chiL_length _)))
  go_enter Try.func43, Try.ntmps43
  go_wp2_with (first
    | ((with_reducible refine gate_dst (N := 3) rfl ?_); refine Mem.load M1.out rfl 42 (.tmp 1) rfl rfl Try.underlying42 (by rw [HL.out]; exact info_st) ?_)
    | (go_at_call 36; (with_reducible refine (C1.out.q _).mono ?_); rintro e w1 ⟨rfl, hb1⟩; have M1 := Aside0.mk (Mem.below M1.out hb1); have M2 := Aside0.mk (Mem.below M2.out hb1); have HB := Aside0.mk (below_step HB.out hb1))
    | (go_at_call 36; (with_reducible refine (C2.out.q _).mono ?_); rintro e w2 ⟨rfl, hb2⟩; have M1 := Aside0.mk (Mem.below M1.out hb2); have M2 := Aside0.mk (Mem.below M2.out hb2); have HB := Aside0.mk (below_step HB.out hb2))
    | (go_at_call 36; (with_reducible refine (C3.out.q _).mono ?_); rintro e w3 ⟨rfl, hb3⟩; have M1 := Aside0.mk (Mem.below M1.out hb3); have M2 := Aside0.mk (Mem.below M2.out hb3); have HB := Aside0.mk (below_step HB.out hb3))
    | ((with_reducible refine gate_store (t := 42) (p := 2) rfl ?_); refine Mem.store (l' := bchiL l) M2.out rfl 42 (.tmp 2) (.tmp 6) rfl rfl rfl (by rw [bchiL_length]; exact info_st) (by rw [bchiL_length]; rfl) ?_))
  refine bodyPost_ret (v := .agg (cellsOf .u64 (bchiL l))) (results_cell_row rfl _ _ _ _ _ _ _ rfl (Mem.put M2.out (bchiL l)) Try.underlying42 rfl (by rw [cellsOf_size, bchiL_length]; exact info_st)) rfl ⟨rfl, below_setRow HB.out (by omega) _⟩
def thetaN (l : List Int) : Nat → List Int
  | 0 => l
  | n + 1 => thetaL (thetaN l n)
theorem thetaN_length (l : List Int) (hl : l.length = 25) : ∀ n, (thetaN l n).length = 25
  | 0 => hl
  | n + 1 => thetaL_length _
theorem thetaN_words (l : List Int) (hl : l.length = 25) (h : Words l) : ∀ n, Words (thetaN l n)
  | 0 => h
  | n + 1 => thetaL_words _ (thetaN_words l hl h n) (thetaN_length l hl n)
set_option maxHeartbeats 4000000 in
set_option maxRecDepth 100000 in
theorem btheta_c (l : List Int) (hl : l.length = 25) (hw : Words l) : GivesB 65 #[arrV .u64 l] (arrV .u64 (thetaN l 191)) := by
  intro w
  rw [arrV_eq]
  rw [arrV_eq]
  have HL := Aside0.mk hl
  have M1 := Aside0.mk (Mem.alloc (Mem.new .u64 w 42 l) (.cells (cellsOf .u64 zst) 42))
  have M2 := Aside0.mk (Mem.new2 .u64 w (.cells (cellsOf .u64 l) 42) 42 zst)
  have HB := Aside0.mk (below_alloc (below_alloc (Below.refl w.heap.size w) (.cells (cellsOf .u64 l) 42)) (.cells (cellsOf .u64 zst) 42))
  obtain ⟨cl, hcl⟩ : ∃ cs, cs = cellsOf .u64 l := ⟨_, rfl⟩
  rw [← hcl] at M1 M2 HB ⊢
  have HCl := Aside0.mk hcl
  clear hl hcl
  go_enter Try.func65, Try.ntmps65
  go_wp2
  go_loopg [3] 191 (fun kq i w' => ∃ j : Nat, j + kq = 191 ∧ i = .int .i64 j ∧ Aside0 (Mem .u64 w' w.heap.size 42 (thetaN l j)) ∧ Aside0 (Mem .u64 w' (w.heap.size + 1) 42 zst) ∧ Aside0 (Below w.heap.size w w'))
  case atStart => exact ⟨0, by omega, rfl, M1, M2, HB⟩
  case round =>
    clear M1 M2 HB
    obtain ⟨j, hj, rfl, M1, M2, HB⟩ := hrel
    cases gk with
    | zero =>
      obtain rfl : j = 191 := by omega
      have HP := Aside0.mk (thetaN_length l HL.out 191)
      obtain ⟨p, hp⟩ : ∃ z, z = thetaN l 191 := ⟨_, rfl⟩
      rw [← hp] at M1 HP
      have HV := Aside0.mk hp
      clear hp hj
      go_wp2_with (first
        | ((with_reducible refine gate_dst (N := 8) rfl ?_); refine Mem.load M1.out rfl 42 (.tmp 1) rfl rfl Try.underlying42 (by rw [HP.out]; exact info_st) ?_)
        | ((with_reducible refine gate_store (t := 42) (p := 2) rfl ?_); refine Mem.store (l' := p) M2.out rfl 42 (.tmp 2) (.tmp 8) rfl rfl rfl (by rw [HP.out]; exact info_st) (by rw [HP.out, zst_length]) ?_))
      refine bodyPost_ret (v := .agg (cellsOf .u64 (p))) (results_cell_row rfl _ _ _ _ _ _ _ rfl (Mem.put M2.out (p)) Try.underlying42 rfl (by rw [cellsOf_size, HP.out]; exact info_st)) rfl ⟨by rw [HV.out], below_setRow HB.out (by omega) _⟩
    | succ k1 =>
      have hlt : j < 191 := by omega
      have HJ := Aside0.mk hj
      clear hj
      have HP := Aside0.mk (thetaN_length l HL.out j)
      have HQ := Aside0.mk (thetaN_length l HL.out (j + 1))
      have C1 := Aside0.mk (cc (theta_c (thetaN l j) (thetaN_length l HL.out j) (thetaN_words l HL.out hw j)))
      rw [show thetaL (thetaN l j) = thetaN l (j + 1) from rfl] at C1
      have HV := Aside0.mk (⟨_, rfl⟩ : ∃ z, z = thetaN l (j + 1))
      generalize thetaN l j = p at *
      obtain ⟨p', hp'⟩ : ∃ z, z = thetaN l (j + 1) := ⟨_, rfl⟩
      rw [← hp'] at C1 HQ
      have HV := Aside0.mk hp'
      clear hp'
      go_wp2_with (first
        | ((with_reducible refine gate_dst (N := 5) rfl ?_); refine Mem.load M1.out rfl 42 (.tmp 1) rfl rfl Try.underlying42 (by rw [HP.out]; exact info_st) ?_)
        | (go_at_call 32; (with_reducible refine (C1.out.q _).mono ?_); rintro e w1 ⟨rfl, hb1⟩; have M1 := Aside0.mk (Mem.below M1.out hb1); have M2 := Aside0.mk (Mem.below M2.out hb1); have HB := Aside0.mk (below_step HB.out hb1))
        | ((with_reducible refine gate_store (t := 42) (p := 1) rfl ?_); refine Mem.store (l' := p') M1.out rfl 42 (.tmp 1) (.tmp 6) rfl rfl rfl (by rw [HQ.out]; exact info_st) (by rw [HQ.out, HP.out]) ?_))
      go_roundg k1
      case measure => omega
      case rel => exact ⟨j + 1, by have := HJ.out; omega, by go_num, ⟨by rw [← HV.out]; exact Mem.put M1.out _⟩, ⟨Mem.row M2.out (by omega) _⟩, ⟨below_setRow HB.out (by omega) _⟩⟩
end Go.Proofs.Ytdbcgjclnfhdfaa.Keccak
