/-
  Merged texts, what is reached of them: AesMap, AesEach, AesCols, AesColP, AesBlk: walks and plain lemmas; no condition.
-/
import Derived.Test.YtpdikfmdnlhllaaXAesEval
import Derived.Test.YtpdikfmdnlhllaaXAesLin
namespace Go.Proofs.Ytpdikfmdnlhllaa.Aes
open Go.RowKit Go.Proofs.Ytpdikfmdnlhllaa.PNib Go.Proofs.YtpdikfmdnlhllaaW.PrintWords Go.Proofs.YtpdikfmdnlhllaaW.PrintLast Go.Proofs.YtpdikfmdnlhllaaW.PrintMore Byte Sl Arr Mem Gives ArrEq Mat AesMath AesMov AesLin
set_option linter.unusedVariables false
set_option linter.unusedSimpArgs false
theorem z16_length : z16.length = 16 := rfl
theorem rsub_c (x : B) : GivesB 21 #[.int .u8 (I8 x)] (.int .u8 (I8 (subB x))) := fun w => (visorref07_Sub.calls 300 _ _ w (rsub_eq x)).mono fun _ _ ⟨a, b⟩ => ⟨a, b.below⟩
set_option maxHeartbeats 4000000 in
set_option maxRecDepth 100000 in
theorem rsubL_c (b : List B) (hb : b.length = 16) (w : World) : Calls Try.prog 77 #[.agg (cellsOf .u8 (ib b))] w fun e w' => e = .returned (.agg (cellsOf .u8 (ib (b.map subB)))) ∧ Below w.heap.size w w' := by
  have HL := Aside0.mk (show (ib b).length = 16 by rw [ib_length, hb])
  have HR := Aside0.mk (show (ib (b.map subB)).length = 16 by rw [ib_length, List.length_map, hb])
  have HG := Aside0.mk (fun j (h : j < 16) => show (ib b).getD j 0 = I8 (b.getD j 0#8) from ib_getD b j)
  have HS := Aside0.mk (fun j (h : j < 16) => fillTo_set (ib (b.map subB)) (ib b) (by rw [HR.out, HL.out]) j (by rw [HL.out]; exact h) (I8 (subB (b.getD j 0#8))) (by rw [ib_getD, map_getD _ _ _ (by rw [hb]; exact h)]))
  generalize ib (b.map subB) = r at *
  generalize ib b = l at *
  have HE := Aside0.mk (show fillTo r l 16 = r by rw [← HL.out]; exact fillTo_end r l (by rw [HR.out, HL.out]))
  have HFL := Aside0.mk (fun j => show (fillTo r l j).length = 16 by rw [fillTo_length r l (by rw [HR.out, HL.out]), HL.out])
  have HFG := Aside0.mk (fun j (h : j < 16) => show (fillTo r l j).getD j 0 = I8 (b.getD j 0#8) by rw [fillTo_ge r l (by rw [HR.out, HL.out]) j j (by rw [HL.out]; omega) (Nat.le_refl _)]; exact HG.out j h)
  clear hb HG
  have M1 := Aside0.mk (Mem.alloc (Mem.new .u8 w 31 l) (.cells (cellsOf .u8 z16) 31))
  have M2 := Aside0.mk (Mem.new2 .u8 w (.cells (cellsOf .u8 l) 31) 31 z16)
  have HB := Aside0.mk (below_alloc (below_alloc (Below.refl w.heap.size w) (.cells (cellsOf .u8 l) 31)) (.cells (cellsOf .u8 z16) 31))
  have M1 := Aside0.mk (show Mem .u8 _ w.heap.size 31 (fillTo r l 0) by rw [fillTo_zero]; exact M1.out)
  obtain ⟨cl, hcl⟩ : ∃ cs, cs = cellsOf .u8 l := ⟨_, rfl⟩
  have HCL := Aside0.mk hcl
  rw [← hcl] at M1 M2 HB ⊢
  clear hcl
  go_enter Try.func77, Try.ntmps77
  go_wp2
  go_loopg [3] 16 (fun kq i w' => ∃ j : Nat, j + kq = 16 ∧ i = .int .i64 j ∧ Aside0 (Mem .u8 w' w.heap.size 31 (fillTo r l j)) ∧ Aside0 (Mem .u8 w' (w.heap.size + 1) 31 z16) ∧ Aside0 (Below w.heap.size w w'))
  case atStart => exact ⟨0, by omega, rfl, M1, M2, HB⟩
  case round =>
    clear M1 M2 HB
    obtain ⟨j, hj, rfl, M1, M2, HB⟩ := hrel
    cases gk with
    | zero =>
      obtain rfl : j = 16 := by omega
      have M1 := Aside0.mk (show Mem .u8 _ w.heap.size 31 r by rw [← HE.out]; exact M1.out)
      clear HS HFL HFG
      go_wp2_with (first
        | ((with_reducible refine gate_dst (N := 14) rfl ?_); refine Mem.load M1.out rfl 31 (.tmp 1) rfl rfl Try.underlying31 (by rw [HR.out]; exact info16) ?_)
        | ((with_reducible refine gate_store (t := 31) (p := 2) rfl ?_); refine Mem.store (l' := r) M2.out rfl 31 (.tmp 2) (.tmp 14) rfl rfl rfl (by rw [HR.out]; exact info16) (by rw [z16_length, HR.out]) ?_))
      refine bodyPost_ret (v := .agg (cellsOf .u8 r)) (results_cell_row rfl _ _ _ _ _ _ _ rfl (Mem.put M2.out r) Try.underlying31 rfl (by rw [cellsOf_size, HR.out]; exact info16)) rfl ⟨rfl, below_setRow HB.out (by omega) _⟩
    | succ k1 =>
      have hlt : j < 16 := by omega
      have h0 : (0 : Int) ≤ (j : Int) := by omega
      have h1 : (j : Int) < 16 := by omega
      have hx := M1.out.cell j (by rw [HFL.out]; exact hlt)
      have HX := Aside0.mk (HFG.out j hlt)
      rw [HX.out] at hx
      have HSL := Aside0.mk (HFL.out j)
      have C1 := Aside0.mk (rsub_c (b.getD j 0#8))
      have HV := Aside0.mk (HS.out j hlt)
      generalize fillTo r l j = s at *
      generalize subB (b.getD j 0#8) = y at *
      generalize b.getD j 0#8 = x at *
      have HJ := Aside0.mk hj
      clear hj HS HFL HFG HE
      go_wp2_with (first
        | (go_at_call 21; (with_reducible refine (C1.out.q _).mono ?_); rintro e w4 ⟨rfl, hb4⟩; have M1 := Aside0.mk (Mem.below M1.out hb4); have M2 := Aside0.mk (Mem.below M2.out hb4); have HB := Aside0.mk (below_step HB.out hb4); clear hb4 hx; have hf := M1.out.free j; have hx := M1.out.cell j (by rw [HSL.out]; exact hlt)))
      go_roundg k1
      case measure => omega
      case rel => exact ⟨j + 1, by have := HJ.out; omega, by go_num, ⟨by rw [← HV.out]; exact Mem.set M1.out _ _⟩, ⟨Mem.other M2.out (by omega) _ _⟩, ⟨below_set HB.out (Nat.le_refl _)⟩⟩
set_option maxHeartbeats 4000000 in
set_option maxRecDepth 100000 in
theorem raddL_c (b k : List B) (hb : b.length = 16) (hk : k.length = 16) (A : Option Addr) (c : Nat) (w : World) (hC : Kd.C (Kd.int .u8) w A 16 (ib k)) (hc : 16 ≤ c) : Calls Try.prog 36 #[.agg (cellsOf .u8 (ib b)), .slice A 16 c] w fun e w' => e = .returned (.agg (cellsOf .u8 (ib (xorL b k)))) ∧ Below w.heap.size w w' := by
  obtain ⟨ad, rfl, _⟩ := Kd.at_int hC (0 : Int) (by decide) (by decide)
  have HK := Aside0.mk hC
  have HKX := Aside0.mk (fun (W : World) (hb : Below w.heap.size w W) (j : Nat) (h : j < 16) => show W.cell? (ad.add j) = some (.int .u8 (I8 (k.getD j 0#8))) from by
    obtain ⟨ad', e, hx⟩ := Kd.at_int (Kd.C_below hC hb) (j : Int) (by omega) (by omega)
    obtain rfl := Option.some.inj e
    rw [Int.toNat_natCast] at hx
    rw [hx]
    show some (Value.int .u8 ((ib k).getD (j : Int).toNat 0)) = _
    rw [Int.toNat_natCast, ib_getD])
  have HL := Aside0.mk (show (ib b).length = 16 by rw [ib_length, hb])
  have HR := Aside0.mk (show (ib (xorL b k)).length = 16 by rw [ib_length, xorL_length, hb])
  have HG := Aside0.mk (fun j (h : j < 16) => show (ib b).getD j 0 = I8 (b.getD j 0#8) from ib_getD b j)
  have HS := Aside0.mk (fun j (h : j < 16) => fillTo_set (ib (xorL b k)) (ib b) (by rw [HR.out, HL.out]) j (by rw [HL.out]; exact h) (Go.bits .xor .u8 (I8 (b.getD j 0#8)) (I8 (k.getD j 0#8))) (by rw [ib_getD, xorL_get _ _ _ (by rw [hb]; exact h), xor8]))
  generalize ib (xorL b k) = r at *
  generalize ib b = l at *
  have HE := Aside0.mk (show fillTo r l 16 = r by rw [← HL.out]; exact fillTo_end r l (by rw [HR.out, HL.out]))
  have HFL := Aside0.mk (fun j => show (fillTo r l j).length = 16 by rw [fillTo_length r l (by rw [HR.out, HL.out]), HL.out])
  have HFG := Aside0.mk (fun j (h : j < 16) => show (fillTo r l j).getD j 0 = I8 (b.getD j 0#8) by rw [fillTo_ge r l (by rw [HR.out, HL.out]) j j (by rw [HL.out]; omega) (Nat.le_refl _)]; exact HG.out j h)
  clear hb hk HG hC
  have M1 := Aside0.mk (Mem.alloc (Mem.new .u8 w 31 l) (.cells (cellsOf .u8 z16) 31))
  have M2 := Aside0.mk (Mem.new2 .u8 w (.cells (cellsOf .u8 l) 31) 31 z16)
  have HB := Aside0.mk (below_alloc (below_alloc (Below.refl w.heap.size w) (.cells (cellsOf .u8 l) 31)) (.cells (cellsOf .u8 z16) 31))
  have M1 := Aside0.mk (show Mem .u8 _ w.heap.size 31 (fillTo r l 0) by rw [fillTo_zero]; exact M1.out)
  obtain ⟨cl, hcl⟩ : ∃ cs, cs = cellsOf .u8 l := ⟨_, rfl⟩
  have HCL := Aside0.mk hcl
  rw [← hcl] at M1 M2 HB ⊢
  clear hcl
  go_enter Try.func36, Try.ntmps36
  go_wp2
  go_loopg [5] 16 (fun kq i w' => ∃ j : Nat, j + kq = 16 ∧ i = .int .i64 j ∧ Aside0 (Mem .u8 w' w.heap.size 31 (fillTo r l j)) ∧ Aside0 (Mem .u8 w' (w.heap.size + 1) 31 z16) ∧ Aside0 (Below w.heap.size w w'))
  case atStart => exact ⟨0, by omega, rfl, M1, M2, HB⟩
  case round =>
    clear M1 M2 HB
    obtain ⟨j, hj, rfl, M1, M2, HB⟩ := hrel
    cases gk with
    | zero =>
      obtain rfl : j = 16 := by omega
      have M1 := Aside0.mk (show Mem .u8 _ w.heap.size 31 r by rw [← HE.out]; exact M1.out)
      clear HS HFL HFG
      go_wp2_with (first
        | ((with_reducible refine gate_dst (N := 20) rfl ?_); refine Mem.load M1.out rfl 31 (.tmp 2) rfl rfl Try.underlying31 (by rw [HR.out]; exact info16) ?_)
        | ((with_reducible refine gate_store (t := 31) (p := 4) rfl ?_); refine Mem.store (l' := r) M2.out rfl 31 (.tmp 4) (.tmp 20) rfl rfl rfl (by rw [HR.out]; exact info16) (by rw [z16_length, HR.out]) ?_))
      refine bodyPost_ret (v := .agg (cellsOf .u8 r)) (results_cell_row rfl _ _ _ _ _ _ _ rfl (Mem.put M2.out r) Try.underlying31 rfl (by rw [cellsOf_size, HR.out]; exact info16)) rfl ⟨rfl, below_setRow HB.out (by omega) _⟩
    | succ k1 =>
      have hlt : j < 16 := by omega
      have h0 : (0 : Int) ≤ (j : Int) := by omega
      have h1 : (j : Int) < 16 := by omega
      have hx := M1.out.cell j (by rw [HFL.out]; exact hlt)
      rw [HFG.out j hlt] at hx
      have hs := HKX.out _ HB.out j hlt
      have hf := M1.out.free j
      have HV := Aside0.mk (HS.out j hlt)
      generalize fillTo r l j = s at *
      generalize b.getD j 0#8 = x at *
      generalize k.getD j 0#8 = y at *
      have HJ := Aside0.mk hj
      clear hj HS HFL HFG HE HKX
      go_wp2
      refine start_ (n := 11) (S := fun w' => w'.cell? ⟨w.heap.size, j, none⟩ = some (.int .u8 (I8 x)) ∧ w'.cell? (ad.add j) = some (.int .u8 (I8 y))) (ds := [10]) #[false, false, false, false, false, false, false, false, false, false, false] (by kernel_rfl) rfl rfl ⟨hx, hs⟩ (fun hHeld => ?_)
      refine pure_ (i := 0) (N := some 10) (v := ?_) (a' := ?_) #[true, false, false, false, false, false, false, false, false, false, false] rfl rfl (by kernel_rfl) (fun _ _ _ h => h) (Or.inl ⟨by rfl, ?_⟩) ?_ ?_
      rotate_left
      · intro w'
        go_simp
        with_reducible rfl
      rotate_left
      · simp only [Act.put, List.setIfInBounds_toArray, List.set_cons_zero, List.set_cons_succ, i64_w, i32_w]
        rfl
      refine pure_ (i := 1) (N := some 11) (v := ?_) (a' := ?_) #[true, true, false, false, false, false, false, false, false, false, false] rfl rfl (by kernel_rfl) (fun _ _ _ h => h) (Or.inl ⟨by rfl, ?_⟩) ?_ ?_
      rotate_left
      · intro w'
        go_simp
        with_reducible rfl
      rotate_left
      · simp only [Act.put, List.setIfInBounds_toArray, List.set_cons_zero, List.set_cons_succ, i64_w, i32_w]
        rfl
      refine pure_ (i := 2) (N := some 12) (v := ?_) (a' := ?_) #[true, true, true, false, false, false, false, false, false, false, false] rfl rfl (by kernel_rfl) (fun _ _ _ h => h) (Or.inl ⟨by rfl, ?_⟩) ?_ ?_
      rotate_left
      · intro w'
        go_simp
        with_reducible rfl
      rotate_left
      · simp only [Act.put, List.setIfInBounds_toArray, List.set_cons_zero, List.set_cons_succ, i64_w, i32_w]
        rfl
      refine pure_ (i := 4) (N := some 14) (v := ?_) (a' := ?_) #[true, true, true, false, true, false, false, false, false, false, false] rfl rfl (by kernel_rfl) (fun _ _ _ h => h) (Or.inl ⟨by rfl, ?_⟩) ?_ ?_
      rotate_left
      · intro w'
        go_simp
        with_reducible rfl
      rotate_left
      · simp only [Act.put, List.setIfInBounds_toArray, List.set_cons_zero, List.set_cons_succ, i64_w, i32_w]
        rfl
      refine pure_ (i := 5) (N := some 15) (v := ?_) (a' := ?_) #[true, true, true, false, true, true, false, false, false, false, false] rfl rfl (by kernel_rfl) (fun _ _ _ h => h) (Or.inl ⟨by rfl, ?_⟩) ?_ ?_
      rotate_left
      · intro w'
        go_simp
        with_reducible rfl
      rotate_left
      · simp only [Act.put, List.setIfInBounds_toArray, List.set_cons_zero, List.set_cons_succ, i64_w, i32_w]
        rfl
      refine pure_ (i := 6) (N := some 16) (v := ?_) (a' := ?_) #[true, true, true, false, true, true, true, false, false, false, false] rfl rfl (by kernel_rfl) (fun _ _ _ h => h) (Or.inl ⟨by rfl, ?_⟩) ?_ ?_
      rotate_left
      · intro w'
        go_simp
        with_reducible rfl
      rotate_left
      · simp only [Act.put, List.setIfInBounds_toArray, List.set_cons_zero, List.set_cons_succ, i64_w, i32_w]
        rfl
      refine take_ (i := 3) (N := some 13) (v := ?_) (a' := ?_) #[true, true, true, true, true, true, true, false, false, false, false] rfl rfl (by kernel_rfl) (fun _ _ _ h => h) (Or.inl ⟨by rfl, ?_⟩) hHeld ?_ ?_
      rotate_left
      · rintro w' ⟨s0, s1⟩
        go_simp
        with_reducible rfl
      rotate_left
      · simp only [Act.put, List.setIfInBounds_toArray, List.set_cons_zero, List.set_cons_succ, i64_w, i32_w]
        rfl
      refine take_ (i := 7) (N := some 17) (v := ?_) (a' := ?_) #[true, true, true, true, true, true, true, true, false, false, false] rfl rfl (by kernel_rfl) (fun _ _ _ h => h) (Or.inl ⟨by rfl, ?_⟩) hHeld ?_ ?_
      rotate_left
      · rintro w' ⟨s0, s1⟩
        go_simp
        with_reducible rfl
      rotate_left
      · simp only [Act.put, List.setIfInBounds_toArray, List.set_cons_zero, List.set_cons_succ, i64_w, i32_w]
        rfl
      refine pure_ (i := 8) (N := some 18) (v := ?_) (a' := ?_) #[true, true, true, true, true, true, true, true, true, false, false] rfl rfl (by kernel_rfl) (fun _ _ _ h => h) (Or.inl ⟨by rfl, ?_⟩) ?_ ?_
      rotate_left
      · intro w'
        go_simp
        with_reducible rfl
      rotate_left
      · simp only [Act.put, List.setIfInBounds_toArray, List.set_cons_zero, List.set_cons_succ, i64_w, i32_w]
        rfl
      refine pure_ (i := 9) (N := some 19) (v := ?_) (a' := ?_) #[true, true, true, true, true, true, true, true, true, true, false] rfl rfl (by kernel_rfl) (fun _ _ _ h => h) (Or.inl ⟨by rfl, ?_⟩) ?_ ?_
      rotate_left
      · intro w'
        go_simp
        with_reducible rfl
      rotate_left
      · simp only [Act.put, List.setIfInBounds_toArray, List.set_cons_zero, List.set_cons_succ, i64_w, i32_w]
        rfl
      refine last_ (i := 10) (N := none) #[true, true, true, true, true, true, true, true, true, true, true] rfl rfl (by kernel_rfl) (by decide) (fun K hK => ?_)
      refine skip_ (w1 := ?_) (by rfl) rfl ?_ ?_
      rotate_left
      · go_simp
        rfl
      refine hK.out _ _ ?_
      clear hK K
      refine done_ (by kernel_rfl) ?_
      go_wp2
      go_roundg k1
      case measure => omega
      case rel => exact ⟨j + 1, by have := HJ.out; omega, by go_num, ⟨by rw [← HV.out]; exact Mem.set (Mem.drew M1.out) _ _⟩, ⟨Mem.other (Mem.drew M2.out) (by omega) _ _⟩, ⟨below_set (below_drew HB.out) (Nat.le_refl _)⟩⟩
end Go.Proofs.Ytpdikfmdnlhllaa.Aes
namespace Go.Proofs.Ytpdikfmdnlhllaa.Aes
open Go.RowKit Go.Proofs.Ytpdikfmdnlhllaa.PNib Go.Proofs.YtpdikfmdnlhllaaW.PrintWords Go.Proofs.YtpdikfmdnlhllaaW.PrintLast Go.Proofs.YtpdikfmdnlhllaaW.PrintMore Byte Sl Arr Mem Gives ArrEq Mat AesMath AesMov AesLin
set_option linter.unusedVariables false
set_option linter.unusedSimpArgs false
/-- Block g is a cipher, with the box bx and these round keys. -/
def Cph (w : World) (g bx : Nat) (ks : List (List B)) : Prop := (∃ A c, w.heap[g]? = some (.cells #[.pointer (some ⟨bx, 0, none⟩), .slice A ks.length c] 89 (0, 0)) ∧ ks.length ≤ c ∧ Kd.F (Kd.slice 5 (Kd.int .u8)) w (fun k => k ≠ bx) A ks.length (ks.map ib)) ∧ BoxS w bx
section
variable {w w' : World} {g bx : Nat} {ks : List (List B)}
theorem Cph.box (h : Cph w g bx ks) : BoxS w bx := h.2
theorem Cph.lt (h : Cph w g bx ks) : g < w.heap.size := by
  obtain ⟨⟨A, c, h, _⟩, _⟩ := h
  exact blk_lt h
theorem Cph.ne (h : Cph w g bx ks) : g ≠ bx := by
  obtain ⟨⟨A, c, h, _⟩, hB⟩ := h
  obtain ⟨cs, hcs⟩ := hB.typed
  exact blk_ne h hcs (by decide)
theorem Cph.below (h : Cph w g bx ks) (hb : Below w.heap.size w w') : Cph w' g bx ks := by
  obtain ⟨⟨A, c, h, hc, hF⟩, hB⟩ := h
  exact ⟨⟨A, c, blk_below h hb, hc, Kd.F_below hF hb⟩, hB.below hb⟩
end
set_option maxHeartbeats 4000000 in
set_option maxRecDepth 100000 in
theorem eachSub_c (b : List B) (hb : b.length = 16) (bx : Nat) (w : World) (hX : BoxS w bx) : Calls Try.prog 74 #[.agg (cellsOf .u8 (ib b)), .func (.func 75) #[.pointer (some ⟨bx, 0, none⟩)] #[]] w fun e w' => e = .returned (.agg (cellsOf .u8 (ib (b.map subB)))) ∧ BoxS w' bx ∧ Ch bx w w' := by
  have HL := Aside0.mk (show (ib b).length = 16 by rw [ib_length, hb])
  have HR := Aside0.mk (show (ib (b.map subB)).length = 16 by rw [ib_length, List.length_map, hb])
  have HS := Aside0.mk (fun j (h : j < 16) => fillTo_set (ib (b.map subB)) (ib b) (by rw [HR.out, HL.out]) j (by rw [HL.out]; exact h) (I8 (subB (b.getD j 0#8))) (by rw [ib_getD, map_getD _ _ _ (by rw [hb]; exact h)]))
  have HIX := Aside0.mk (fun (W : World) (j : Nat) (h : j < 16) => show (Instr.index 31 (.agg (cellsOf .u8 (ib b))) (.int .i64 (j : Int))).run Try.prog W = .ok (.int .u8 (I8 (b.getD j 0#8))) W by
    rw [← ib_getD]
    exact Mem.run_index_arr Try.underlying31 Try.underlying5 (by kernel_rfl) HL.out j h W)
  generalize ib (b.map subB) = r at *
  generalize ib b = l at *
  have HE := Aside0.mk (show fillTo r l 16 = r by rw [← HL.out]; exact fillTo_end r l (by rw [HR.out, HL.out]))
  have HFL := Aside0.mk (fun j => show (fillTo r l j).length = 16 by rw [fillTo_length r l (by rw [HR.out, HL.out]), HL.out])
  have HXL := Aside0.mk hX.lt
  clear hb
  have M1 := Aside0.mk (Mem.alloc (Mem.new .u8 w 31 l) (.cells (cellsOf .u8 z16) 31))
  have M2 := Aside0.mk (Mem.new2 .u8 w (.cells (cellsOf .u8 l) 31) 31 z16)
  have HB := Aside0.mk (below_alloc (below_alloc (Below.refl w.heap.size w) (.cells (cellsOf .u8 l) 31)) (.cells (cellsOf .u8 z16) 31))
  have HX := Aside0.mk (hX.below HB.out)
  have HC := Aside0.mk (Ch.of_below (g := bx) HB.out)
  clear hX HB
  obtain ⟨cl, hcl⟩ : ∃ cs, cs = cellsOf .u8 l := ⟨_, rfl⟩
  have HCL := Aside0.mk hcl
  rw [← hcl] at M1 M2 HX HC HIX ⊢
  clear hcl
  go_enter Try.func74, Try.ntmps74
  go_wp2_with (first
    | ((with_reducible refine gate_dst (N := 7) rfl ?_); refine Mem.load M1.out rfl 31 (.tmp 2) rfl rfl Try.underlying31 (by rw [HL.out]; exact info16) ?_))
  rw [← HCL.out]
  have M1 := Aside0.mk (show Mem .u8 _ w.heap.size 31 (fillTo r l 0) by rw [fillTo_zero]; exact M1.out)
  go_loopg [8] 16 (fun kq i w' => ∃ j : Nat, j + kq = 16 ∧ i = .int .i64 j ∧ Aside0 (Mem .u8 w' w.heap.size 31 (fillTo r l j)) ∧ Aside0 (Mem .u8 w' (w.heap.size + 1) 31 z16) ∧ Aside0 (BoxS w' bx) ∧ Aside0 (Ch bx w w'))
  case atStart => exact ⟨0, by omega, rfl, M1, M2, HX, HC⟩
  case round =>
    clear M1 M2 HX HC
    obtain ⟨j, hj, rfl, M1, M2, HX, HC⟩ := hrel
    cases gk with
    | zero =>
      obtain rfl : j = 16 := by omega
      have M1 := Aside0.mk (show Mem .u8 _ w.heap.size 31 r by rw [← HE.out]; exact M1.out)
      clear HS HFL HIX
      go_wp2_with (first
        | ((with_reducible refine gate_dst (N := 18) rfl ?_); refine Mem.load M1.out rfl 31 (.tmp 2) rfl rfl Try.underlying31 (by rw [HR.out]; exact info16) ?_)
        | ((with_reducible refine gate_store (t := 31) (p := 4) rfl ?_); refine Mem.store (l' := r) M2.out rfl 31 (.tmp 4) (.tmp 18) rfl rfl rfl (by rw [HR.out]; exact info16) (by rw [z16_length, HR.out]) ?_))
      refine bodyPost_ret (v := .agg (cellsOf .u8 r)) (results_cell_row rfl _ _ _ _ _ _ _ rfl (Mem.put M2.out r) Try.underlying31 rfl (by rw [cellsOf_size, HR.out]; exact info16)) rfl ⟨rfl, HX.out.row (by have := HXL.out; omega) _, Ch.row' HC.out (by omega) _⟩
    | succ k1 =>
      have hlt : j < 16 := by omega
      have h0 : (0 : Int) ≤ (j : Int) := by omega
      have h1 : (j : Int) < 16 := by omega
      have hix := fun W => HIX.out W j hlt
      have HSL := Aside0.mk (HFL.out j)
      have C1 := Aside0.mk (fun (W : World) (h : BoxS W bx) => subS_c h (b.getD j 0#8))
      have HV := Aside0.mk (HS.out j hlt)
      generalize fillTo r l j = s at *
      generalize subB (b.getD j 0#8) = y at *
      generalize b.getD j 0#8 = x at *
      have HJ := Aside0.mk hj
      clear hj HS HFL HE HIX
      go_wp2_with (first
        | (go_at_call 75; (refine (C1.out _ HX.out).mono ?_); rintro e w4 ⟨rfl, hx4, hc4⟩; have M1 := Aside0.mk (mem_ch M1.out hc4 (by have := HXL.out; omega)); have M2 := Aside0.mk (mem_ch M2.out hc4 (by have := HXL.out; omega)); have HX := Aside0.mk hx4; have HC := Aside0.mk (HC.out.trans hc4); clear hx4 hc4; have hf := M1.out.free j; have hx := M1.out.cell j (by rw [HSL.out]; exact hlt)))
      go_roundg k1
      case measure => omega
      case rel => exact ⟨j + 1, by have := HJ.out; omega, by go_num, ⟨by rw [← HV.out]; exact Mem.set M1.out _ _⟩, ⟨Mem.other M2.out (by omega) _ _⟩, ⟨HX.out.set (by have := HXL.out; omega) _ _⟩, ⟨Ch.far HC.out (Nat.le_refl _) (Ch.set _ _ _)⟩⟩
theorem Cph.key {w : World} {g bx : Nat} {ks : List (List B)} (h : Cph w g bx ks) (i : Nat) (hi : i < ks.length) : ∃ ad c Ai ci, w.cell? ⟨g, 1, none⟩ = some (.slice (some ad) ks.length c) ∧ w.cell? (ad.add i) = some (.slice Ai (keyAt ks i).length ci) ∧ Kd.C (Kd.int .u8) w Ai (keyAt ks i).length (ib (keyAt ks i)) := by
  obtain ⟨⟨A, c, hb, hl, hF⟩, _⟩ := h
  obtain ⟨ad, cs, rfl, hcl, hK, hcc⟩ := Kd.C_get (Kd.F_now hF) [] (i : Int) (by omega) (by omega)
  obtain ⟨Ai, ci, rfl, hli, hCi⟩ := hK
  have e : (ks.map ib).getD (i : Int).toNat [] = ib (keyAt ks i) := by
    unfold keyAt
    rw [Int.toNat_natCast, List.getD_eq_getElem?_getD, List.getD_eq_getElem?_getD, List.getElem?_map, List.getElem?_eq_getElem hi]
    rfl
  rw [e] at hcc hCi
  rw [ib_length] at hcc hCi
  refine ⟨ad, c, Ai, ci, by rw [blk_cell hb]; rfl, ?_, hCi⟩
  have h0 := hcc 0 _ rfl
  rw [Int.toNat_natCast] at h0
  simpa [Kd.slice] using h0
theorem Cph.rounds {w : World} {g bx : Nat} {ks : List (List B)} (h : Cph w g bx ks) : ∃ A c, w.cell? ⟨g, 1, none⟩ = some (.slice A ks.length c) := by
  obtain ⟨⟨A, c, hb, hl, hF⟩, _⟩ := h
  exact ⟨A, c, by rw [blk_cell hb]; rfl⟩
theorem Cph.boxp {w : World} {g bx : Nat} {ks : List (List B)} (h : Cph w g bx ks) : w.cell? ⟨g, 0, none⟩ = some (.pointer (some ⟨bx, 0, none⟩)) := by
  obtain ⟨⟨A, c, hb, hl, hF⟩, _⟩ := h
  rw [blk_cell hb]; rfl
set_option maxHeartbeats 4000000 in
set_option maxRecDepth 100000 in
theorem add_c (b : List B) (hb : b.length = 16) (g bx : Nat) (ks : List (List B)) (r : Nat) (hr : r < ks.length) (hk : (keyAt ks r).length = 16) (hr2 : r < 4611686018427387904) (w : World) (hX : Cph w g bx ks) : Calls Try.prog 73 #[.pointer (some ⟨g, 0, none⟩), .agg (cellsOf .u8 (ib b)), .int .i64 (r : Int)] w fun e w' => e = .returned (.agg (cellsOf .u8 (ib (xorL b (keyAt ks r))))) ∧ Below w.heap.size w w' := by
  obtain ⟨ad, c, Ai, ci, hc1, hc2, hCi⟩ := hX.key r hr
  rw [hk] at hc2 hCi
  obtain ⟨ai, rfl, _⟩ := Kd.at_int hCi (0 : Int) (by decide) (by decide)
  generalize keyAt ks r = k at *
  have HKX := Aside0.mk (fun (W : World) (hb : Below w.heap.size w W) (j : Nat) (h : j < 16) => show W.cell? (ai.add j) = some (.int .u8 (I8 (k.getD j 0#8))) from by
    obtain ⟨ad', e, hx⟩ := Kd.at_int (Kd.C_below hCi hb) (j : Int) (by omega) (by omega)
    obtain rfl := Option.some.inj e
    rw [Int.toNat_natCast] at hx
    rw [hx]
    show some (Value.int .u8 ((ib k).getD (j : Int).toNat 0)) = _
    rw [Int.toNat_natCast, ib_getD])
  have HL := Aside0.mk (show (ib b).length = 16 by rw [ib_length, hb])
  have HR := Aside0.mk (show (ib (xorL b k)).length = 16 by rw [ib_length, xorL_length, hb])
  have HG := Aside0.mk (fun j (h : j < 16) => show (ib b).getD j 0 = I8 (b.getD j 0#8) from ib_getD b j)
  have HS := Aside0.mk (fun j (h : j < 16) => fillTo_set (ib (xorL b k)) (ib b) (by rw [HR.out, HL.out]) j (by rw [HL.out]; exact h) (Go.bits .xor .u8 (I8 (b.getD j 0#8)) (I8 (k.getD j 0#8))) (by rw [ib_getD, xorL_get _ _ _ (by rw [hb]; exact h), xor8]))
  generalize ib (xorL b k) = r' at *
  generalize ib b = l at *
  have HE := Aside0.mk (show fillTo r' l 16 = r' by rw [← HL.out]; exact fillTo_end r' l (by rw [HR.out, HL.out]))
  have HFL := Aside0.mk (fun j => show (fillTo r' l j).length = 16 by rw [fillTo_length r' l (by rw [HR.out, HL.out]), HL.out])
  have HFG := Aside0.mk (fun j (h : j < 16) => show (fillTo r' l j).getD j 0 = I8 (b.getD j 0#8) by rw [fillTo_ge r' l (by rw [HR.out, HL.out]) j j (by rw [HL.out]; omega) (Nat.le_refl _)]; exact HG.out j h)
  clear hb hk HG hCi hX
  have M1 := Aside0.mk (Mem.alloc (Mem.new .u8 w 31 l) (.cells (cellsOf .u8 z16) 31))
  have M2 := Aside0.mk (Mem.new2 .u8 w (.cells (cellsOf .u8 l) 31) 31 z16)
  have HB := Aside0.mk (below_alloc (below_alloc (Below.refl w.heap.size w) (.cells (cellsOf .u8 l) 31)) (.cells (cellsOf .u8 z16) 31))
  have M1 := Aside0.mk (show Mem .u8 _ w.heap.size 31 (fillTo r' l 0) by rw [fillTo_zero]; exact M1.out)
  obtain ⟨cl, hcl⟩ : ∃ cs, cs = cellsOf .u8 l := ⟨_, rfl⟩
  have HCL := Aside0.mk hcl
  rw [← hcl] at M1 M2 HB ⊢
  clear hcl
  have hd1 := show ((w.alloc (.cells cl 31)).alloc (.cells #[.int .u8 0, .int .u8 0, .int .u8 0, .int .u8 0, .int .u8 0, .int .u8 0, .int .u8 0, .int .u8 0, .int .u8 0, .int .u8 0, .int .u8 0, .int .u8 0, .int .u8 0, .int .u8 0, .int .u8 0, .int .u8 0] 31)).cell? _ = _ from pw_cell_below HB.out hc1
  have hd2 := show ((w.alloc (.cells cl 31)).alloc (.cells #[.int .u8 0, .int .u8 0, .int .u8 0, .int .u8 0, .int .u8 0, .int .u8 0, .int .u8 0, .int .u8 0, .int .u8 0, .int .u8 0, .int .u8 0, .int .u8 0, .int .u8 0, .int .u8 0, .int .u8 0, .int .u8 0] 31)).cell? _ = _ from pw_cell_below HB.out hc2
  clear hc1 hc2
  have q0 : (0 : Int) ≤ (r : Int) := by omega
  have q1 : (r : Int) < (ks.length : Int) := by omega
  go_enter Try.func73, Try.ntmps73
  go_wp2
  clear hd1 hd2
  go_loopg [17] 16 (fun kq i w' => ∃ j : Nat, j + kq = 16 ∧ i = .int .i64 j ∧ Aside0 (Mem .u8 w' w.heap.size 31 (fillTo r' l j)) ∧ Aside0 (Mem .u8 w' (w.heap.size + 1) 31 z16) ∧ Aside0 (Below w.heap.size w w'))
  case atStart => exact ⟨0, by omega, rfl, M1, M2, HB⟩
  case round =>
    clear M1 M2 HB
    obtain ⟨j, hj, rfl, M1, M2, HB⟩ := hrel
    cases gk with
    | zero =>
      obtain rfl : j = 16 := by omega
      have M1 := Aside0.mk (show Mem .u8 _ w.heap.size 31 r' by rw [← HE.out]; exact M1.out)
      clear HS HFL HFG
      go_wp2_with (first
        | ((with_reducible refine gate_dst (N := 29) rfl ?_); refine Mem.load M1.out rfl 31 (.tmp 4) rfl rfl Try.underlying31 (by rw [HR.out]; exact info16) ?_)
        | ((with_reducible refine gate_store (t := 31) (p := 6) rfl ?_); refine Mem.store (l' := r') M2.out rfl 31 (.tmp 6) (.tmp 29) rfl rfl rfl (by rw [HR.out]; exact info16) (by rw [z16_length, HR.out]) ?_))
      refine bodyPost_ret (v := .agg (cellsOf .u8 r')) (results_cell_row rfl _ _ _ _ _ _ _ rfl (Mem.put M2.out r') Try.underlying31 rfl (by rw [cellsOf_size, HR.out]; exact info16)) rfl ⟨rfl, below_setRow HB.out (by omega) _⟩
    | succ k1 =>
      have hlt : j < 16 := by omega
      have h0 : (0 : Int) ≤ (j : Int) := by omega
      have h1 : (j : Int) < 16 := by omega
      have hx := M1.out.cell j (by rw [HFL.out]; exact hlt)
      rw [HFG.out j hlt] at hx
      have hs := HKX.out _ HB.out j hlt
      have hf := M1.out.free j
      have HV := Aside0.mk (HS.out j hlt)
      generalize fillTo r' l j = s at *
      generalize b.getD j 0#8 = x at *
      generalize k.getD j 0#8 = y at *
      have HJ := Aside0.mk hj
      clear hj HS HFL HFG HE HKX
      go_wp2
      go_roundg k1
      case measure => omega
      case rel => exact ⟨j + 1, by have := HJ.out; omega, by go_num, ⟨by rw [← HV.out]; exact Mem.set M1.out _ _⟩, ⟨Mem.other M2.out (by omega) _ _⟩, ⟨below_set HB.out (Nat.le_refl _)⟩⟩
end Go.Proofs.Ytpdikfmdnlhllaa.Aes
namespace Go.Proofs.Ytpdikfmdnlhllaa.Aes
open Go.RowKit Go.Proofs.Ytpdikfmdnlhllaa.PNib Go.Proofs.YtpdikfmdnlhllaaW.PrintWords Go.Proofs.YtpdikfmdnlhllaaW.PrintLast Go.Proofs.YtpdikfmdnlhllaaW.PrintMore Byte Sl Arr Mem Gives ArrEq Mat AesMath AesMov AesLin
set_option linter.unusedVariables false
set_option linter.unusedSimpArgs false
theorem rmul_c (a x : B) : Gives 72 #[.int .u8 (I8 a), .int .u8 (I8 x)] (.int .u8 (I8 (GfMath.mul a x))) := fun w => visorref03_Mul.calls 100 _ _ _ w (GfE.RMul_eq a x 100 (by decide))
theorem twice_c (x : B) : Gives 71 #[.int .u8 (I8 x)] (.int .u8 (I8 (GfMath.T x))) := fun w => gf_Twice.calls _ _ w (GfE.Twice_eq x)
theorem colsB_get (b : List B) (i : Nat) (h : i < 16) : (colsB b).getD i 0#8 = colE (at4 b i 0) (at4 b i 1) (at4 b i 2) (at4 b i 3) := byN_get _ _ _ h
theorem ix0 (j : Nat) (h : j < 16) : IntKind.i64.wrap ((j : Int) / 4 * 4) = ((j / 4 * 4 : Nat) : Int) ∧ wrap64 ((j : Int) / 4 * 4) = ((j / 4 * 4 : Nat) : Int) := by
  rw [IntKind.wrap_i64]; unfold wrap64; omega
theorem ix4 (j : Nat) (h : j < 16) (k : Nat) (K : Int) (hK : K = (k : Int)) (hk : k ≤ 3) : IntKind.i64.wrap ((j : Int) + K) = ((j + k : Nat) : Int) ∧ wrap64 ((j : Int) + K) = ((j + k : Nat) : Int) ∧ Int.tmod ((j + k : Nat) : Int) 4 = (((j + k) % 4 : Nat) : Int) ∧ ((j + k : Nat) : Int) % 4 = (((j + k) % 4 : Nat) : Int) ∧ IntKind.i64.wrap (((j / 4 * 4 : Nat) : Int) + (((j + k) % 4 : Nat) : Int)) = ((j / 4 * 4 + (j + k) % 4 : Nat) : Int) ∧ wrap64 (((j / 4 * 4 : Nat) : Int) + (((j + k) % 4 : Nat) : Int)) = ((j / 4 * 4 + (j + k) % 4 : Nat) : Int) ∧ (0 : Int) ≤ ((j / 4 * 4 + (j + k) % 4 : Nat) : Int) ∧ ((j / 4 * 4 + (j + k) % 4 : Nat) : Int) < 16 ∧ j / 4 * 4 + (j + k) % 4 < 16 := by
  refine ⟨?_, ?_, ?_, ?_, ?_, ?_, ?_, ?_, ?_⟩
  · rw [IntKind.wrap_i64]; omega
  · unfold wrap64; omega
  · rw [Int.tmod_eq_emod_of_nonneg (by omega)]; omega
  · omega
  · rw [IntKind.wrap_i64]; omega
  · unfold wrap64; omega
  · omega
  · omega
  · omega
theorem built16 : Try.prog.built 31 [] = some (cellsOf .u8 z16) := by kernel_rfl
set_option maxHeartbeats 4000000 in
set_option maxRecDepth 100000 in
theorem rcols_c (b : List B) (hb : b.length = 16) (w : World) : Calls Try.prog 25 #[.agg (cellsOf .u8 (ib b))] w fun e w' => e = .returned (.agg (cellsOf .u8 (ib (colsB b)))) ∧ Below w.heap.size w w' := by
  have HL := Aside0.mk (show (ib b).length = 16 by rw [ib_length, hb])
  have HR := Aside0.mk (show (ib (colsB b)).length = 16 by rw [ib_length, colsB_length])
  have HG := Aside0.mk (fun j (h : j < 16) => show (ib b).getD j 0 = I8 (b.getD j 0#8) from ib_getD b j)
  have HS := Aside0.mk (fun j (h : j < 16) => fillTo_set (ib (colsB b)) z16 (by rw [HR.out]; rfl) j h (I8 (GfMath.mul 2#8 (b.getD j 0#8) ^^^ GfMath.mul 3#8 (at4 b j 1) ^^^ at4 b j 2 ^^^ at4 b j 3)) (by rw [ib_getD, colsB_get _ _ h, colE_ref, at4_zero]))
  generalize ib (colsB b) = r at *
  generalize ib b = l at *
  have HE := Aside0.mk (show fillTo r z16 16 = r from fillTo_end r z16 (by rw [HR.out]; rfl))
  have HFL := Aside0.mk (fun j => show (fillTo r z16 j).length = 16 by rw [fillTo_length r z16 (by rw [HR.out]; rfl)]; rfl)
  have M1 := Aside0.mk (Mem.alloc (Mem.alloc (Mem.new .u8 w 31 l) (.cells (cellsOf .u8 z16) 31)) (.cells (cellsOf .u8 z16) 31))
  have M2 := Aside0.mk (Mem.alloc (Mem.new2 .u8 w (.cells (cellsOf .u8 l) 31) 31 z16) (.cells (cellsOf .u8 z16) 31))
  have M3 := Aside0.mk (Mem.new3 .u8 w (.cells (cellsOf .u8 l) 31) (.cells (cellsOf .u8 z16) 31) 31 z16)
  have HB := Aside0.mk (below_alloc (below_alloc (below_alloc (Below.refl w.heap.size w) (.cells (cellsOf .u8 l) 31)) (.cells (cellsOf .u8 z16) 31)) (.cells (cellsOf .u8 z16) 31))
  obtain ⟨cl, hcl⟩ : ∃ cs, cs = cellsOf .u8 l := ⟨_, rfl⟩
  have HCL := Aside0.mk hcl
  rw [← hcl] at M1 M2 M3 HB ⊢
  clear hcl hb
  go_enter Try.func25, Try.ntmps25
  go_wp2_with (first
    | ((with_reducible refine gate_dst (N := 6) rfl ?_); refine wpList_build_zero rfl 31 rfl (cellsOf .u8 z16) built16 ?_)
    | ((with_reducible refine gate_store (t := 31) (p := 3) rfl ?_); refine Mem.store (l' := z16) M3.out rfl 31 (.tmp 3) (.tmp 6) rfl rfl rfl (by first | exact info16 | (rw [z16_length]; exact info16)) (by first | rfl | rw [z16_length, z16_length]) ?_))
  have HB := Aside0.mk (below_setRow HB.out (g := w.heap.size + 2) (by omega) (cellsOf .u8 z16))
  have M1 := Aside0.mk (Mem.row M1.out (show w.heap.size + 2 ≠ w.heap.size by omega) (cellsOf .u8 z16))
  have M2 := Aside0.mk (Mem.row M2.out (show w.heap.size + 2 ≠ w.heap.size + 1 by omega) (cellsOf .u8 z16))
  have M3 := Aside0.mk (show Mem .u8 _ (w.heap.size + 2) 31 (fillTo r z16 0) by rw [fillTo_zero]; exact Mem.put M3.out z16)
  go_loopg [4] 16 (fun kq i w' => ∃ j : Nat, j + kq = 16 ∧ i = .int .i64 j ∧ Aside0 (Mem .u8 w' w.heap.size 31 l) ∧ Aside0 (Mem .u8 w' (w.heap.size + 1) 31 z16) ∧ Aside0 (Mem .u8 w' (w.heap.size + 2) 31 (fillTo r z16 j)) ∧ Aside0 (Below w.heap.size w w'))
  case atStart => exact ⟨0, by omega, rfl, M1, M2, M3, HB⟩
  case round =>
    clear M1 M2 M3 HB
    obtain ⟨j, hj, rfl, M1, M2, M3, HB⟩ := hrel
    cases gk with
    | zero =>
      obtain rfl : j = 16 := by omega
      have M3 := Aside0.mk (show Mem .u8 _ (w.heap.size + 2) 31 r by rw [← HE.out]; exact M3.out)
      clear HS HFL HG
      go_wp2_with (first
        | ((with_reducible refine gate_dst (N := 45) rfl ?_); refine Mem.load M3.out rfl 31 (.tmp 3) rfl rfl Try.underlying31 (by rw [HR.out]; exact info16) ?_)
        | ((with_reducible refine gate_store (t := 31) (p := 2) rfl ?_); refine Mem.store (l' := r) M2.out rfl 31 (.tmp 2) (.tmp 45) rfl rfl rfl (by first | exact info16 | (rw [HR.out]; exact info16)) (by first | rfl | rw [z16_length, HR.out]) ?_))
      refine bodyPost_ret (v := .agg (cellsOf .u8 r)) (results_cell_row rfl _ _ _ _ _ _ _ rfl (Mem.put M2.out r) Try.underlying31 rfl (by rw [cellsOf_size, HR.out]; exact info16)) rfl ⟨rfl, below_setRow HB.out (by omega) _⟩
    | succ k1 =>
      have hlt : j < 16 := by omega
      have h0 : (0 : Int) ≤ (j : Int) := by omega
      have h1 : (j : Int) < 16 := by omega
      have hy := M3.out.cell j (by rw [HFL.out]; exact hlt)
      have hf := M3.out.free j
      obtain ⟨nx, hnx⟩ : ∃ z : Nat, z = j + 1 := ⟨_, rfl⟩
      have HV := Aside0.mk (HS.out j hlt)
      have HJ := Aside0.mk (show nx + k1 = 16 by omega)
      have HN := Aside0.mk (show ((j : Int) + 1 : Int) = (nx : Int) ∧ wrap64 ((j : Int) + 1) = (nx : Int) ∧ ((j + 1 : Nat) : Int) = (nx : Int) from ⟨by omega, by unfold wrap64; omega, by omega⟩)
      rw [← hnx] at HV
      clear hnx
      have q4 := (ix0 j hlt).1
      have q4w := (ix0 j hlt).2
      have hx0 := M1.out.cell j (by rw [HL.out]; exact hlt)
      rw [HG.out _ hlt] at hx0
      unfold at4 at HV
      obtain ⟨a1, aw1, b1, b1', d1, dw1, i1', i1, l1⟩ := ix4 j hlt 1 1 rfl (by decide)
      have hx1 := M1.out.cell (j / 4 * 4 + (j + 1) % 4) (by rw [HL.out]; exact l1)
      rw [HG.out _ l1] at hx1
      obtain ⟨p1, hp1⟩ : ∃ z : Nat, z = j / 4 * 4 + (j + 1) % 4 := ⟨_, rfl⟩
      rw [← hp1] at d1 dw1 i1' i1 hx1 HV
      clear hp1 l1
      obtain ⟨a2, aw2, b2, b2', d2, dw2, i2', i2, l2⟩ := ix4 j hlt 2 2 rfl (by decide)
      have hx2 := M1.out.cell (j / 4 * 4 + (j + 2) % 4) (by rw [HL.out]; exact l2)
      rw [HG.out _ l2] at hx2
      obtain ⟨p2, hp2⟩ : ∃ z : Nat, z = j / 4 * 4 + (j + 2) % 4 := ⟨_, rfl⟩
      rw [← hp2] at d2 dw2 i2' i2 hx2 HV
      clear hp2 l2
      obtain ⟨a3, aw3, b3, b3', d3, dw3, i3', i3, l3⟩ := ix4 j hlt 3 3 rfl (by decide)
      have hx3 := M1.out.cell (j / 4 * 4 + (j + 3) % 4) (by rw [HL.out]; exact l3)
      rw [HG.out _ l3] at hx3
      obtain ⟨p3, hp3⟩ : ∃ z : Nat, z = j / 4 * 4 + (j + 3) % 4 := ⟨_, rfl⟩
      rw [← hp3] at d3 dw3 i3' i3 hx3 HV
      clear hp3 l3
      generalize j / 4 * 4 = c4 at *
      generalize (j + 1) % 4 = m1 at *
      generalize j + 1 = j1 at *
      generalize (j + 2) % 4 = m2 at *
      generalize j + 2 = j2 at *
      generalize (j + 3) % 4 = m3 at *
      generalize j + 3 = j3 at *
      clear hj hlt HFL HG HS HE
      have C0 := Aside0.mk (show Gives 72 #[.int .u8 2, .int .u8 (I8 (b.getD j 0#8))] _ from rmul_c 2#8 (b.getD j 0#8))
      have C1 := Aside0.mk (show Gives 72 #[.int .u8 3, .int .u8 (I8 (b.getD p1 0#8))] _ from rmul_c 3#8 (b.getD p1 0#8))
      generalize GfMath.mul 2#8 (b.getD j 0#8) = y0 at *
      generalize GfMath.mul 3#8 (b.getD p1 0#8) = y1 at *
      generalize b.getD j 0#8 = x0 at *
      generalize b.getD p1 0#8 = x1 at *
      generalize b.getD p2 0#8 = x2 at *
      generalize b.getD p3 0#8 = x3 at *
      have z1 := xor8 y0 y1
      have z2 := xor8 (y0 ^^^ y1) x2
      have z3 := xor8 (y0 ^^^ y1 ^^^ x2) x3
      generalize fillTo r z16 j = s at *
      go_wp2
      refine start_ (n := 32) (S := fun w' => w'.cell? ⟨w.heap.size, j, none⟩ = some (.int .u8 (I8 x0)) ∧ w'.cell? ⟨w.heap.size, p1, none⟩ = some (.int .u8 (I8 x1)) ∧ w'.cell? ⟨w.heap.size, p2, none⟩ = some (.int .u8 (I8 x2)) ∧ w'.cell? ⟨w.heap.size, p3, none⟩ = some (.int .u8 (I8 x3))) (ds := [31]) #[false, false, false, false, false, false, false, false, false, false, false, false, false, false, false, false, false, false, false, false, false, false, false, false, false, false, false, false, false, false, false, false] (by kernel_rfl) rfl rfl ⟨hx0, hx1, hx2, hx3⟩ (fun hHeld => ?_)
      refine pure_ (i := 0) (N := some 14) (v := ?_) (a' := ?_) #[true, false, false, false, false, false, false, false, false, false, false, false, false, false, false, false, false, false, false, false, false, false, false, false, false, false, false, false, false, false, false, false] rfl rfl (by kernel_rfl) (fun _ _ _ h => h) (Or.inl ⟨by rfl, ?_⟩) ?_ ?_
      rotate_left
      · intro w'
        go_simp
        with_reducible rfl
      rotate_left
      · simp only [Act.put, List.setIfInBounds_toArray, List.set_cons_zero, List.set_cons_succ, i64_w, i32_w]
        rfl
      refine pure_ (i := 1) (N := some 15) (v := ?_) (a' := ?_) #[true, true, false, false, false, false, false, false, false, false, false, false, false, false, false, false, false, false, false, false, false, false, false, false, false, false, false, false, false, false, false, false] rfl rfl (by kernel_rfl) (fun _ _ _ h => h) (Or.inl ⟨by rfl, ?_⟩) ?_ ?_
      rotate_left
      · intro w'
        go_simp
        with_reducible rfl
      rotate_left
      · simp only [Act.put, List.setIfInBounds_toArray, List.set_cons_zero, List.set_cons_succ, i64_w, i32_w]
        rfl
      refine pure_ (i := 2) (N := some 16) (v := ?_) (a' := ?_) #[true, true, true, false, false, false, false, false, false, false, false, false, false, false, false, false, false, false, false, false, false, false, false, false, false, false, false, false, false, false, false, false] rfl rfl (by kernel_rfl) (fun _ _ _ h => h) (Or.inl ⟨by rfl, ?_⟩) ?_ ?_
      rotate_left
      · intro w'
        go_simp
        with_reducible rfl
      rotate_left
      · simp only [Act.put, List.setIfInBounds_toArray, List.set_cons_zero, List.set_cons_succ, i64_w, i32_w]
        rfl
      refine pure_ (i := 5) (N := some 19) (v := ?_) (a' := ?_) #[true, true, true, false, false, true, false, false, false, false, false, false, false, false, false, false, false, false, false, false, false, false, false, false, false, false, false, false, false, false, false, false] rfl rfl (by kernel_rfl) (fun _ _ _ h => h) (Or.inl ⟨by rfl, ?_⟩) ?_ ?_
      rotate_left
      · intro w'
        go_simp
        with_reducible rfl
      rotate_left
      · simp only [Act.put, List.setIfInBounds_toArray, List.set_cons_zero, List.set_cons_succ, i64_w, i32_w]
        rfl
      refine pure_ (i := 6) (N := some 20) (v := ?_) (a' := ?_) #[true, true, true, false, false, true, true, false, false, false, false, false, false, false, false, false, false, false, false, false, false, false, false, false, false, false, false, false, false, false, false, false] rfl rfl (by kernel_rfl) (fun _ _ _ h => h) (Or.inl ⟨by rfl, ?_⟩) ?_ ?_
      rotate_left
      · intro w'
        go_simp
        with_reducible rfl
      rotate_left
      · simp only [Act.put, List.setIfInBounds_toArray, List.set_cons_zero, List.set_cons_succ, i64_w, i32_w]
        rfl
      refine pure_ (i := 7) (N := some 21) (v := ?_) (a' := ?_) #[true, true, true, false, false, true, true, true, false, false, false, false, false, false, false, false, false, false, false, false, false, false, false, false, false, false, false, false, false, false, false, false] rfl rfl (by kernel_rfl) (fun _ _ _ h => h) (Or.inl ⟨by rfl, ?_⟩) ?_ ?_
      rotate_left
      · intro w'
        go_simp
        with_reducible rfl
      rotate_left
      · simp only [Act.put, List.setIfInBounds_toArray, List.set_cons_zero, List.set_cons_succ, i64_w, i32_w]
        rfl
      refine pure_ (i := 8) (N := some 22) (v := ?_) (a' := ?_) #[true, true, true, false, false, true, true, true, true, false, false, false, false, false, false, false, false, false, false, false, false, false, false, false, false, false, false, false, false, false, false, false] rfl rfl (by kernel_rfl) (fun _ _ _ h => h) (Or.inl ⟨by rfl, ?_⟩) ?_ ?_
      rotate_left
      · intro w'
        go_simp
        with_reducible rfl
      rotate_left
      · simp only [Act.put, List.setIfInBounds_toArray, List.set_cons_zero, List.set_cons_succ, i64_w, i32_w]
        rfl
      refine pure_ (i := 9) (N := some 23) (v := ?_) (a' := ?_) #[true, true, true, false, false, true, true, true, true, true, false, false, false, false, false, false, false, false, false, false, false, false, false, false, false, false, false, false, false, false, false, false] rfl rfl (by kernel_rfl) (fun _ _ _ h => h) (Or.inl ⟨by rfl, ?_⟩) ?_ ?_
      rotate_left
      · intro w'
        go_simp
        with_reducible rfl
      rotate_left
      · simp only [Act.put, List.setIfInBounds_toArray, List.set_cons_zero, List.set_cons_succ, i64_w, i32_w]
        rfl
      refine pure_ (i := 10) (N := some 24) (v := ?_) (a' := ?_) #[true, true, true, false, false, true, true, true, true, true, true, false, false, false, false, false, false, false, false, false, false, false, false, false, false, false, false, false, false, false, false, false] rfl rfl (by kernel_rfl) (fun _ _ _ h => h) (Or.inl ⟨by rfl, ?_⟩) ?_ ?_
      rotate_left
      · intro w'
        go_simp
        with_reducible rfl
      rotate_left
      · simp only [Act.put, List.setIfInBounds_toArray, List.set_cons_zero, List.set_cons_succ, i64_w, i32_w]
        rfl
      refine pure_ (i := 14) (N := some 28) (v := ?_) (a' := ?_) #[true, true, true, false, false, true, true, true, true, true, true, false, false, false, true, false, false, false, false, false, false, false, false, false, false, false, false, false, false, false, false, false] rfl rfl (by kernel_rfl) (fun _ _ _ h => h) (Or.inl ⟨by rfl, ?_⟩) ?_ ?_
      rotate_left
      · intro w'
        go_simp
        with_reducible rfl
      rotate_left
      · simp only [Act.put, List.setIfInBounds_toArray, List.set_cons_zero, List.set_cons_succ, i64_w, i32_w]
        rfl
      refine pure_ (i := 15) (N := some 29) (v := ?_) (a' := ?_) #[true, true, true, false, false, true, true, true, true, true, true, false, false, false, true, true, false, false, false, false, false, false, false, false, false, false, false, false, false, false, false, false] rfl rfl (by kernel_rfl) (fun _ _ _ h => h) (Or.inl ⟨by rfl, ?_⟩) ?_ ?_
      rotate_left
      · intro w'
        go_simp
        with_reducible rfl
      rotate_left
      · simp only [Act.put, List.setIfInBounds_toArray, List.set_cons_zero, List.set_cons_succ, i64_w, i32_w]
        rfl
      refine pure_ (i := 16) (N := some 30) (v := ?_) (a' := ?_) #[true, true, true, false, false, true, true, true, true, true, true, false, false, false, true, true, true, false, false, false, false, false, false, false, false, false, false, false, false, false, false, false] rfl rfl (by kernel_rfl) (fun _ _ _ h => h) (Or.inl ⟨by rfl, ?_⟩) ?_ ?_
      rotate_left
      · intro w'
        go_simp
        with_reducible rfl
      rotate_left
      · simp only [Act.put, List.setIfInBounds_toArray, List.set_cons_zero, List.set_cons_succ, i64_w, i32_w]
        rfl
      refine pure_ (i := 17) (N := some 31) (v := ?_) (a' := ?_) #[true, true, true, false, false, true, true, true, true, true, true, false, false, false, true, true, true, true, false, false, false, false, false, false, false, false, false, false, false, false, false, false] rfl rfl (by kernel_rfl) (fun _ _ _ h => h) (Or.inl ⟨by rfl, ?_⟩) ?_ ?_
      rotate_left
      · intro w'
        go_simp
        with_reducible rfl
      rotate_left
      · simp only [Act.put, List.setIfInBounds_toArray, List.set_cons_zero, List.set_cons_succ, i64_w, i32_w]
        rfl
      refine pure_ (i := 18) (N := some 32) (v := ?_) (a' := ?_) #[true, true, true, false, false, true, true, true, true, true, true, false, false, false, true, true, true, true, true, false, false, false, false, false, false, false, false, false, false, false, false, false] rfl rfl (by kernel_rfl) (fun _ _ _ h => h) (Or.inl ⟨by rfl, ?_⟩) ?_ ?_
      rotate_left
      · intro w'
        go_simp
        with_reducible rfl
      rotate_left
      · simp only [Act.put, List.setIfInBounds_toArray, List.set_cons_zero, List.set_cons_succ, i64_w, i32_w]
        rfl
      refine pure_ (i := 19) (N := some 33) (v := ?_) (a' := ?_) #[true, true, true, false, false, true, true, true, true, true, true, false, false, false, true, true, true, true, true, true, false, false, false, false, false, false, false, false, false, false, false, false] rfl rfl (by kernel_rfl) (fun _ _ _ h => h) (Or.inl ⟨by rfl, ?_⟩) ?_ ?_
      rotate_left
      · intro w'
        go_simp
        with_reducible rfl
      rotate_left
      · simp only [Act.put, List.setIfInBounds_toArray, List.set_cons_zero, List.set_cons_succ, i64_w, i32_w]
        rfl
      refine pure_ (i := 22) (N := some 36) (v := ?_) (a' := ?_) #[true, true, true, false, false, true, true, true, true, true, true, false, false, false, true, true, true, true, true, true, false, false, true, false, false, false, false, false, false, false, false, false] rfl rfl (by kernel_rfl) (fun _ _ _ h => h) (Or.inl ⟨by rfl, ?_⟩) ?_ ?_
      rotate_left
      · intro w'
        go_simp
        with_reducible rfl
      rotate_left
      · simp only [Act.put, List.setIfInBounds_toArray, List.set_cons_zero, List.set_cons_succ, i64_w, i32_w]
        rfl
      refine pure_ (i := 23) (N := some 37) (v := ?_) (a' := ?_) #[true, true, true, false, false, true, true, true, true, true, true, false, false, false, true, true, true, true, true, true, false, false, true, true, false, false, false, false, false, false, false, false] rfl rfl (by kernel_rfl) (fun _ _ _ h => h) (Or.inl ⟨by rfl, ?_⟩) ?_ ?_
      rotate_left
      · intro w'
        go_simp
        with_reducible rfl
      rotate_left
      · simp only [Act.put, List.setIfInBounds_toArray, List.set_cons_zero, List.set_cons_succ, i64_w, i32_w]
        rfl
      refine pure_ (i := 24) (N := some 38) (v := ?_) (a' := ?_) #[true, true, true, false, false, true, true, true, true, true, true, false, false, false, true, true, true, true, true, true, false, false, true, true, true, false, false, false, false, false, false, false] rfl rfl (by kernel_rfl) (fun _ _ _ h => h) (Or.inl ⟨by rfl, ?_⟩) ?_ ?_
      rotate_left
      · intro w'
        go_simp
        with_reducible rfl
      rotate_left
      · simp only [Act.put, List.setIfInBounds_toArray, List.set_cons_zero, List.set_cons_succ, i64_w, i32_w]
        rfl
      refine pure_ (i := 25) (N := some 39) (v := ?_) (a' := ?_) #[true, true, true, false, false, true, true, true, true, true, true, false, false, false, true, true, true, true, true, true, false, false, true, true, true, true, false, false, false, false, false, false] rfl rfl (by kernel_rfl) (fun _ _ _ h => h) (Or.inl ⟨by rfl, ?_⟩) ?_ ?_
      rotate_left
      · intro w'
        go_simp
        with_reducible rfl
      rotate_left
      · simp only [Act.put, List.setIfInBounds_toArray, List.set_cons_zero, List.set_cons_succ, i64_w, i32_w]
        rfl
      refine pure_ (i := 26) (N := some 40) (v := ?_) (a' := ?_) #[true, true, true, false, false, true, true, true, true, true, true, false, false, false, true, true, true, true, true, true, false, false, true, true, true, true, true, false, false, false, false, false] rfl rfl (by kernel_rfl) (fun _ _ _ h => h) (Or.inl ⟨by rfl, ?_⟩) ?_ ?_
      rotate_left
      · intro w'
        go_simp
        with_reducible rfl
      rotate_left
      · simp only [Act.put, List.setIfInBounds_toArray, List.set_cons_zero, List.set_cons_succ, i64_w, i32_w]
        rfl
      refine pure_ (i := 27) (N := some 41) (v := ?_) (a' := ?_) #[true, true, true, false, false, true, true, true, true, true, true, false, false, false, true, true, true, true, true, true, false, false, true, true, true, true, true, true, false, false, false, false] rfl rfl (by kernel_rfl) (fun _ _ _ h => h) (Or.inl ⟨by rfl, ?_⟩) ?_ ?_
      rotate_left
      · intro w'
        go_simp
        with_reducible rfl
      rotate_left
      · simp only [Act.put, List.setIfInBounds_toArray, List.set_cons_zero, List.set_cons_succ, i64_w, i32_w]
        rfl
      refine take_ (i := 3) (N := some 17) (v := ?_) (a' := ?_) #[true, true, true, true, false, true, true, true, true, true, true, false, false, false, true, true, true, true, true, true, false, false, true, true, true, true, true, true, false, false, false, false] rfl rfl (by kernel_rfl) (fun _ _ _ h => h) (Or.inl ⟨by rfl, ?_⟩) hHeld ?_ ?_
      rotate_left
      · rintro w' ⟨s0, s1, s2, s3⟩
        go_simp
        with_reducible rfl
      rotate_left
      · simp only [Act.put, List.setIfInBounds_toArray, List.set_cons_zero, List.set_cons_succ, i64_w, i32_w]
        rfl
      refine take_ (i := 11) (N := some 25) (v := ?_) (a' := ?_) #[true, true, true, true, false, true, true, true, true, true, true, true, false, false, true, true, true, true, true, true, false, false, true, true, true, true, true, true, false, false, false, false] rfl rfl (by kernel_rfl) (fun _ _ _ h => h) (Or.inl ⟨by rfl, ?_⟩) hHeld ?_ ?_
      rotate_left
      · rintro w' ⟨s0, s1, s2, s3⟩
        go_simp
        with_reducible rfl
      rotate_left
      · simp only [Act.put, List.setIfInBounds_toArray, List.set_cons_zero, List.set_cons_succ, i64_w, i32_w]
        rfl
      refine take_ (i := 20) (N := some 34) (v := ?_) (a' := ?_) #[true, true, true, true, false, true, true, true, true, true, true, true, false, false, true, true, true, true, true, true, true, false, true, true, true, true, true, true, false, false, false, false] rfl rfl (by kernel_rfl) (fun _ _ _ h => h) (Or.inl ⟨by rfl, ?_⟩) hHeld ?_ ?_
      rotate_left
      · rintro w' ⟨s0, s1, s2, s3⟩
        go_simp
        with_reducible rfl
      rotate_left
      · simp only [Act.put, List.setIfInBounds_toArray, List.set_cons_zero, List.set_cons_succ, i64_w, i32_w]
        rfl
      refine take_ (i := 28) (N := some 42) (v := ?_) (a' := ?_) #[true, true, true, true, false, true, true, true, true, true, true, true, false, false, true, true, true, true, true, true, true, false, true, true, true, true, true, true, true, false, false, false] rfl rfl (by kernel_rfl) (fun _ _ _ h => h) (Or.inl ⟨by rfl, ?_⟩) hHeld ?_ ?_
      rotate_left
      · rintro w' ⟨s0, s1, s2, s3⟩
        go_simp
        with_reducible rfl
      rotate_left
      · simp only [Act.put, List.setIfInBounds_toArray, List.set_cons_zero, List.set_cons_succ, i64_w, i32_w]
        rfl
      refine one_ (i := 4) (N := some 18) #[true, true, true, true, true, true, true, true, true, true, true, true, false, false, true, true, true, true, true, true, true, false, true, true, true, true, true, true, true, false, false, false] rfl rfl (by kernel_rfl) (by decide) (fun K hK => ?_)
      refine goes_ Try.func72 (by kernel_rfl) rfl #[.int .u8 2, .int .u8 (I8 x0)] (by rfl) rfl rfl (by simp only [List.map_toArray, List.map_cons, List.map_nil]; rfl) ?_
      with_reducible refine (C0.out.q _).mono ?_
      rintro e w5 ⟨rfl, ⟨⟨n5, rfl⟩⟩⟩
      refine ⟨_, rfl, ?_⟩
      refine hK.out _ _ ⟨hHeld.1, hHeld.2.1, hHeld.2.2.1, hHeld.2.2.2⟩ (fun hHeld => ?_)
      clear hK K
      refine norm_ (a' := ?_) ?_ ?_
      rotate_left
      · show Act.put _ (some 18) _ = _
        simp only [Act.put, List.setIfInBounds_toArray, List.set_cons_zero, List.set_cons_succ, i64_w, i32_w]
        rfl
      refine one_ (i := 12) (N := some 26) #[true, true, true, true, true, true, true, true, true, true, true, true, true, false, true, true, true, true, true, true, true, false, true, true, true, true, true, true, true, false, false, false] rfl rfl (by kernel_rfl) (by decide) (fun K hK => ?_)
      refine goes_ Try.func72 (by kernel_rfl) rfl #[.int .u8 3, .int .u8 (I8 x1)] (by rfl) rfl rfl (by simp only [List.map_toArray, List.map_cons, List.map_nil]; rfl) ?_
      with_reducible refine (C1.out.q _).mono ?_
      rintro e w6 ⟨rfl, ⟨⟨n6, rfl⟩⟩⟩
      refine ⟨_, rfl, ?_⟩
      refine hK.out _ _ ⟨hHeld.1, hHeld.2.1, hHeld.2.2.1, hHeld.2.2.2⟩ (fun hHeld => ?_)
      clear hK K
      refine norm_ (a' := ?_) ?_ ?_
      rotate_left
      · show Act.put _ (some 26) _ = _
        simp only [Act.put, List.setIfInBounds_toArray, List.set_cons_zero, List.set_cons_succ, i64_w, i32_w]
        rfl
      refine pure_ (i := 13) (N := some 27) (v := ?_) (a' := ?_) #[true, true, true, true, true, true, true, true, true, true, true, true, true, true, true, true, true, true, true, true, true, false, true, true, true, true, true, true, true, false, false, false] rfl rfl (by kernel_rfl) (fun _ _ _ h => h) (Or.inl ⟨by rfl, ?_⟩) ?_ ?_
      rotate_left
      · intro w'
        go_simp
        with_reducible rfl
      rotate_left
      · simp only [Act.put, List.setIfInBounds_toArray, List.set_cons_zero, List.set_cons_succ, i64_w, i32_w]
        rfl
      refine pure_ (i := 21) (N := some 35) (v := ?_) (a' := ?_) #[true, true, true, true, true, true, true, true, true, true, true, true, true, true, true, true, true, true, true, true, true, true, true, true, true, true, true, true, true, false, false, false] rfl rfl (by kernel_rfl) (fun _ _ _ h => h) (Or.inl ⟨by rfl, ?_⟩) ?_ ?_
      rotate_left
      · intro w'
        go_simp
        with_reducible rfl
      rotate_left
      · simp only [Act.put, List.setIfInBounds_toArray, List.set_cons_zero, List.set_cons_succ, i64_w, i32_w]
        rfl
      refine pure_ (i := 29) (N := some 43) (v := ?_) (a' := ?_) #[true, true, true, true, true, true, true, true, true, true, true, true, true, true, true, true, true, true, true, true, true, true, true, true, true, true, true, true, true, true, false, false] rfl rfl (by kernel_rfl) (fun _ _ _ h => h) (Or.inl ⟨by rfl, ?_⟩) ?_ ?_
      rotate_left
      · intro w'
        go_simp
        with_reducible rfl
      rotate_left
      · simp only [Act.put, List.setIfInBounds_toArray, List.set_cons_zero, List.set_cons_succ, i64_w, i32_w]
        rfl
      refine pure_ (i := 30) (N := some 44) (v := ?_) (a' := ?_) #[true, true, true, true, true, true, true, true, true, true, true, true, true, true, true, true, true, true, true, true, true, true, true, true, true, true, true, true, true, true, true, false] rfl rfl (by kernel_rfl) (fun _ _ _ h => h) (Or.inl ⟨by rfl, ?_⟩) ?_ ?_
      rotate_left
      · intro w'
        go_simp
        with_reducible rfl
      rotate_left
      · simp only [Act.put, List.setIfInBounds_toArray, List.set_cons_zero, List.set_cons_succ, i64_w, i32_w]
        rfl
      refine last_ (i := 31) (N := none) #[true, true, true, true, true, true, true, true, true, true, true, true, true, true, true, true, true, true, true, true, true, true, true, true, true, true, true, true, true, true, true, true] rfl rfl (by kernel_rfl) (by decide) (fun K hK => ?_)
      refine skip_ (w1 := ?_) (by rfl) rfl ?_ ?_
      rotate_left
      · go_simp
        rfl
      refine hK.out _ _ ?_
      clear hK K
      refine done_ (by kernel_rfl) ?_
      go_wp2
      go_roundg k1
      case measure => omega
      case rel => exact ⟨nx, HJ.out, by first | rw [HN.out.2.2] | rw [HN.out.1] | rw [HN.out.2.1], ⟨Mem.other (Mem.drewN M1.out _) (by omega) _ _⟩, ⟨Mem.other (Mem.drewN M2.out _) (by omega) _ _⟩, ⟨by rw [← HV.out]; exact Mem.set (Mem.drewN M3.out _) _ _⟩, ⟨below_set (pw_below_drewN HB.out _) (by omega)⟩⟩
end Go.Proofs.Ytpdikfmdnlhllaa.Aes
namespace Go.Proofs.Ytpdikfmdnlhllaa.Aes
open Go.RowKit Go.Proofs.Ytpdikfmdnlhllaa.PNib Go.Proofs.YtpdikfmdnlhllaaW.PrintWords Go.Proofs.YtpdikfmdnlhllaaW.PrintLast Go.Proofs.YtpdikfmdnlhllaaW.PrintMore Byte Sl Arr Mem Gives ArrEq Mat AesMath AesMov AesLin
set_option linter.unusedVariables false
set_option linter.unusedSimpArgs false
def sumC (b : List B) (c : Nat) : B := b.getD c 0#8 ^^^ b.getD (c + 1) 0#8 ^^^ b.getD (c + 2) 0#8 ^^^ b.getD (c + 3) 0#8
theorem colsB_sum (b : List B) (q r : Nat) (hq : q < 4) (hr : r < 4) : (colsB b).getD (4 * q + r) 0#8 = b.getD (4 * q + r) 0#8 ^^^ (sumC b (4 * q) ^^^ GfMath.T (b.getD (4 * q + r) 0#8 ^^^ b.getD (4 * q + (r + 1) % 4) 0#8)) := by
  rw [colsB_get _ _ (by omega), at4_zero]
  have e : ∀ k, at4 b (4 * q + r) k = b.getD (4 * q + (r + k) % 4) 0#8 := fun k => by unfold at4; congr 1 <;> omega
  rw [e, e, e]
  unfold sumC colE
  rcases (show r = 0 ∨ r = 1 ∨ r = 2 ∨ r = 3 by omega) with rfl | rfl | rfl | rfl
  all_goals
    simp only [Nat.zero_add, Nat.add_zero, show (1 + 1) % 4 = 2 from rfl, show (1 + 2) % 4 = 3 from rfl, show (1 + 3) % 4 = 0 from rfl, show (2 + 1) % 4 = 3 from rfl, show (2 + 2) % 4 = 0 from rfl, show (2 + 3) % 4 = 1 from rfl, show (3 + 1) % 4 = 0 from rfl, show (3 + 2) % 4 = 1 from rfl, show (3 + 3) % 4 = 2 from rfl, show 1 % 4 = 1 from rfl, show 2 % 4 = 2 from rfl, show 3 % 4 = 3 from rfl]
    try (generalize GfMath.T _ = t; simp only [BitVec.xor_assoc, BitVec.xor_comm, xor_lcomm])
theorem iy (q : Nat) (h : q < 4) (k : Nat) (K : Int) (hK : K = (k : Int)) (hk : k ≤ 3) : IntKind.i64.wrap (((4 * q : Nat) : Int) + K) = ((4 * q + k : Nat) : Int) ∧ wrap64 (((4 * q : Nat) : Int) + K) = ((4 * q + k : Nat) : Int) ∧ (0 : Int) ≤ ((4 * q + k : Nat) : Int) ∧ ((4 * q + k : Nat) : Int) < 16 ∧ 4 * q + k < 16 := by
  refine ⟨?_, ?_, ?_, ?_, ?_⟩
  · rw [IntKind.wrap_i64]; omega
  · unfold wrap64; omega
  · omega
  · omega
  · omega
theorem iw (c m : Nat) (h : c + m < 16) : IntKind.i64.wrap ((c : Int) + (m : Int)) = ((c + m : Nat) : Int) ∧ wrap64 ((c : Int) + (m : Int)) = ((c + m : Nat) : Int) ∧ (0 : Int) ≤ ((c + m : Nat) : Int) ∧ ((c + m : Nat) : Int) < 16 := by
  refine ⟨?_, ?_, ?_, ?_⟩
  · rw [IntKind.wrap_i64]; omega
  · unfold wrap64; omega
  · omega
  · omega
theorem iz (r : Nat) (h : r < 4) : IntKind.i64.wrap ((r : Int) + 1) = ((r + 1 : Nat) : Int) ∧ wrap64 ((r : Int) + 1) = ((r + 1 : Nat) : Int) ∧ Int.tmod ((r + 1 : Nat) : Int) 4 = (((r + 1) % 4 : Nat) : Int) ∧ ((r + 1 : Nat) : Int) % 4 = (((r + 1) % 4 : Nat) : Int) ∧ (r + 1) % 4 < 4 := by
  refine ⟨?_, ?_, ?_, ?_, ?_⟩
  · rw [IntKind.wrap_i64]; omega
  · unfold wrap64; omega
  · rw [Int.tmod_eq_emod_of_nonneg (by omega)]; omega
  · omega
  · omega
set_option maxHeartbeats 4000000 in
set_option maxRecDepth 100000 in
theorem cols_c (b : List B) (hb : b.length = 16) (w : World) : Calls Try.prog 24 #[.agg (cellsOf .u8 (ib b))] w fun e w' => e = .returned (.agg (cellsOf .u8 (ib (colsB b)))) ∧ Below w.heap.size w w' := by
  have HL := Aside0.mk (show (ib b).length = 16 by rw [ib_length, hb])
  have HR := Aside0.mk (show (ib (colsB b)).length = 16 by rw [ib_length, colsB_length])
  have HG := Aside0.mk (fun j (h : j < 16) => show (ib b).getD j 0 = I8 (b.getD j 0#8) from ib_getD b j)
  have HS := Aside0.mk (fun (q r : Nat) (hq : q < 4) (hr : r < 4) => fillTo_set (ib (colsB b)) (ib b) (by rw [HR.out, HL.out]) (4 * q + r) (by rw [HL.out]; omega) (I8 (b.getD (4 * q + r) 0#8 ^^^ (sumC b (4 * q) ^^^ GfMath.T (b.getD (4 * q + r) 0#8 ^^^ b.getD (4 * q + (r + 1) % 4) 0#8)))) (by rw [ib_getD, colsB_sum b q r hq hr]))
  have HSU := Aside0.mk (fun c => show sumC b c = b.getD c 0#8 ^^^ b.getD (c + 1) 0#8 ^^^ b.getD (c + 2) 0#8 ^^^ b.getD (c + 3) 0#8 from rfl)
  generalize sumC b = su at *
  generalize ib (colsB b) = rr at *
  generalize ib b = l at *
  have HE := Aside0.mk (show fillTo rr l 16 = rr by rw [← HL.out]; exact fillTo_end rr l (by rw [HR.out, HL.out]))
  have HFL := Aside0.mk (fun j => show (fillTo rr l j).length = 16 by rw [fillTo_length rr l (by rw [HR.out, HL.out]), HL.out])
  have HFG := Aside0.mk (fun j (h : j < 16) => show (fillTo rr l j).getD j 0 = I8 (b.getD j 0#8) by rw [fillTo_ge rr l (by rw [HR.out, HL.out]) j j (by rw [HL.out]; omega) (Nat.le_refl _)]; exact HG.out j h)
  have M0 := Aside0.mk (Mem.alloc (Mem.new .u8 w 31 l) (.cells (cellsOf .u8 z16) 31))
  have M1 := Aside0.mk (Mem.alloc (Mem.alloc (Mem.new .u8 w 31 l) (.cells (cellsOf .u8 z16) 31)) (.cells (cellsOf .u8 z16) 31))
  have M2 := Aside0.mk (Mem.alloc (Mem.new2 .u8 w (.cells (cellsOf .u8 l) 31) 31 z16) (.cells (cellsOf .u8 z16) 31))
  have M3 := Aside0.mk (Mem.new3 .u8 w (.cells (cellsOf .u8 l) 31) (.cells (cellsOf .u8 z16) 31) 31 z16)
  have HB := Aside0.mk (below_alloc (below_alloc (below_alloc (Below.refl w.heap.size w) (.cells (cellsOf .u8 l) 31)) (.cells (cellsOf .u8 z16) 31)) (.cells (cellsOf .u8 z16) 31))
  obtain ⟨cl, hcl⟩ : ∃ cs, cs = cellsOf .u8 l := ⟨_, rfl⟩
  have HCL := Aside0.mk hcl
  rw [← hcl] at M0 M1 M2 M3 HB ⊢
  clear hcl hb
  go_enter Try.func24, Try.ntmps24
  go_wp2_with (first
    | ((with_reducible refine gate_dst (N := 7) rfl ?_); refine Mem.load (l := l) M0.out rfl 31 (.tmp 1) rfl rfl Try.underlying31 (by rw [HL.out]; exact info16) ?_)
    | ((with_reducible refine gate_store (t := 31) (p := 3) rfl ?_); refine Mem.store (l' := l) M3.out rfl 31 (.tmp 3) (.tmp 7) rfl rfl rfl (by first | exact info16 | (rw [HL.out]; exact info16)) (by first | rfl | (rw [HL.out]; rfl) | rw [z16_length, HL.out]) ?_))
  have HB := Aside0.mk (below_setRow HB.out (g := w.heap.size + 2) (by omega) (cellsOf .u8 l))
  have M1 := Aside0.mk (Mem.row M1.out (show w.heap.size + 2 ≠ w.heap.size by omega) (cellsOf .u8 l))
  have M2 := Aside0.mk (Mem.row M2.out (show w.heap.size + 2 ≠ w.heap.size + 1 by omega) (cellsOf .u8 l))
  have M3 := Aside0.mk (show Mem .u8 _ (w.heap.size + 2) 31 (fillTo rr l (4 * 0)) by rw [Nat.mul_zero, fillTo_zero]; exact Mem.put M3.out l)
  go_loopg [4] 4 (fun kq i w' => ∃ q : Nat, q + kq = 4 ∧ i = .int .i64 ((4 * q : Nat) : Int) ∧ Aside0 (Mem .u8 w' w.heap.size 31 l) ∧ Aside0 (Mem .u8 w' (w.heap.size + 1) 31 z16) ∧ Aside0 (Mem .u8 w' (w.heap.size + 2) 31 (fillTo rr l (4 * q))) ∧ Aside0 (Below w.heap.size w w'))
  case atStart => exact ⟨0, by omega, by simp, M1, M2, M3, HB⟩
  case round =>
    clear M1 M2 M3 HB
    obtain ⟨q, hq, rfl, M1, M2, M3, HB⟩ := hrel
    cases gk with
    | zero =>
      obtain rfl : q = 4 := by omega
      have M3 := Aside0.mk (show Mem .u8 _ (w.heap.size + 2) 31 rr by rw [← HE.out]; exact M3.out)
      clear HS HFL HFG HG HSU
      go_wp2_with (first
        | ((with_reducible refine gate_dst (N := 57) rfl ?_); refine Mem.load M3.out rfl 31 (.tmp 3) rfl rfl Try.underlying31 (by rw [HR.out]; exact info16) ?_)
        | ((with_reducible refine gate_store (t := 31) (p := 2) rfl ?_); refine Mem.store (l' := rr) M2.out rfl 31 (.tmp 2) (.tmp 57) rfl rfl rfl (by first | exact info16 | (rw [HR.out]; exact info16)) (by first | rfl | (rw [HR.out]; rfl) | rw [z16_length, HR.out]) ?_))
      refine bodyPost_ret (v := .agg (cellsOf .u8 rr)) (results_cell_row rfl _ _ _ _ _ _ _ rfl (Mem.put M2.out rr) Try.underlying31 rfl (by rw [cellsOf_size, HR.out]; exact info16)) rfl ⟨rfl, below_setRow HB.out (by omega) _⟩
    | succ k1 =>
      have hlt : q < 4 := by omega
      have HQ := Aside0.mk hlt
      have HJ := Aside0.mk hq
      clear hq
      have hsu := HSU.out (4 * q)
      have hx0 := M1.out.cell (4 * q) (by rw [HL.out]; omega)
      rw [HG.out _ (by omega)] at hx0
      have hc16 : ((4 * q : Nat) : Int) < 16 := by omega
      have hc0 : (0 : Int) ≤ ((4 * q : Nat) : Int) := by omega
      obtain ⟨a1, aw1, i1', i1, l1⟩ := iy q hlt 1 1 rfl (by decide)
      have hx1 := M1.out.cell (4 * q + 1) (by rw [HL.out]; exact l1)
      rw [HG.out _ l1] at hx1
      obtain ⟨p1, hp1⟩ : ∃ z : Nat, z = 4 * q + 1 := ⟨_, rfl⟩
      rw [← hp1] at a1 aw1 i1' i1 hx1 hsu
      clear hp1 l1
      obtain ⟨a2, aw2, i2', i2, l2⟩ := iy q hlt 2 2 rfl (by decide)
      have hx2 := M1.out.cell (4 * q + 2) (by rw [HL.out]; exact l2)
      rw [HG.out _ l2] at hx2
      obtain ⟨p2, hp2⟩ : ∃ z : Nat, z = 4 * q + 2 := ⟨_, rfl⟩
      rw [← hp2] at a2 aw2 i2' i2 hx2 hsu
      clear hp2 l2
      obtain ⟨a3, aw3, i3', i3, l3⟩ := iy q hlt 3 3 rfl (by decide)
      have hx3 := M1.out.cell (4 * q + 3) (by rw [HL.out]; exact l3)
      rw [HG.out _ l3] at hx3
      obtain ⟨p3, hp3⟩ : ∃ z : Nat, z = 4 * q + 3 := ⟨_, rfl⟩
      rw [← hp3] at a3 aw3 i3' i3 hx3 hsu
      clear hp3 l3
      obtain ⟨c, hc⟩ : ∃ z : Nat, z = 4 * q := ⟨_, rfl⟩
      rw [← hc] at a1 aw1 a2 aw2 a3 aw3 hx0 hc16 hc0 M3 hsu ⊢
      have HCQ := Aside0.mk hc
      clear hc hlt
      obtain ⟨sv, hsv⟩ : ∃ z, z = su c := ⟨_, rfl⟩
      rw [← hsv] at hsu
      have HSV := Aside0.mk hsv
      clear hsv
      have z1 := xor8 (b.getD c 0#8) (b.getD p1 0#8)
      have z2 := xor8 (b.getD c 0#8 ^^^ b.getD p1 0#8) (b.getD p2 0#8)
      have z3 := xor8 (b.getD c 0#8 ^^^ b.getD p1 0#8 ^^^ b.getD p2 0#8) (b.getD p3 0#8)
      rw [← hsu] at z3
      clear hsu
      generalize b.getD c 0#8 = x0 at hx0 z1 z2 z3
      generalize b.getD p1 0#8 = x1 at hx1 z1 z2 z3
      generalize b.getD p2 0#8 = x2 at hx2 z1 z2 z3
      generalize b.getD p3 0#8 = x3 at hx3 z1 z2 z3
      go_wp2
      refine start_ (n := 19) (S := fun w' => w'.cell? ⟨w.heap.size, c, none⟩ = some (.int .u8 (I8 x0)) ∧ w'.cell? ⟨w.heap.size, p1, none⟩ = some (.int .u8 (I8 x1)) ∧ w'.cell? ⟨w.heap.size, p2, none⟩ = some (.int .u8 (I8 x2)) ∧ w'.cell? ⟨w.heap.size, p3, none⟩ = some (.int .u8 (I8 x3))) (ds := [18]) #[false, false, false, false, false, false, false, false, false, false, false, false, false, false, false, false, false, false, false] (by kernel_rfl) rfl rfl ⟨hx0, hx1, hx2, hx3⟩ (fun hHeld => ?_)
      refine pure_ (i := 0) (N := some 12) (v := ?_) (a' := ?_) #[true, false, false, false, false, false, false, false, false, false, false, false, false, false, false, false, false, false, false] rfl rfl (by kernel_rfl) (fun _ _ _ h => h) (Or.inl ⟨by rfl, ?_⟩) ?_ ?_
      rotate_left
      · intro w'
        go_simp
        with_reducible rfl
      rotate_left
      · simp only [Act.put, List.setIfInBounds_toArray, List.set_cons_zero, List.set_cons_succ, i64_w, i32_w]
        rfl
      refine pure_ (i := 1) (N := some 13) (v := ?_) (a' := ?_) #[true, true, false, false, false, false, false, false, false, false, false, false, false, false, false, false, false, false, false] rfl rfl (by kernel_rfl) (fun _ _ _ h => h) (Or.inl ⟨by rfl, ?_⟩) ?_ ?_
      rotate_left
      · intro w'
        go_simp
        with_reducible rfl
      rotate_left
      · simp only [Act.put, List.setIfInBounds_toArray, List.set_cons_zero, List.set_cons_succ, i64_w, i32_w]
        rfl
      refine pure_ (i := 3) (N := some 15) (v := ?_) (a' := ?_) #[true, true, false, true, false, false, false, false, false, false, false, false, false, false, false, false, false, false, false] rfl rfl (by kernel_rfl) (fun _ _ _ h => h) (Or.inl ⟨by rfl, ?_⟩) ?_ ?_
      rotate_left
      · intro w'
        go_simp
        with_reducible rfl
      rotate_left
      · simp only [Act.put, List.setIfInBounds_toArray, List.set_cons_zero, List.set_cons_succ, i64_w, i32_w]
        rfl
      refine pure_ (i := 4) (N := some 16) (v := ?_) (a' := ?_) #[true, true, false, true, true, false, false, false, false, false, false, false, false, false, false, false, false, false, false] rfl rfl (by kernel_rfl) (fun _ _ _ h => h) (Or.inl ⟨by rfl, ?_⟩) ?_ ?_
      rotate_left
      · intro w'
        go_simp
        with_reducible rfl
      rotate_left
      · simp only [Act.put, List.setIfInBounds_toArray, List.set_cons_zero, List.set_cons_succ, i64_w, i32_w]
        rfl
      refine pure_ (i := 5) (N := some 17) (v := ?_) (a' := ?_) #[true, true, false, true, true, true, false, false, false, false, false, false, false, false, false, false, false, false, false] rfl rfl (by kernel_rfl) (fun _ _ _ h => h) (Or.inl ⟨by rfl, ?_⟩) ?_ ?_
      rotate_left
      · intro w'
        go_simp
        with_reducible rfl
      rotate_left
      · simp only [Act.put, List.setIfInBounds_toArray, List.set_cons_zero, List.set_cons_succ, i64_w, i32_w]
        rfl
      refine pure_ (i := 8) (N := some 20) (v := ?_) (a' := ?_) #[true, true, false, true, true, true, false, false, true, false, false, false, false, false, false, false, false, false, false] rfl rfl (by kernel_rfl) (fun _ _ _ h => h) (Or.inl ⟨by rfl, ?_⟩) ?_ ?_
      rotate_left
      · intro w'
        go_simp
        with_reducible rfl
      rotate_left
      · simp only [Act.put, List.setIfInBounds_toArray, List.set_cons_zero, List.set_cons_succ, i64_w, i32_w]
        rfl
      refine pure_ (i := 9) (N := some 21) (v := ?_) (a' := ?_) #[true, true, false, true, true, true, false, false, true, true, false, false, false, false, false, false, false, false, false] rfl rfl (by kernel_rfl) (fun _ _ _ h => h) (Or.inl ⟨by rfl, ?_⟩) ?_ ?_
      rotate_left
      · intro w'
        go_simp
        with_reducible rfl
      rotate_left
      · simp only [Act.put, List.setIfInBounds_toArray, List.set_cons_zero, List.set_cons_succ, i64_w, i32_w]
        rfl
      refine pure_ (i := 10) (N := some 22) (v := ?_) (a' := ?_) #[true, true, false, true, true, true, false, false, true, true, true, false, false, false, false, false, false, false, false] rfl rfl (by kernel_rfl) (fun _ _ _ h => h) (Or.inl ⟨by rfl, ?_⟩) ?_ ?_
      rotate_left
      · intro w'
        go_simp
        with_reducible rfl
      rotate_left
      · simp only [Act.put, List.setIfInBounds_toArray, List.set_cons_zero, List.set_cons_succ, i64_w, i32_w]
        rfl
      refine pure_ (i := 13) (N := some 25) (v := ?_) (a' := ?_) #[true, true, false, true, true, true, false, false, true, true, true, false, false, true, false, false, false, false, false] rfl rfl (by kernel_rfl) (fun _ _ _ h => h) (Or.inl ⟨by rfl, ?_⟩) ?_ ?_
      rotate_left
      · intro w'
        go_simp
        with_reducible rfl
      rotate_left
      · simp only [Act.put, List.setIfInBounds_toArray, List.set_cons_zero, List.set_cons_succ, i64_w, i32_w]
        rfl
      refine pure_ (i := 14) (N := some 26) (v := ?_) (a' := ?_) #[true, true, false, true, true, true, false, false, true, true, true, false, false, true, true, false, false, false, false] rfl rfl (by kernel_rfl) (fun _ _ _ h => h) (Or.inl ⟨by rfl, ?_⟩) ?_ ?_
      rotate_left
      · intro w'
        go_simp
        with_reducible rfl
      rotate_left
      · simp only [Act.put, List.setIfInBounds_toArray, List.set_cons_zero, List.set_cons_succ, i64_w, i32_w]
        rfl
      refine pure_ (i := 15) (N := some 27) (v := ?_) (a' := ?_) #[true, true, false, true, true, true, false, false, true, true, true, false, false, true, true, true, false, false, false] rfl rfl (by kernel_rfl) (fun _ _ _ h => h) (Or.inl ⟨by rfl, ?_⟩) ?_ ?_
      rotate_left
      · intro w'
        go_simp
        with_reducible rfl
      rotate_left
      · simp only [Act.put, List.setIfInBounds_toArray, List.set_cons_zero, List.set_cons_succ, i64_w, i32_w]
        rfl
      refine take_ (i := 2) (N := some 14) (v := ?_) (a' := ?_) #[true, true, true, true, true, true, false, false, true, true, true, false, false, true, true, true, false, false, false] rfl rfl (by kernel_rfl) (fun _ _ _ h => h) (Or.inl ⟨by rfl, ?_⟩) hHeld ?_ ?_
      rotate_left
      · rintro w' ⟨s0, s1, s2, s3⟩
        go_simp
        with_reducible rfl
      rotate_left
      · simp only [Act.put, List.setIfInBounds_toArray, List.set_cons_zero, List.set_cons_succ, i64_w, i32_w]
        rfl
      refine take_ (i := 6) (N := some 18) (v := ?_) (a' := ?_) #[true, true, true, true, true, true, true, false, true, true, true, false, false, true, true, true, false, false, false] rfl rfl (by kernel_rfl) (fun _ _ _ h => h) (Or.inl ⟨by rfl, ?_⟩) hHeld ?_ ?_
      rotate_left
      · rintro w' ⟨s0, s1, s2, s3⟩
        go_simp
        with_reducible rfl
      rotate_left
      · simp only [Act.put, List.setIfInBounds_toArray, List.set_cons_zero, List.set_cons_succ, i64_w, i32_w]
        rfl
      refine pure_ (i := 7) (N := some 19) (v := ?_) (a' := ?_) #[true, true, true, true, true, true, true, true, true, true, true, false, false, true, true, true, false, false, false] rfl rfl (by kernel_rfl) (fun _ _ _ h => h) (Or.inl ⟨by rfl, ?_⟩) ?_ ?_
      rotate_left
      · intro w'
        go_simp
        with_reducible rfl
      rotate_left
      · simp only [Act.put, List.setIfInBounds_toArray, List.set_cons_zero, List.set_cons_succ, i64_w, i32_w]
        rfl
      refine take_ (i := 11) (N := some 23) (v := ?_) (a' := ?_) #[true, true, true, true, true, true, true, true, true, true, true, true, false, true, true, true, false, false, false] rfl rfl (by kernel_rfl) (fun _ _ _ h => h) (Or.inl ⟨by rfl, ?_⟩) hHeld ?_ ?_
      rotate_left
      · rintro w' ⟨s0, s1, s2, s3⟩
        go_simp
        with_reducible rfl
      rotate_left
      · simp only [Act.put, List.setIfInBounds_toArray, List.set_cons_zero, List.set_cons_succ, i64_w, i32_w]
        rfl
      refine pure_ (i := 12) (N := some 24) (v := ?_) (a' := ?_) #[true, true, true, true, true, true, true, true, true, true, true, true, true, true, true, true, false, false, false] rfl rfl (by kernel_rfl) (fun _ _ _ h => h) (Or.inl ⟨by rfl, ?_⟩) ?_ ?_
      rotate_left
      · intro w'
        go_simp
        with_reducible rfl
      rotate_left
      · simp only [Act.put, List.setIfInBounds_toArray, List.set_cons_zero, List.set_cons_succ, i64_w, i32_w]
        rfl
      refine take_ (i := 16) (N := some 28) (v := ?_) (a' := ?_) #[true, true, true, true, true, true, true, true, true, true, true, true, true, true, true, true, true, false, false] rfl rfl (by kernel_rfl) (fun _ _ _ h => h) (Or.inl ⟨by rfl, ?_⟩) hHeld ?_ ?_
      rotate_left
      · rintro w' ⟨s0, s1, s2, s3⟩
        go_simp
        with_reducible rfl
      rotate_left
      · simp only [Act.put, List.setIfInBounds_toArray, List.set_cons_zero, List.set_cons_succ, i64_w, i32_w]
        rfl
      refine pure_ (i := 17) (N := some 29) (v := ?_) (a' := ?_) #[true, true, true, true, true, true, true, true, true, true, true, true, true, true, true, true, true, true, false] rfl rfl (by kernel_rfl) (fun _ _ _ h => h) (Or.inl ⟨by rfl, ?_⟩) ?_ ?_
      rotate_left
      · intro w'
        go_simp
        with_reducible rfl
      rotate_left
      · simp only [Act.put, List.setIfInBounds_toArray, List.set_cons_zero, List.set_cons_succ, i64_w, i32_w]
        rfl
      refine pure_ (i := 18) (N := some 5) (v := ?_) (a' := ?_) #[true, true, true, true, true, true, true, true, true, true, true, true, true, true, true, true, true, true, true] rfl rfl (by kernel_rfl) (fun _ _ _ h => h) (Or.inl ⟨by rfl, ?_⟩) ?_ ?_
      rotate_left
      · intro w'
        go_simp
        with_reducible rfl
      rotate_left
      · simp only [Act.put, List.setIfInBounds_toArray, List.set_cons_zero, List.set_cons_succ, i64_w, i32_w]
        rfl
      refine done_ (by kernel_rfl) ?_
      clear z1 z2 z3 a1 aw1 a2 aw2 a3 aw3 hx0 hx1 hx2 hx3 i1 i2 i3 i1' i2' i3'
      go_wp2
      have M1 := Aside0.mk (Mem.drew M1.out)
      have M2 := Aside0.mk (Mem.drew M2.out)
      have M3 := Aside0.mk (show Mem .u8 _ (w.heap.size + 2) 31 (fillTo rr l (c + 0)) from Mem.drew M3.out)
      have HB := Aside0.mk (below_drew HB.out)
      go_loopg [30] 4 (fun kq i w' => ∃ r : Nat, r + kq = 4 ∧ i = .int .i64 (r : Int) ∧ Aside0 (Mem .u8 w' w.heap.size 31 l) ∧ Aside0 (Mem .u8 w' (w.heap.size + 1) 31 z16) ∧ Aside0 (Mem .u8 w' (w.heap.size + 2) 31 (fillTo rr l (c + r))) ∧ Aside0 (Below w.heap.size w w'))
      case atStart => exact ⟨0, by omega, rfl, M1, M2, M3, HB⟩
      case round =>
        clear M1 M2 M3 HB
        obtain ⟨r, hr, rfl, M1, M2, M3, HB⟩ := hrel
        cases gk with
        | zero =>
          obtain rfl : r = 4 := by omega
          have HN := Aside0.mk (show wrap64 ((c : Int) + 4) = ((4 * (q + 1) : Nat) : Int) ∧ ((c : Int) + 4) = ((4 * (q + 1) : Nat) : Int) ∧ c + 4 = 4 * (q + 1) from by
            have h1 := HCQ.out; have h2 := HQ.out
            refine ⟨?_, ?_, ?_⟩
            · unfold wrap64; omega
            · omega
            · omega)
          have hn := HN.out.1
          go_wp2
          go_roundg k1
          case measure => omega
          case rel => exact ⟨q + 1, by have := HJ.out; omega, by first | rw [HN.out.1] | rw [HN.out.2.1], M1, M2, ⟨by rw [← HN.out.2.2]; exact M3.out⟩, HB⟩
        | succ k2 =>
          have hrl : r < 4 := by omega
          have hr4 : (r : Int) < 4 := by omega
          have HJ2 := Aside0.mk hr
          clear hr
          have HV := Aside0.mk (HS.out q r HQ.out hrl)
          rw [← HCQ.out, ← HSV.out] at HV
          have hp16 : c + r < 16 := by have h1 := HCQ.out; have h2 := HQ.out; omega
          have hm16 : c + (r + 1) % 4 < 16 := by have h1 := HCQ.out; have h2 := HQ.out; omega
          have hxo := M3.out.cell (c + r) (by rw [HFL.out]; exact hp16)
          rw [HFG.out _ hp16] at hxo
          have hf := M3.out.free (c + r)
          have hxi := M1.out.cell (c + r) (by rw [HL.out]; exact hp16)
          rw [HG.out _ hp16] at hxi
          have hxm := M1.out.cell (c + (r + 1) % 4) (by rw [HL.out]; exact hm16)
          rw [HG.out _ hm16] at hxm
          obtain ⟨e1, e2, e3, e4, e5⟩ := iz r hrl
          obtain ⟨d1, d2, d3, d4⟩ := iw c r hp16
          obtain ⟨f1, f2, f3, f4⟩ := iw c ((r + 1) % 4) hm16
          have HNR := Aside0.mk (show wrap64 ((r : Int) + 1) = ((r + 1 : Nat) : Int) from e2)
          have C1 := Aside0.mk (twice_c (b.getD (c + r) 0#8 ^^^ b.getD (c + (r + 1) % 4) 0#8))
          have z1 := xor8 (b.getD (c + r) 0#8) (b.getD (c + (r + 1) % 4) 0#8)
          have z2 := xor8 sv (GfMath.T (b.getD (c + r) 0#8 ^^^ b.getD (c + (r + 1) % 4) 0#8))
          have z3 := xor8 (b.getD (c + r) 0#8) (sv ^^^ GfMath.T (b.getD (c + r) 0#8 ^^^ b.getD (c + (r + 1) % 4) 0#8))
          generalize GfMath.T (b.getD (c + r) 0#8 ^^^ b.getD (c + (r + 1) % 4) 0#8) = ty at *
          generalize b.getD (c + r) 0#8 = xo at *
          generalize b.getD (c + (r + 1) % 4) 0#8 = xm at *
          obtain ⟨nx, hnx⟩ : ∃ z, z = fillTo rr l (c + r + 1) := ⟨_, rfl⟩
          rw [← hnx] at HV
          have HNX := Aside0.mk (show nx = fillTo rr l (c + (r + 1)) from hnx)
          clear hnx
          generalize fillTo rr l (c + r) = s at *
          generalize c + (r + 1) % 4 = pm at *
          generalize c + r = po at *
          generalize (r + 1) % 4 = m at *
          obtain ⟨r1, hr1⟩ : ∃ z : Nat, z = r + 1 := ⟨_, rfl⟩
          rw [← hr1] at e1 e2 e3 e4
          have HR1 := Aside0.mk hr1
          clear hr1
          clear hp16 hm16 hrl HS HFL HFG HG HE e5
          go_wp2
          refine start_ (n := 24) (S := fun w' => w'.cell? ⟨w.heap.size + 2, po, none⟩ = some (.int .u8 (I8 xo)) ∧ w'.cell? ⟨w.heap.size, po, none⟩ = some (.int .u8 (I8 xo)) ∧ w'.cell? ⟨w.heap.size, pm, none⟩ = some (.int .u8 (I8 xm))) (ds := [23]) #[false, false, false, false, false, false, false, false, false, false, false, false, false, false, false, false, false, false, false, false, false, false, false, false] (by kernel_rfl) rfl rfl ⟨hxo, hxi, hxm⟩ (fun hHeld => ?_)
          refine pure_ (i := 0) (N := some 33) (v := ?_) (a' := ?_) #[true, false, false, false, false, false, false, false, false, false, false, false, false, false, false, false, false, false, false, false, false, false, false, false] rfl rfl (by kernel_rfl) (fun _ _ _ h => h) (Or.inl ⟨by rfl, ?_⟩) ?_ ?_
          rotate_left
          · intro w'
            go_simp
            with_reducible rfl
          rotate_left
          · simp only [Act.put, List.setIfInBounds_toArray, List.set_cons_zero, List.set_cons_succ, i64_w, i32_w]
            rfl
          refine pure_ (i := 1) (N := some 34) (v := ?_) (a' := ?_) #[true, true, false, false, false, false, false, false, false, false, false, false, false, false, false, false, false, false, false, false, false, false, false, false] rfl rfl (by kernel_rfl) (fun _ _ _ h => h) (Or.inl ⟨by rfl, ?_⟩) ?_ ?_
          rotate_left
          · intro w'
            go_simp
            with_reducible rfl
          rotate_left
          · simp only [Act.put, List.setIfInBounds_toArray, List.set_cons_zero, List.set_cons_succ, i64_w, i32_w]
            rfl
          refine pure_ (i := 2) (N := some 35) (v := ?_) (a' := ?_) #[true, true, true, false, false, false, false, false, false, false, false, false, false, false, false, false, false, false, false, false, false, false, false, false] rfl rfl (by kernel_rfl) (fun _ _ _ h => h) (Or.inl ⟨by rfl, ?_⟩) ?_ ?_
          rotate_left
          · intro w'
            go_simp
            with_reducible rfl
          rotate_left
          · simp only [Act.put, List.setIfInBounds_toArray, List.set_cons_zero, List.set_cons_succ, i64_w, i32_w]
            rfl
          refine pure_ (i := 3) (N := some 36) (v := ?_) (a' := ?_) #[true, true, true, true, false, false, false, false, false, false, false, false, false, false, false, false, false, false, false, false, false, false, false, false] rfl rfl (by kernel_rfl) (fun _ _ _ h => h) (Or.inl ⟨by rfl, ?_⟩) ?_ ?_
          rotate_left
          · intro w'
            go_simp
            with_reducible rfl
          rotate_left
          · simp only [Act.put, List.setIfInBounds_toArray, List.set_cons_zero, List.set_cons_succ, i64_w, i32_w]
            rfl
          refine pure_ (i := 5) (N := some 38) (v := ?_) (a' := ?_) #[true, true, true, true, false, true, false, false, false, false, false, false, false, false, false, false, false, false, false, false, false, false, false, false] rfl rfl (by kernel_rfl) (fun _ _ _ h => h) (Or.inl ⟨by rfl, ?_⟩) ?_ ?_
          rotate_left
          · intro w'
            go_simp
            with_reducible rfl
          rotate_left
          · simp only [Act.put, List.setIfInBounds_toArray, List.set_cons_zero, List.set_cons_succ, i64_w, i32_w]
            rfl
          refine pure_ (i := 6) (N := some 39) (v := ?_) (a' := ?_) #[true, true, true, true, false, true, true, false, false, false, false, false, false, false, false, false, false, false, false, false, false, false, false, false] rfl rfl (by kernel_rfl) (fun _ _ _ h => h) (Or.inl ⟨by rfl, ?_⟩) ?_ ?_
          rotate_left
          · intro w'
            go_simp
            with_reducible rfl
          rotate_left
          · simp only [Act.put, List.setIfInBounds_toArray, List.set_cons_zero, List.set_cons_succ, i64_w, i32_w]
            rfl
          refine pure_ (i := 7) (N := some 40) (v := ?_) (a' := ?_) #[true, true, true, true, false, true, true, true, false, false, false, false, false, false, false, false, false, false, false, false, false, false, false, false] rfl rfl (by kernel_rfl) (fun _ _ _ h => h) (Or.inl ⟨by rfl, ?_⟩) ?_ ?_
          rotate_left
          · intro w'
            go_simp
            with_reducible rfl
          rotate_left
          · simp only [Act.put, List.setIfInBounds_toArray, List.set_cons_zero, List.set_cons_succ, i64_w, i32_w]
            rfl
          refine pure_ (i := 8) (N := some 41) (v := ?_) (a' := ?_) #[true, true, true, true, false, true, true, true, true, false, false, false, false, false, false, false, false, false, false, false, false, false, false, false] rfl rfl (by kernel_rfl) (fun _ _ _ h => h) (Or.inl ⟨by rfl, ?_⟩) ?_ ?_
          rotate_left
          · intro w'
            go_simp
            with_reducible rfl
          rotate_left
          · simp only [Act.put, List.setIfInBounds_toArray, List.set_cons_zero, List.set_cons_succ, i64_w, i32_w]
            rfl
          refine pure_ (i := 9) (N := some 42) (v := ?_) (a' := ?_) #[true, true, true, true, false, true, true, true, true, true, false, false, false, false, false, false, false, false, false, false, false, false, false, false] rfl rfl (by kernel_rfl) (fun _ _ _ h => h) (Or.inl ⟨by rfl, ?_⟩) ?_ ?_
          rotate_left
          · intro w'
            go_simp
            with_reducible rfl
          rotate_left
          · simp only [Act.put, List.setIfInBounds_toArray, List.set_cons_zero, List.set_cons_succ, i64_w, i32_w]
            rfl
          refine pure_ (i := 11) (N := some 44) (v := ?_) (a' := ?_) #[true, true, true, true, false, true, true, true, true, true, false, true, false, false, false, false, false, false, false, false, false, false, false, false] rfl rfl (by kernel_rfl) (fun _ _ _ h => h) (Or.inl ⟨by rfl, ?_⟩) ?_ ?_
          rotate_left
          · intro w'
            go_simp
            with_reducible rfl
          rotate_left
          · simp only [Act.put, List.setIfInBounds_toArray, List.set_cons_zero, List.set_cons_succ, i64_w, i32_w]
            rfl
          refine pure_ (i := 12) (N := some 45) (v := ?_) (a' := ?_) #[true, true, true, true, false, true, true, true, true, true, false, true, true, false, false, false, false, false, false, false, false, false, false, false] rfl rfl (by kernel_rfl) (fun _ _ _ h => h) (Or.inl ⟨by rfl, ?_⟩) ?_ ?_
          rotate_left
          · intro w'
            go_simp
            with_reducible rfl
          rotate_left
          · simp only [Act.put, List.setIfInBounds_toArray, List.set_cons_zero, List.set_cons_succ, i64_w, i32_w]
            rfl
          refine pure_ (i := 13) (N := some 46) (v := ?_) (a' := ?_) #[true, true, true, true, false, true, true, true, true, true, false, true, true, true, false, false, false, false, false, false, false, false, false, false] rfl rfl (by kernel_rfl) (fun _ _ _ h => h) (Or.inl ⟨by rfl, ?_⟩) ?_ ?_
          rotate_left
          · intro w'
            go_simp
            with_reducible rfl
          rotate_left
          · simp only [Act.put, List.setIfInBounds_toArray, List.set_cons_zero, List.set_cons_succ, i64_w, i32_w]
            rfl
          refine pure_ (i := 14) (N := some 47) (v := ?_) (a' := ?_) #[true, true, true, true, false, true, true, true, true, true, false, true, true, true, true, false, false, false, false, false, false, false, false, false] rfl rfl (by kernel_rfl) (fun _ _ _ h => h) (Or.inl ⟨by rfl, ?_⟩) ?_ ?_
          rotate_left
          · intro w'
            go_simp
            with_reducible rfl
          rotate_left
          · simp only [Act.put, List.setIfInBounds_toArray, List.set_cons_zero, List.set_cons_succ, i64_w, i32_w]
            rfl
          refine pure_ (i := 15) (N := some 48) (v := ?_) (a' := ?_) #[true, true, true, true, false, true, true, true, true, true, false, true, true, true, true, true, false, false, false, false, false, false, false, false] rfl rfl (by kernel_rfl) (fun _ _ _ h => h) (Or.inl ⟨by rfl, ?_⟩) ?_ ?_
          rotate_left
          · intro w'
            go_simp
            with_reducible rfl
          rotate_left
          · simp only [Act.put, List.setIfInBounds_toArray, List.set_cons_zero, List.set_cons_succ, i64_w, i32_w]
            rfl
          refine pure_ (i := 16) (N := some 49) (v := ?_) (a' := ?_) #[true, true, true, true, false, true, true, true, true, true, false, true, true, true, true, true, true, false, false, false, false, false, false, false] rfl rfl (by kernel_rfl) (fun _ _ _ h => h) (Or.inl ⟨by rfl, ?_⟩) ?_ ?_
          rotate_left
          · intro w'
            go_simp
            with_reducible rfl
          rotate_left
          · simp only [Act.put, List.setIfInBounds_toArray, List.set_cons_zero, List.set_cons_succ, i64_w, i32_w]
            rfl
          refine take_ (i := 4) (N := some 37) (v := ?_) (a' := ?_) #[true, true, true, true, true, true, true, true, true, true, false, true, true, true, true, true, true, false, false, false, false, false, false, false] rfl rfl (by kernel_rfl) (fun _ _ _ h => h) (Or.inl ⟨by rfl, ?_⟩) hHeld ?_ ?_
          rotate_left
          · rintro w' ⟨s0, s1, s2⟩
            go_simp
            with_reducible rfl
          rotate_left
          · simp only [Act.put, List.setIfInBounds_toArray, List.set_cons_zero, List.set_cons_succ, i64_w, i32_w]
            rfl
          refine take_ (i := 10) (N := some 43) (v := ?_) (a' := ?_) #[true, true, true, true, true, true, true, true, true, true, true, true, true, true, true, true, true, false, false, false, false, false, false, false] rfl rfl (by kernel_rfl) (fun _ _ _ h => h) (Or.inl ⟨by rfl, ?_⟩) hHeld ?_ ?_
          rotate_left
          · rintro w' ⟨s0, s1, s2⟩
            go_simp
            with_reducible rfl
          rotate_left
          · simp only [Act.put, List.setIfInBounds_toArray, List.set_cons_zero, List.set_cons_succ, i64_w, i32_w]
            rfl
          refine take_ (i := 17) (N := some 50) (v := ?_) (a' := ?_) #[true, true, true, true, true, true, true, true, true, true, true, true, true, true, true, true, true, true, false, false, false, false, false, false] rfl rfl (by kernel_rfl) (fun _ _ _ h => h) (Or.inl ⟨by rfl, ?_⟩) hHeld ?_ ?_
          rotate_left
          · rintro w' ⟨s0, s1, s2⟩
            go_simp
            with_reducible rfl
          rotate_left
          · simp only [Act.put, List.setIfInBounds_toArray, List.set_cons_zero, List.set_cons_succ, i64_w, i32_w]
            rfl
          refine pure_ (i := 18) (N := some 51) (v := ?_) (a' := ?_) #[true, true, true, true, true, true, true, true, true, true, true, true, true, true, true, true, true, true, true, false, false, false, false, false] rfl rfl (by kernel_rfl) (fun _ _ _ h => h) (Or.inl ⟨by rfl, ?_⟩) ?_ ?_
          rotate_left
          · intro w'
            go_simp
            with_reducible rfl
          rotate_left
          · simp only [Act.put, List.setIfInBounds_toArray, List.set_cons_zero, List.set_cons_succ, i64_w, i32_w]
            rfl
          refine one_ (i := 19) (N := some 52) #[true, true, true, true, true, true, true, true, true, true, true, true, true, true, true, true, true, true, true, true, false, false, false, false] rfl rfl (by kernel_rfl) (by decide) (fun K hK => ?_)
          refine goes_ Try.func71 (by kernel_rfl) rfl #[.int .u8 (I8 (xo ^^^ xm))] (by rfl) rfl rfl (by simp only [List.map_toArray, List.map_cons, List.map_nil]; rfl) ?_
          with_reducible refine (C1.out.q _).mono ?_
          rintro e w5 ⟨rfl, ⟨⟨n5, rfl⟩⟩⟩
          refine ⟨_, rfl, ?_⟩
          refine hK.out _ _ ⟨hHeld.1, hHeld.2.1, hHeld.2.2⟩ (fun hHeld => ?_)
          clear hK K
          refine norm_ (a' := ?_) ?_ ?_
          rotate_left
          · show Act.put _ (some 52) _ = _
            simp only [Act.put, List.setIfInBounds_toArray, List.set_cons_zero, List.set_cons_succ, i64_w, i32_w]
            rfl
          refine pure_ (i := 20) (N := some 53) (v := ?_) (a' := ?_) #[true, true, true, true, true, true, true, true, true, true, true, true, true, true, true, true, true, true, true, true, true, false, false, false] rfl rfl (by kernel_rfl) (fun _ _ _ h => h) (Or.inl ⟨by rfl, ?_⟩) ?_ ?_
          rotate_left
          · intro w'
            go_simp
            with_reducible rfl
          rotate_left
          · simp only [Act.put, List.setIfInBounds_toArray, List.set_cons_zero, List.set_cons_succ, i64_w, i32_w]
            rfl
          refine pure_ (i := 21) (N := some 54) (v := ?_) (a' := ?_) #[true, true, true, true, true, true, true, true, true, true, true, true, true, true, true, true, true, true, true, true, true, true, false, false] rfl rfl (by kernel_rfl) (fun _ _ _ h => h) (Or.inl ⟨by rfl, ?_⟩) ?_ ?_
          rotate_left
          · intro w'
            go_simp
            with_reducible rfl
          rotate_left
          · simp only [Act.put, List.setIfInBounds_toArray, List.set_cons_zero, List.set_cons_succ, i64_w, i32_w]
            rfl
          refine pure_ (i := 22) (N := some 55) (v := ?_) (a' := ?_) #[true, true, true, true, true, true, true, true, true, true, true, true, true, true, true, true, true, true, true, true, true, true, true, false] rfl rfl (by kernel_rfl) (fun _ _ _ h => h) (Or.inl ⟨by rfl, ?_⟩) ?_ ?_
          rotate_left
          · intro w'
            go_simp
            with_reducible rfl
          rotate_left
          · simp only [Act.put, List.setIfInBounds_toArray, List.set_cons_zero, List.set_cons_succ, i64_w, i32_w]
            rfl
          refine last_ (i := 23) (N := none) #[true, true, true, true, true, true, true, true, true, true, true, true, true, true, true, true, true, true, true, true, true, true, true, true] rfl rfl (by kernel_rfl) (by decide) (fun K hK => ?_)
          refine skip_ (w1 := ?_) (by rfl) rfl ?_ ?_
          rotate_left
          · go_simp
            rfl
          refine hK.out _ _ ?_
          clear hK K
          refine done_ (by kernel_rfl) ?_
          go_wp2
          go_roundg k2
          case measure => omega
          case rel => exact ⟨r + 1, by have := HJ2.out; omega, by first | rw [HR1.out] | rfl | rw [HNR.out], ⟨Mem.other (Mem.drewN M1.out _) (by omega) _ _⟩, ⟨Mem.other (Mem.drewN M2.out _) (by omega) _ _⟩, ⟨by rw [← HNX.out, ← HV.out]; exact Mem.set (Mem.drewN M3.out _) _ _⟩, ⟨below_set (pw_below_drewN HB.out _) (by omega)⟩⟩
end Go.Proofs.Ytpdikfmdnlhllaa.Aes
namespace Go.Proofs.Ytpdikfmdnlhllaa.Aes
open Go.RowKit Go.Proofs.Ytpdikfmdnlhllaa.PNib Go.Proofs.YtpdikfmdnlhllaaW.PrintWords Go.Proofs.YtpdikfmdnlhllaaW.PrintLast Go.Proofs.YtpdikfmdnlhllaaW.PrintMore Byte Sl Arr Mem Gives ArrEq Mat AesMath AesMov AesLin
set_option linter.unusedVariables false
set_option linter.unusedSimpArgs false
def bl (b : List B) : Value := .agg (cellsOf .u8 (ib b))
theorem ib_rows (b : List B) : rowsL (ib b) = ib (rowsB b) := by
  unfold rowsL rowsB byN ib
  rw [List.map_map]
  refine List.map_congr_left fun i _ => ?_
  exact ib_getD b _
section
variable (b : List B) (hb : b.length = 16)
include hb
theorem arowsB_c : GivesB 22 #[.agg (cellsOf .u8 (ib b))] (.agg (cellsOf .u8 (ib (rowsB b)))) := fun w => by
  have := arows_c (ib b) (by rw [ib_length, hb]) w
  rwa [ib_rows] at this
theorem rrowsB_c : GivesB 23 #[.agg (cellsOf .u8 (ib b))] (.agg (cellsOf .u8 (ib (rowsB b)))) := fun w => by
  have := rrows_l (ib b) (by rw [ib_length, hb]) w
  rwa [ib_rows] at this
end
/-- Block g is a cipher; what its round keys lead to lies below lim. -/
def CphL (w : World) (g bx lim : Nat) (ks : List (List B)) : Prop := (∃ A c, w.heap[g]? = some (.cells #[.pointer (some ⟨bx, 0, none⟩), .slice A ks.length c] 89 (0, 0)) ∧ ks.length ≤ c ∧ Kd.F (Kd.slice 5 (Kd.int .u8)) w (fun k => k ≠ bx ∧ k < lim) A ks.length (ks.map ib)) ∧ BoxS w bx ∧ g < lim ∧ bx < lim
section
variable {w w' : World} {g bx lim : Nat} {ks : List (List B)}
theorem Cph.bound (h : Cph w g bx ks) : CphL w g bx w.heap.size ks := by
  have h1 := h.lt
  have h2 := h.2.lt
  obtain ⟨⟨A, c, h, hl, hF⟩, hB⟩ := h
  exact ⟨⟨A, c, h, hl, Kd.F_bound hF⟩, hB, h1, h2⟩
theorem CphL.all (h : CphL w g bx lim ks) : Cph w g bx ks := by
  obtain ⟨⟨A, c, h, hl, hF⟩, hB, _⟩ := h
  exact ⟨⟨A, c, h, hl, Kd.F_mono hF (fun _ hk => hk.1)⟩, hB⟩
theorem CphL.box (h : CphL w g bx lim ks) : BoxS w bx := h.2.1
theorem CphL.below (h : CphL w g bx lim ks) (hb : Below w.heap.size w w') : CphL w' g bx lim ks := by
  obtain ⟨⟨A, c, h, hc, hF⟩, hB, h1, h2⟩ := h
  exact ⟨⟨A, c, blk_below h hb, hc, Kd.F_below hF hb⟩, hB.below hb, h1, h2⟩
theorem CphL.ch (h : CphL w g bx lim ks) (hc : Ch bx w w') (hB : BoxS w' bx) : CphL w' g bx lim ks := by
  have hne := h.all.ne
  obtain ⟨⟨A, c, h, hl, hF⟩, _, h1, h2⟩ := h
  exact ⟨⟨A, c, blk_grown h hc (fun e => hne (Option.some.inj e)), hl, Kd.F_grown hF hc (fun k hk e => hk.1 (Option.some.inj e))⟩, hB, h1, h2⟩
/-- A write into a block of a call's own. -/
theorem CphL.grown (h : CphL w g bx lim ks) {b : Nat} (hg : w.grownBy w' (some b)) (hb : lim ≤ b) : CphL w' g bx lim ks := by
  obtain ⟨⟨A, c, h, hl, h2⟩, hB, h3, h4⟩ := h
  exact ⟨⟨A, c, blk_grown h hg (fun e => by have := Option.some.inj e; omega), hl, Kd.F_grown h2 hg (fun k hk e => by have := Option.some.inj e; have := hk.2; omega)⟩, hB.grown hg (fun e => by have := Option.some.inj e; omega), h3, h4⟩
theorem grown_setRow (w : World) (b : Nat) (cs : Array Value) : w.grownBy (w.setRow b cs) (some b) := ⟨rfl, rfl, rfl, by show _ ≤ (w.heap.modify b _).size; simp, fun i hi hne => setRow_other _ _ _ _ (fun e => hne (congrArg some e))⟩
theorem CphL.row (h : CphL w g bx lim ks) {b : Nat} (hb : lim ≤ b) (cs : Array Value) : CphL (w.setRow b cs) g bx lim ks := h.grown (grown_setRow w b cs) hb
theorem Ch.row0 (h : Ch bx w w') {b : Nat} (hb : w.heap.size ≤ b) (cs : Array Value) : Ch bx w (w'.setRow b cs) := Ch.row' h hb cs
end
theorem mem_loads16 {w : World} {g : Nat} {l : List Int} (h : Mem .u8 w g 31 l) (hl : l.length = 16) : (loadVar 31 ⟨g, 0, none⟩).run Try.prog w = .ok (.agg (cellsOf .u8 l)) w :=
  run_loadVar_row w g _ _ _ _ _ h Try.underlying31 rfl (by rw [cellsOf_size, hl]; exact info16)
theorem store16_yields {o : Oper} {a : Act} {w : World} {x y : Operand} {g : Nat} {l l2 : List Int} (h : Mem .u8 w g 31 l) (hl : l.length = 16) (hl2 : l2.length = 16) (ho : o.op = .store 31 x y) (hx : a.eval x = .pointer (some ⟨g, 0, none⟩)) (hy : a.eval y = .agg (cellsOf .u8 l2)) : (execOp a.eval o).run Try.prog w = .ok .skip (w.setRow g (cellsOf .u8 l2)) :=
  store_yields ho hx hy h (by rw [cellsOf_size, hl2]; exact info16) (by rw [cellsOf_size, cellsOf_size, hl, hl2]) (by simp [cellsOf, Value.oneCell'])
set_option maxHeartbeats 4000000 in
set_option maxRecDepth 100000 in
theorem block_c (b : List B) (hb : b.length = 16) (g bx : Nat) (ks : List (List B)) (n : Nat) (hks : ks.length = n + 2) (hk : ∀ r, r < n + 2 → (keyAt ks r).length = 16) (hn : n ≤ 100) (w : World) (hX : Cph w g bx ks) : Calls Try.prog 31 #[.pointer (some ⟨g, 0, none⟩), .agg (cellsOf .u8 (ib b))] w fun e w' => e = .returned (.agg (cellsOf .u8 (ib (encB ks n b)))) ∧ Cph w' g bx ks ∧ Ch bx w w' := by
  have HL := Aside0.mk (show (ib b).length = 16 by rw [ib_length, hb])
  have HR := Aside0.mk (show (ib (encB ks n b)).length = 16 by rw [ib_length, encB_length])
  have M1 := Aside0.mk (Mem.alloc (Mem.new .u8 w 31 (ib b)) (.cells (cellsOf .u8 z16) 31))
  have M2 := Aside0.mk (Mem.new2 .u8 w (.cells (cellsOf .u8 (ib b)) 31) 31 z16)
  have HB := Aside0.mk (below_alloc (below_alloc (Below.refl w.heap.size w) (.cells (cellsOf .u8 (ib b)) 31)) (.cells (cellsOf .u8 z16) 31))
  have HX := Aside0.mk (hX.bound.below HB.out)
  have HC := Aside0.mk (Ch.of_below (g := bx) HB.out)
  have HXL := Aside0.mk hX.lt
  obtain ⟨A, c, hd0⟩ := hX.rounds
  have hd1 := pw_cell_below HB.out hd0
  rw [hks] at hd1
  clear hX hd0 HB
  obtain ⟨cl, hcl⟩ : ∃ cs, cs = cellsOf .u8 (ib b) := ⟨_, rfl⟩
  have HCL := Aside0.mk hcl
  rw [← hcl] at M1 M2 HX HC hd1 ⊢
  clear hcl
  obtain ⟨N2, hN2⟩ : ∃ z, z = n + 2 := ⟨_, rfl⟩
  obtain ⟨la, hla⟩ : ∃ z, z = n + 1 := ⟨_, rfl⟩
  have HLA := Aside0.mk hla
  rw [← hN2] at hd1
  have hd1 := show ((w.alloc (.cells cl 31)).alloc (.cells #[.int .u8 0, .int .u8 0, .int .u8 0, .int .u8 0, .int .u8 0, .int .u8 0, .int .u8 0, .int .u8 0, .int .u8 0, .int .u8 0, .int .u8 0, .int .u8 0, .int .u8 0, .int .u8 0, .int .u8 0, .int .u8 0] 31)).cell? ⟨g, 1, none⟩ = some (.slice A N2 c) from hd1
  have hq : wrap64 ((N2 : Int) - 1) = (la : Int) := by unfold wrap64; omega
  have hq1 : IntKind.i64.wrap ((N2 : Int) - 1) = (la : Int) := by rw [IntKind.wrap_i64]; omega
  have hq2 : ((N2 : Int) - 1) = (la : Int) := by omega
  have hq3 : ((N2 : Int) == 0) = false := by rw [beq_eq_false_iff_ne]; omega
  have hq5 : ((N2 : Int) = 0) = False := by apply eq_false; omega
  have hq6 : (N2 = 0) = False := by apply eq_false; omega
  have hq7 : wrap64 (la : Int) = (la : Int) := by unfold wrap64; omega
  clear hN2 hla
  have L0 := Aside0.mk (show (ib (encTo ks b 0)).length = 16 by rw [ib_length, encTo_length _ _ hb])
  have C0 := Aside0.mk (fun W (h : Cph W g bx ks) => add_c b hb g bx ks 0 (by omega) (hk 0 (by omega)) (by decide) W h)
  rw [show xorL b (keyAt ks 0) = encTo ks b 0 from rfl, ← HCL.out] at C0
  have HXL2 := Aside0.mk (show bx < w.heap.size from HX.out.2.2.2)
  go_enter Try.func31, Try.ntmps31
  go_wp2_with (first
    | ((with_reducible refine gate_dst (N := 25) rfl ?_); refine Mem.load M1.out rfl 31 (.tmp 3) rfl rfl Try.underlying31 (by rw [HL.out]; exact info16) ?_; rw [← HCL.out])
    | (go_at_call 73; (refine (C0.out _ HX.out.all).mono ?_); rintro e w4 ⟨rfl, hb4⟩; have M1 := Aside0.mk (Mem.below M1.out hb4); have M2 := Aside0.mk (Mem.below M2.out hb4); have HX := Aside0.mk (HX.out.below hb4); have HC := Aside0.mk (Ch.step HC.out hb4); clear hb4)
    | ((with_reducible refine gate_store (t := 31) (p := 3) rfl ?_); refine Mem.store (l' := (ib (encTo ks b 0))) M1.out rfl 31 (.tmp 3) (.tmp 26) rfl rfl rfl (by first | exact info16 | (rw [L0.out]; exact info16)) (by first | rfl | (rw [L0.out]; rfl) | rw [HL.out, L0.out]) ?_))
  have M2 := Aside0.mk (Mem.row M2.out (g' := w.heap.size) (by omega) (cellsOf .u8 (ib (encTo ks b 0))))
  have M1 := Aside0.mk (Mem.put M1.out (ib (encTo ks b 0)))
  have HX := Aside0.mk (HX.out.row (b := w.heap.size) (by omega) (cellsOf .u8 (ib (encTo ks b 0))))
  have HC := Aside0.mk (Ch.row0 HC.out (b := w.heap.size) (by omega) (cellsOf .u8 (ib (encTo ks b 0))))
  clear C0
  go_loopg [6] n (fun kq i w' => ∃ r : Nat, r + kq = n ∧ i = .int .i64 ((r + 1 : Nat) : Int) ∧ Aside0 (Mem .u8 w' w.heap.size 31 (ib (encTo ks b r))) ∧ Aside0 (Mem .u8 w' (w.heap.size + 1) 31 z16) ∧ Aside0 (CphL w' g bx w.heap.size ks) ∧ Aside0 (Ch bx w w'))
  case atStart => exact ⟨0, by omega, rfl, M1, M2, HX, HC⟩
  case round =>
    clear M1 M2 HX HC
    obtain ⟨r, hr, rfl, M1, M2, HX, HC⟩ := hrel
    have L0 := Aside0.mk (show (ib (encTo ks b r)).length = 16 by rw [ib_length, encTo_length _ _ hb])
    have hx16 := encTo_length ks b hb r
    cases gk with
    | zero =>
      obtain rfl : r = n := by omega
      have C1 := Aside0.mk (fun W (h : BoxS W bx) => eachSub_c (encTo ks b r) hx16 bx W h)
      have C2 := Aside0.mk (arowsB_c ((encTo ks b r).map subB) (by rw [List.length_map, hx16]))
      have C4 := Aside0.mk (fun W (h : Cph W g bx ks) => add_c (rowsB ((encTo ks b r).map subB)) (rowsB_length _) g bx ks (r + 1) (by omega) (hk (r + 1) (by omega)) (by omega) W h)
      rw [show xorL (rowsB ((encTo ks b r).map subB)) (keyAt ks (r + 1)) = encB ks r b from rfl] at C4
      have L4 := HR
      rw [← HLA.out] at C4 ⊢
      clear hx16 hr hk hks hb hn
      generalize hxe : encB ks r b = x4 at *
      have HXE := Aside0.mk hxe
      clear hxe
      generalize encTo ks b r = x0 at *
      generalize rowsB (x0.map subB) = x2 at *
      generalize x0.map subB = x1 at *
      have hnl : ¬ (la : Int) < (la : Int) := by omega
      have hl0 := mem_loads16 (Mem.drew M1.out) L0.out
      have hl1 := (HX.out.below (below_drew (Below.refl _ _))).all.boxp
      go_wp2
      refine start_ (n := 12) (S := fun w' => (loadVar 31 ⟨w.heap.size, 0, none⟩).run Try.prog w' = .ok (.agg (cellsOf .u8 (ib x0))) w' ∧ w'.cell? ⟨g, 0, none⟩ = some (.pointer (some ⟨bx, 0, none⟩))) (ds := [11]) #[false, false, false, false, false, false, false, false, false, false, false, false] (by kernel_rfl) rfl rfl ⟨hl0, hl1⟩ (fun hHeld => ?_)
      refine pure_ (i := 0) (N := some 44) (v := ?_) (a' := ?_) #[true, false, false, false, false, false, false, false, false, false, false, false] rfl rfl (by kernel_rfl) (fun _ _ _ h => h) (Or.inl ⟨by rfl, ?_⟩) ?_ ?_
      rotate_left
      · intro w'
        go_simp
        with_reducible rfl
      rotate_left
      · simp only [Act.put, List.setIfInBounds_toArray, List.set_cons_zero, List.set_cons_succ, i64_w, i32_w]
        rfl
      refine pure_ (i := 2) (N := some 46) (v := ?_) (a' := ?_) #[true, false, true, false, false, false, false, false, false, false, false, false] rfl rfl (by kernel_rfl) (fun _ _ _ h => h) (Or.inl ⟨by rfl, ?_⟩) ?_ ?_
      rotate_left
      · intro w'
        go_simp
        with_reducible rfl
      rotate_left
      · simp only [Act.put, List.setIfInBounds_toArray, List.set_cons_zero, List.set_cons_succ, i64_w, i32_w]
        rfl
      refine pure_ (i := 3) (N := some 47) (v := ?_) (a' := ?_) #[true, false, true, true, false, false, false, false, false, false, false, false] rfl rfl (by kernel_rfl) (fun _ _ _ h => h) (Or.inl ⟨by rfl, ?_⟩) ?_ ?_
      rotate_left
      · intro w'
        go_simp
        with_reducible rfl
      rotate_left
      · simp only [Act.put, List.setIfInBounds_toArray, List.set_cons_zero, List.set_cons_succ, i64_w, i32_w]
        rfl
      refine pure_ (i := 4) (N := some 48) (v := ?_) (a' := ?_) #[true, false, true, true, true, false, false, false, false, false, false, false] rfl rfl (by kernel_rfl) (fun _ _ _ h => h) (Or.inl ⟨by rfl, ?_⟩) ?_ ?_
      rotate_left
      · intro w'
        go_simp
        with_reducible rfl
      rotate_left
      · simp only [Act.put, List.setIfInBounds_toArray, List.set_cons_zero, List.set_cons_succ, i64_w, i32_w]
        rfl
      refine pure_ (i := 9) (N := some 53) (v := ?_) (a' := ?_) #[true, false, true, true, true, false, false, false, false, true, false, false] rfl rfl (by kernel_rfl) (fun _ _ _ h => h) (Or.inl ⟨by rfl, ?_⟩) ?_ ?_
      rotate_left
      · intro w'
        go_simp
        with_reducible rfl
      rotate_left
      · simp only [Act.put, List.setIfInBounds_toArray, List.set_cons_zero, List.set_cons_succ, i64_w, i32_w]
        rfl
      refine take_ (i := 1) (N := some 45) (v := ?_) (a' := ?_) #[true, true, true, true, true, false, false, false, false, true, false, false] rfl rfl (by kernel_rfl) (fun _ _ _ h => h) (Or.inl ⟨by rfl, ?_⟩) hHeld ?_ ?_
      rotate_left
      · rintro w' ⟨s0, s1⟩
        refine (load_yields rfl rfl s0).trans ?_
        with_reducible rfl
      rotate_left
      · simp only [Act.put, List.setIfInBounds_toArray, List.set_cons_zero, List.set_cons_succ, i64_w, i32_w]
        rfl
      refine take_ (i := 5) (N := some 49) (v := ?_) (a' := ?_) #[true, true, true, true, true, true, false, false, false, true, false, false] rfl rfl (by kernel_rfl) (fun _ _ _ h => h) (Or.inl ⟨by rfl, ?_⟩) hHeld ?_ ?_
      rotate_left
      · rintro w' ⟨s0, s1⟩
        go_simp
        with_reducible rfl
      rotate_left
      · simp only [Act.put, List.setIfInBounds_toArray, List.set_cons_zero, List.set_cons_succ, i64_w, i32_w]
        rfl
      refine pure_ (i := 6) (N := some 50) (v := ?_) (a' := ?_) #[true, true, true, true, true, true, true, false, false, true, false, false] rfl rfl (by kernel_rfl) (fun _ _ _ h => h) (Or.inl ⟨by rfl, ?_⟩) ?_ ?_
      rotate_left
      · intro w'
        go_simp
        with_reducible rfl
      rotate_left
      · simp only [Act.put, List.setIfInBounds_toArray, List.set_cons_zero, List.set_cons_succ, i64_w, i32_w]
        rfl
      refine one_ (i := 7) (N := some 51) #[true, true, true, true, true, true, true, true, false, true, false, false] rfl rfl (by kernel_rfl) (by decide) (fun K hK => ?_)
      refine goes_ Try.func74 (by kernel_rfl) rfl #[.agg (cellsOf .u8 (ib x0)), .func (.func 75) #[.pointer (some ⟨bx, 0, none⟩)] #[]] (by rfl) rfl rfl (by simp only [List.map_toArray, List.map_cons, List.map_nil]; rfl) ?_
      have M1 := Aside0.mk (Mem.drew M1.out)
      have M2 := Aside0.mk (Mem.drew M2.out)
      have HX := Aside0.mk (HX.out.below (below_drew (Below.refl _ _)))
      have HC := Aside0.mk (Ch.step HC.out (below_drew (Below.refl _ _)))
      with_reducible refine (C1.out _ HX.out.box).mono ?_
      rintro e w5 ⟨rfl, hx5, hc5⟩
      refine ⟨_, rfl, ?_⟩
      have M1 := Aside0.mk (mem_ch M1.out hc5 (by have := HXL2.out; omega))
      have M2 := Aside0.mk (mem_ch M2.out hc5 (by have := HXL2.out; omega))
      have HX := Aside0.mk (HX.out.ch hc5 hx5)
      have HC := Aside0.mk (HC.out.trans hc5)
      clear hc5 hx5
      refine hK.out _ _ ⟨(mem_loads16 M1.out L0.out), HX.out.all.boxp⟩ (fun hHeld => ?_)
      clear hK K
      refine norm_ (a' := ?_) ?_ ?_
      rotate_left
      · show Act.put _ (some 51) _ = _
        simp only [Act.put, List.setIfInBounds_toArray, List.set_cons_zero, List.set_cons_succ, i64_w, i32_w]
        rfl
      refine one_ (i := 8) (N := some 52) #[true, true, true, true, true, true, true, true, true, true, false, false] rfl rfl (by kernel_rfl) (by decide) (fun K hK => ?_)
      refine goes_ Try.func22 (by kernel_rfl) rfl #[.agg (cellsOf .u8 (ib x1))] (by rfl) rfl rfl (by simp only [List.map_toArray, List.map_cons, List.map_nil]; rfl) ?_
      with_reducible refine (C2.out.q _).mono ?_
      rintro e w6 ⟨rfl, hb6⟩
      refine ⟨_, rfl, ?_⟩
      have M1 := Aside0.mk (Mem.below M1.out hb6)
      have M2 := Aside0.mk (Mem.below M2.out hb6)
      have HX := Aside0.mk (HX.out.below hb6)
      have HC := Aside0.mk (Ch.step HC.out hb6)
      clear hb6
      refine hK.out _ _ ⟨(mem_loads16 M1.out L0.out), HX.out.all.boxp⟩ (fun hHeld => ?_)
      clear hK K
      refine norm_ (a' := ?_) ?_ ?_
      rotate_left
      · show Act.put _ (some 52) _ = _
        simp only [Act.put, List.setIfInBounds_toArray, List.set_cons_zero, List.set_cons_succ, i64_w, i32_w]
        rfl
      refine one_ (i := 10) (N := some 54) #[true, true, true, true, true, true, true, true, true, true, true, false] rfl rfl (by kernel_rfl) (by decide) (fun K hK => ?_)
      refine goes_ Try.func73 (by kernel_rfl) rfl #[.pointer (some ⟨g, 0, none⟩), .agg (cellsOf .u8 (ib x2)), .int .i64 (la : Int)] (by rfl) rfl rfl (by simp only [List.map_toArray, List.map_cons, List.map_nil]; rfl) ?_
      with_reducible refine (C4.out _ HX.out.all).mono ?_
      rintro e w8 ⟨rfl, hb8⟩
      refine ⟨_, rfl, ?_⟩
      have M1 := Aside0.mk (Mem.below M1.out hb8)
      have M2 := Aside0.mk (Mem.below M2.out hb8)
      have HX := Aside0.mk (HX.out.below hb8)
      have HC := Aside0.mk (Ch.step HC.out hb8)
      clear hb8
      refine hK.out _ _ ⟨(mem_loads16 M1.out L0.out), HX.out.all.boxp⟩ (fun hHeld => ?_)
      clear hK K
      refine norm_ (a' := ?_) ?_ ?_
      rotate_left
      · show Act.put _ (some 54) _ = _
        simp only [Act.put, List.setIfInBounds_toArray, List.set_cons_zero, List.set_cons_succ, i64_w, i32_w]
        rfl
      refine last_ (i := 11) (N := none) #[true, true, true, true, true, true, true, true, true, true, true, true] rfl rfl (by kernel_rfl) (by decide) (fun K hK => ?_)
      refine skip_ (w1 := ?_) (by rfl) rfl ?_ ?_
      rotate_left
      · refine store16_yields (l2 := ib x4) (x := .tmp 4) (y := .tmp 54) M2.out rfl L4.out ?_ ?_ ?_ <;> rfl
      have M1 := Aside0.mk (Mem.row M1.out (g' := (w.heap.size + 1)) (by omega) (cellsOf .u8 (ib x4)))
      have M2 := Aside0.mk (Mem.put M2.out (ib x4))
      have HX := Aside0.mk (HX.out.row (b := (w.heap.size + 1)) (by omega) (cellsOf .u8 (ib x4)))
      have HC := Aside0.mk (Ch.row0 HC.out (b := (w.heap.size + 1)) (by omega) (cellsOf .u8 (ib x4)))
      refine hK.out _ _ ?_
      clear hK K
      refine done_ (by kernel_rfl) ?_
      go_wp2
      refine bodyPost_ret (v := .agg (cellsOf .u8 (ib x4))) (results_cell_row rfl _ _ _ _ _ _ _ rfl M2.out Try.underlying31 rfl (by rw [cellsOf_size, L4.out]; exact info16)) rfl ⟨by rw [HXE.out], HX.out.all, HC.out⟩
    | succ k1 =>
      have hrl : r < n := by omega
      have C1 := Aside0.mk (fun W (h : BoxS W bx) => eachSub_c (encTo ks b r) hx16 bx W h)
      have C2 := Aside0.mk (arowsB_c ((encTo ks b r).map subB) (by rw [List.length_map, hx16]))
      have C3 := Aside0.mk (fun W => cols_c (rowsB ((encTo ks b r).map subB)) (rowsB_length _) W)
      have C4 := Aside0.mk (fun W (h : Cph W g bx ks) => add_c (colsB (rowsB ((encTo ks b r).map subB))) (colsB_length _) g bx ks (r + 1) (by omega) (hk (r + 1) (by omega)) (by omega) W h)
      rw [show xorL (colsB (rowsB ((encTo ks b r).map subB))) (keyAt ks (r + 1)) = encTo ks b (r + 1) from rfl] at C4
      have L4 := Aside0.mk (show (ib (encTo ks b (r + 1))).length = 16 by rw [ib_length, encTo_length _ _ hb])
      have HJ := Aside0.mk (show r + 1 + k1 = n by omega)
      obtain ⟨r1, hr1⟩ : ∃ z, z = r + 1 := ⟨_, rfl⟩
      have HE := Aside0.mk (show encTo ks b (r + 1) = encTo ks b r1 by rw [hr1])
      have HR1 := Aside0.mk hr1
      rw [← hr1] at C4 HJ ⊢
      have hlt : (r1 : Int) < (la : Int) := by have := HLA.out; omega
      have HNX := Aside0.mk (show wrap64 ((r1 : Int) + 1) = ((r1 + 1 : Nat) : Int) by unfold wrap64; omega)
      rw [HE.out] at L4
      clear HE hx16 hr hk hks hrl hr1
      generalize hxx : encTo ks b r1 = x4 at *
      have HX4 := Aside0.mk hxx
      clear hxx hb hn
      generalize encTo ks b r = x0 at *
      generalize colsB (rowsB (x0.map subB)) = x3 at *
      generalize rowsB (x0.map subB) = x2 at *
      generalize x0.map subB = x1 at *
      have hl0 := mem_loads16 (Mem.drew M1.out) L0.out
      have hl1 := (HX.out.below (below_drew (Below.refl _ _))).all.boxp
      go_wp2
      refine start_ (n := 13) (S := fun w' => (loadVar 31 ⟨w.heap.size, 0, none⟩).run Try.prog w' = .ok (.agg (cellsOf .u8 (ib x0))) w' ∧ w'.cell? ⟨g, 0, none⟩ = some (.pointer (some ⟨bx, 0, none⟩))) (ds := [12]) #[false, false, false, false, false, false, false, false, false, false, false, false, false] (by kernel_rfl) rfl rfl ⟨hl0, hl1⟩ (fun hHeld => ?_)
      refine pure_ (i := 0) (N := some 32) (v := ?_) (a' := ?_) #[true, false, false, false, false, false, false, false, false, false, false, false, false] rfl rfl (by kernel_rfl) (fun _ _ _ h => h) (Or.inl ⟨by rfl, ?_⟩) ?_ ?_
      rotate_left
      · intro w'
        go_simp
        with_reducible rfl
      rotate_left
      · simp only [Act.put, List.setIfInBounds_toArray, List.set_cons_zero, List.set_cons_succ, i64_w, i32_w]
        rfl
      refine pure_ (i := 2) (N := some 34) (v := ?_) (a' := ?_) #[true, false, true, false, false, false, false, false, false, false, false, false, false] rfl rfl (by kernel_rfl) (fun _ _ _ h => h) (Or.inl ⟨by rfl, ?_⟩) ?_ ?_
      rotate_left
      · intro w'
        go_simp
        with_reducible rfl
      rotate_left
      · simp only [Act.put, List.setIfInBounds_toArray, List.set_cons_zero, List.set_cons_succ, i64_w, i32_w]
        rfl
      refine pure_ (i := 3) (N := some 35) (v := ?_) (a' := ?_) #[true, false, true, true, false, false, false, false, false, false, false, false, false] rfl rfl (by kernel_rfl) (fun _ _ _ h => h) (Or.inl ⟨by rfl, ?_⟩) ?_ ?_
      rotate_left
      · intro w'
        go_simp
        with_reducible rfl
      rotate_left
      · simp only [Act.put, List.setIfInBounds_toArray, List.set_cons_zero, List.set_cons_succ, i64_w, i32_w]
        rfl
      refine pure_ (i := 4) (N := some 36) (v := ?_) (a' := ?_) #[true, false, true, true, true, false, false, false, false, false, false, false, false] rfl rfl (by kernel_rfl) (fun _ _ _ h => h) (Or.inl ⟨by rfl, ?_⟩) ?_ ?_
      rotate_left
      · intro w'
        go_simp
        with_reducible rfl
      rotate_left
      · simp only [Act.put, List.setIfInBounds_toArray, List.set_cons_zero, List.set_cons_succ, i64_w, i32_w]
        rfl
      refine pure_ (i := 10) (N := some 42) (v := ?_) (a' := ?_) #[true, false, true, true, true, false, false, false, false, false, true, false, false] rfl rfl (by kernel_rfl) (fun _ _ _ h => h) (Or.inl ⟨by rfl, ?_⟩) ?_ ?_
      rotate_left
      · intro w'
        go_simp
        with_reducible rfl
      rotate_left
      · simp only [Act.put, List.setIfInBounds_toArray, List.set_cons_zero, List.set_cons_succ, i64_w, i32_w]
        rfl
      refine take_ (i := 1) (N := some 33) (v := ?_) (a' := ?_) #[true, true, true, true, true, false, false, false, false, false, true, false, false] rfl rfl (by kernel_rfl) (fun _ _ _ h => h) (Or.inl ⟨by rfl, ?_⟩) hHeld ?_ ?_
      rotate_left
      · rintro w' ⟨s0, s1⟩
        refine (load_yields rfl rfl s0).trans ?_
        with_reducible rfl
      rotate_left
      · simp only [Act.put, List.setIfInBounds_toArray, List.set_cons_zero, List.set_cons_succ, i64_w, i32_w]
        rfl
      refine take_ (i := 5) (N := some 37) (v := ?_) (a' := ?_) #[true, true, true, true, true, true, false, false, false, false, true, false, false] rfl rfl (by kernel_rfl) (fun _ _ _ h => h) (Or.inl ⟨by rfl, ?_⟩) hHeld ?_ ?_
      rotate_left
      · rintro w' ⟨s0, s1⟩
        go_simp
        with_reducible rfl
      rotate_left
      · simp only [Act.put, List.setIfInBounds_toArray, List.set_cons_zero, List.set_cons_succ, i64_w, i32_w]
        rfl
      refine pure_ (i := 6) (N := some 38) (v := ?_) (a' := ?_) #[true, true, true, true, true, true, true, false, false, false, true, false, false] rfl rfl (by kernel_rfl) (fun _ _ _ h => h) (Or.inl ⟨by rfl, ?_⟩) ?_ ?_
      rotate_left
      · intro w'
        go_simp
        with_reducible rfl
      rotate_left
      · simp only [Act.put, List.setIfInBounds_toArray, List.set_cons_zero, List.set_cons_succ, i64_w, i32_w]
        rfl
      refine one_ (i := 7) (N := some 39) #[true, true, true, true, true, true, true, true, false, false, true, false, false] rfl rfl (by kernel_rfl) (by decide) (fun K hK => ?_)
      refine goes_ Try.func74 (by kernel_rfl) rfl #[.agg (cellsOf .u8 (ib x0)), .func (.func 75) #[.pointer (some ⟨bx, 0, none⟩)] #[]] (by rfl) rfl rfl (by simp only [List.map_toArray, List.map_cons, List.map_nil]; rfl) ?_
      have M1 := Aside0.mk (Mem.drew M1.out)
      have M2 := Aside0.mk (Mem.drew M2.out)
      have HX := Aside0.mk (HX.out.below (below_drew (Below.refl _ _)))
      have HC := Aside0.mk (Ch.step HC.out (below_drew (Below.refl _ _)))
      with_reducible refine (C1.out _ HX.out.box).mono ?_
      rintro e w5 ⟨rfl, hx5, hc5⟩
      refine ⟨_, rfl, ?_⟩
      have M1 := Aside0.mk (mem_ch M1.out hc5 (by have := HXL2.out; omega))
      have M2 := Aside0.mk (mem_ch M2.out hc5 (by have := HXL2.out; omega))
      have HX := Aside0.mk (HX.out.ch hc5 hx5)
      have HC := Aside0.mk (HC.out.trans hc5)
      clear hc5 hx5
      refine hK.out _ _ ⟨(mem_loads16 M1.out L0.out), HX.out.all.boxp⟩ (fun hHeld => ?_)
      clear hK K
      refine norm_ (a' := ?_) ?_ ?_
      rotate_left
      · show Act.put _ (some 39) _ = _
        simp only [Act.put, List.setIfInBounds_toArray, List.set_cons_zero, List.set_cons_succ, i64_w, i32_w]
        rfl
      refine one_ (i := 8) (N := some 40) #[true, true, true, true, true, true, true, true, true, false, true, false, false] rfl rfl (by kernel_rfl) (by decide) (fun K hK => ?_)
      refine goes_ Try.func22 (by kernel_rfl) rfl #[.agg (cellsOf .u8 (ib x1))] (by rfl) rfl rfl (by simp only [List.map_toArray, List.map_cons, List.map_nil]; rfl) ?_
      with_reducible refine (C2.out.q _).mono ?_
      rintro e w6 ⟨rfl, hb6⟩
      refine ⟨_, rfl, ?_⟩
      have M1 := Aside0.mk (Mem.below M1.out hb6)
      have M2 := Aside0.mk (Mem.below M2.out hb6)
      have HX := Aside0.mk (HX.out.below hb6)
      have HC := Aside0.mk (Ch.step HC.out hb6)
      clear hb6
      refine hK.out _ _ ⟨(mem_loads16 M1.out L0.out), HX.out.all.boxp⟩ (fun hHeld => ?_)
      clear hK K
      refine norm_ (a' := ?_) ?_ ?_
      rotate_left
      · show Act.put _ (some 40) _ = _
        simp only [Act.put, List.setIfInBounds_toArray, List.set_cons_zero, List.set_cons_succ, i64_w, i32_w]
        rfl
      refine one_ (i := 9) (N := some 41) #[true, true, true, true, true, true, true, true, true, true, true, false, false] rfl rfl (by kernel_rfl) (by decide) (fun K hK => ?_)
      refine goes_ Try.func24 (by kernel_rfl) rfl #[.agg (cellsOf .u8 (ib x2))] (by rfl) rfl rfl (by simp only [List.map_toArray, List.map_cons, List.map_nil]; rfl) ?_
      with_reducible refine (C3.out _).mono ?_
      rintro e w7 ⟨rfl, hb7⟩
      refine ⟨_, rfl, ?_⟩
      have M1 := Aside0.mk (Mem.below M1.out hb7)
      have M2 := Aside0.mk (Mem.below M2.out hb7)
      have HX := Aside0.mk (HX.out.below hb7)
      have HC := Aside0.mk (Ch.step HC.out hb7)
      clear hb7
      refine hK.out _ _ ⟨(mem_loads16 M1.out L0.out), HX.out.all.boxp⟩ (fun hHeld => ?_)
      clear hK K
      refine norm_ (a' := ?_) ?_ ?_
      rotate_left
      · show Act.put _ (some 41) _ = _
        simp only [Act.put, List.setIfInBounds_toArray, List.set_cons_zero, List.set_cons_succ, i64_w, i32_w]
        rfl
      refine one_ (i := 11) (N := some 43) #[true, true, true, true, true, true, true, true, true, true, true, true, false] rfl rfl (by kernel_rfl) (by decide) (fun K hK => ?_)
      refine goes_ Try.func73 (by kernel_rfl) rfl #[.pointer (some ⟨g, 0, none⟩), .agg (cellsOf .u8 (ib x3)), .int .i64 (r1 : Int)] (by rfl) rfl rfl (by simp only [List.map_toArray, List.map_cons, List.map_nil]; rfl) ?_
      with_reducible refine (C4.out _ HX.out.all).mono ?_
      rintro e w8 ⟨rfl, hb8⟩
      refine ⟨_, rfl, ?_⟩
      have M1 := Aside0.mk (Mem.below M1.out hb8)
      have M2 := Aside0.mk (Mem.below M2.out hb8)
      have HX := Aside0.mk (HX.out.below hb8)
      have HC := Aside0.mk (Ch.step HC.out hb8)
      clear hb8
      refine hK.out _ _ ⟨(mem_loads16 M1.out L0.out), HX.out.all.boxp⟩ (fun hHeld => ?_)
      clear hK K
      refine norm_ (a' := ?_) ?_ ?_
      rotate_left
      · show Act.put _ (some 43) _ = _
        simp only [Act.put, List.setIfInBounds_toArray, List.set_cons_zero, List.set_cons_succ, i64_w, i32_w]
        rfl
      refine last_ (i := 12) (N := none) #[true, true, true, true, true, true, true, true, true, true, true, true, true] rfl rfl (by kernel_rfl) (by decide) (fun K hK => ?_)
      refine skip_ (w1 := ?_) (by rfl) rfl ?_ ?_
      rotate_left
      · refine store16_yields (l2 := ib x4) (x := .tmp 3) (y := .tmp 43) M1.out L0.out L4.out ?_ ?_ ?_ <;> rfl
      have M2 := Aside0.mk (Mem.row M2.out (g' := w.heap.size) (by omega) (cellsOf .u8 (ib x4)))
      have M1 := Aside0.mk (Mem.put M1.out (ib x4))
      have HX := Aside0.mk (HX.out.row (b := w.heap.size) (by omega) (cellsOf .u8 (ib x4)))
      have HC := Aside0.mk (Ch.row0 HC.out (b := w.heap.size) (by omega) (cellsOf .u8 (ib x4)))
      refine hK.out _ _ ?_
      clear hK K
      refine done_ (by kernel_rfl) ?_
      go_wp2
      go_roundg k1
      case measure => omega
      case rel => exact ⟨r1, HJ.out, by first | rw [HNX.out] | rfl, ⟨by rw [HX4.out]; exact M1.out⟩, M2, HX, HC⟩
end Go.Proofs.Ytpdikfmdnlhllaa.Aes
