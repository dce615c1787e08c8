/-
  Merged texts, what is reached of them: RefBlk, AesTell: walks and plain lemmas; no condition.
-/
import Derived.Test.YtpdikfmdnlhllaaAtB
namespace Go.Proofs.Ytpdikfmdnlhllaa.Aes
open Go.RowKit Go.Proofs.Ytpdikfmdnlhllaa.PNib Go.Proofs.YtpdikfmdnlhllaaW.PrintWords Go.Proofs.YtpdikfmdnlhllaaW.PrintLast Go.Proofs.YtpdikfmdnlhllaaW.PrintMore Byte Sl Arr Mem Gives ArrEq Mat AesMath AesMov AesLin HandKit
set_option linter.unusedVariables false
set_option linter.unusedSimpArgs false
abbrev FR (W : World) (b : Nat) (A : Option Addr) (ks : List (List B)) : Prop := Kd.F (Kd.slice 5 (Kd.int .u8)) W (fun k => b ≤ k) A ks.length (ks.map ib)
theorem FR.below {W w' : World} {b : Nat} {A : Option Addr} {ks : List (List B)} (h : FR W b A ks) (hb : Below W.heap.size W w') : FR w' b A ks := Kd.F_below h hb
theorem FR.row {W : World} {b : Nat} {A : Option Addr} {ks : List (List B)} (h : FR W b A ks) {g : Nat} (hg : g < b) (cs : Array Value) : FR (W.setRow g cs) b A ks :=
  Kd.F_grown h (grown_setRow W g cs) (fun k hk e => by have := Option.some.inj e; omega)
theorem refHead {W : World} {b : Nat} {A : Option Addr} {ks : List (List B)} (h : FR W b A ks) (r : Nat) (hr : r < ks.length) (h16 : (keyAt ks r).length = 16) : ∃ ad K d, A = some ad ∧ W.cell? (ad.add r) = some (.slice K 16 d) ∧ 16 ≤ d ∧ Kd.C (Kd.int .u8) W K 16 (ib (keyAt ks r)) := by
  obtain ⟨ad, K, d, rfl, h1, h2, h3⟩ := RK.head h r hr
  rw [h16] at h1 h2 h3
  exact ⟨ad, K, d, rfl, h1, h2, h3⟩
theorem rowN (n la N2 : Nat) (h1 : N2 = n + 2) (h2 : la = n + 1) (hn : n ≤ 100) : wrap64 ((N2 : Int) - 1) = (la : Int) ∧ IntKind.i64.wrap ((N2 : Int) - 1) = (la : Int) ∧ wrap64 ((N2 : Int) - 2) = (n : Int) ∧ (0 : Int) ≤ (la : Int) ∧ (la : Int) < (N2 : Int) ∧ (0 : Int) < (N2 : Int) := by
  refine ⟨?_, ?_, ?_, ?_, ?_, ?_⟩
  · unfold wrap64; omega
  · rw [IntKind.wrap_i64]; omega
  · unfold wrap64; omega
  · omega
  · omega
  · omega
set_option maxHeartbeats 4000000 in
set_option maxRecDepth 100000 in
theorem rblock_c (key b : List B) (hb : b.length = 16) (hr : roundsN key.length ≠ 0) (n : Nat) (hks : (roundKeys key).length = n + 2) (hk16 : ∀ r, r < n + 2 → (keyAt (roundKeys key) r).length = 16) (hn : n ≤ 100) (A : Option Addr) (c : Nat) (hc : key.length ≤ c) (w : World) (hC : Kd.C (Kd.int .u8) w A key.length (ib key)) : Calls Try.prog 34 #[.slice A key.length c, .agg (cellsOf .u8 (ib b))] w fun e w' => e = .returned (.agg (cellsOf .u8 (ib (encB (roundKeys key) n b)))) ∧ Below w.heap.size w w' := by
  have HC := Aside0.mk hC
  have CE := Aside0.mk (fun W hC => rexpand_ok key hr A c hc W hC)
  have M1 := Aside0.mk (Mem.alloc (Mem.new .u8 w 31 (ib b)) (.cells (cellsOf .u8 z16) 31))
  have M2 := Aside0.mk (Mem.new2 .u8 w (.cells (cellsOf .u8 (ib b)) 31) 31 z16)
  have HB := Aside0.mk (below_alloc (below_alloc (Below.refl w.heap.size w) (.cells (cellsOf .u8 (ib b)) 31)) (.cells (cellsOf .u8 z16) 31))
  obtain ⟨cl, hcl⟩ : ∃ cs, cs = cellsOf .u8 (ib b) := ⟨_, rfl⟩
  rw [← hcl] at M1 M2 HB ⊢
  have HCL := Aside0.mk hcl
  obtain ⟨N2, hN2⟩ : ∃ z, z = n + 2 := ⟨_, rfl⟩
  obtain ⟨la, hla⟩ : ∃ z, z = n + 1 := ⟨_, rfl⟩
  have HLEN := Aside0.mk (show (roundKeys key).length = N2 by rw [hks, hN2])
  have HK16 := Aside0.mk (fun r (h : r < N2) => hk16 r (by rw [← hN2]; exact h))
  have HNN := Aside0.mk (rowN n la N2 hN2 hla hn)
  have HLA := Aside0.mk (And.intro hN2 (And.intro hla hn))
  generalize roundKeys key = ks at *
  clear hC hcl hks hk16 hr hN2 hla hn
  go_enter Try.func34, Try.ntmps34
  go_upto_region 4 with (first
    | (go_at_call 19; go_loud ((refine (CE.out _ (Kd.C_below HC.out HB.out)).mono ?_); rintro e wr ⟨v, rfl, hb1, A1, c1, rfl, hc1, hF⟩; rw [HLEN.out]; obtain ⟨N0, hF0, hlt⟩ : ∃ N0, FR wr N0 A1 ks ∧ w.heap.size + 1 < N0 := ⟨_, hF, M2.out.lt⟩; have M1 := Aside0.mk (Mem.below M1.out hb1); have M2 := Aside0.mk (Mem.below M2.out hb1); have HB := Aside0.mk (below_step HB.out hb1); have HF := Aside0.mk hF0; clear hb1 hF hc1 hF0)))
  have hq1 := HNN.out.1
  have hq2 := HNN.out.2.2.1
  have hq3 := HNN.out.2.2.2.1
  have hq4 := HNN.out.2.2.2.2.1
  have hq5 := HNN.out.2.2.2.2.2
  have hq6 : 0 < N2 := by rw [HLA.out.1]; exact Nat.succ_pos _
  obtain ⟨ad, kA, d, rfl, hxk, hd16, hck⟩ := refHead HF.out 0 (by rw [HLEN.out]; exact (show 0 < N2 by rw [HLA.out.1]; exact Nat.succ_pos _)) (HK16.out 0 (show 0 < N2 by rw [HLA.out.1]; exact Nat.succ_pos _))
  have HKL := Aside0.mk (HK16.out 0 (show 0 < N2 by rw [HLA.out.1]; exact Nat.succ_pos _))
  obtain ⟨kr, ekr⟩ : ∃ z, z = keyAt ks 0 := ⟨_, rfl⟩
  rw [← ekr] at hck HKL
  have HXK := Aside0.mk (show World.cell? _ ad = some (.slice kA 16 d) from by have h := hxk; rwa [show ad.add 0 = ad by simp [Addr.add]] at h)
  have HCK := Aside0.mk hck
  have HKD := Aside0.mk hd16
  clear hxk hck hd16
  obtain ⟨x0, e0⟩ : ∃ z, z = b := ⟨_, rfl⟩
  have l0 : x0.length = 16 := by rw [e0]; exact hb
  obtain ⟨x1, e1⟩ : ∃ z, z = xorL x0 kr := ⟨_, rfl⟩
  have l1 : x1.length = 16 := by rw [e1, xorL_length, l0]
  have CD0 := Aside0.mk (fun (W : World) (h : Kd.C (Kd.int .u8) W kA 16 (ib kr)) => show Calls Try.prog 36 #[.agg (cellsOf .u8 (ib x0)), .slice kA 16 d] W fun e w' => e = .returned (.agg (cellsOf .u8 (ib x1))) ∧ Below W.heap.size W w' from by rw [e1]; exact raddL_c x0 kr l0 HKL.out kA d W h HKD.out)
  have HE := Aside0.mk (show x1 = encTo ks b 0 by rw [e1, e0, ekr] <;> rfl)
  have L0 := Aside0.mk (show (ib x0).length = 16 by rw [ib_length, l0])
  have LX := Aside0.mk (show (ib x1).length = 16 by rw [ib_length, l1])
  rw [← e0] at M1
  have HBR := Aside0.mk (Below.refl (World.heap wr).size wr)
  clear e0 l0 e1 l1 ekr
  have hl0 := mem_loads16 (Mem.drew M1.out) L0.out
  have hl1 := pw_cell_below (below_drew HBR.out) HXK.out
  refine start_ (n := 6) (S := fun w' => (loadVar 31 ⟨w.heap.size, 0, none⟩).run Try.prog w' = .ok (.agg (cellsOf .u8 (ib x0))) w' ∧ w'.cell? ad = some (.slice kA 16 d)) (ds := [5]) #[false, false, false, false, false, false] (by kernel_rfl) rfl rfl ⟨hl0, hl1⟩ (fun hHeld => ?_)
  refine pure_ (i := 1) (N := some 17) (v := ?_) (a' := ?_) #[false, true, false, false, false, false] rfl rfl (by kernel_rfl) (fun _ _ _ h => h) (Or.inl ⟨by rfl, ?_⟩) ?_ ?_
  rotate_left
  · intro w'
    go_simp
    with_reducible rfl
  rotate_left
  · simp only [Act.put, List.setIfInBounds_toArray, List.set_cons_zero, List.set_cons_succ, i64_w, i32_w]
    rfl
  refine pure_ (i := 2) (N := some 18) (v := ?_) (a' := ?_) #[false, true, true, false, false, false] rfl rfl (by kernel_rfl) (fun _ _ _ h => h) (Or.inl ⟨by rfl, ?_⟩) ?_ ?_
  rotate_left
  · intro w'
    go_simp
    with_reducible rfl
  rotate_left
  · simp only [Act.put, List.setIfInBounds_toArray, List.set_cons_zero, List.set_cons_succ, i64_w, i32_w]
    rfl
  refine take_ (i := 0) (N := some 16) (v := ?_) (a' := ?_) #[true, true, true, false, false, false] rfl rfl (by kernel_rfl) (fun _ _ _ h => h) (Or.inl ⟨by rfl, ?_⟩) hHeld ?_ ?_
  rotate_left
  · rintro w' ⟨s0, s1⟩
    refine (load_yields rfl rfl s0).trans ?_
    with_reducible rfl
  rotate_left
  · simp only [Act.put, List.setIfInBounds_toArray, List.set_cons_zero, List.set_cons_succ, i64_w, i32_w]
    rfl
  refine take_ (i := 3) (N := some 19) (v := ?_) (a' := ?_) #[true, true, true, true, false, false] rfl rfl (by kernel_rfl) (fun _ _ _ h => h) (Or.inl ⟨by rfl, ?_⟩) hHeld ?_ ?_
  rotate_left
  · rintro w' ⟨s0, s1⟩
    go_simp
    with_reducible rfl
  rotate_left
  · simp only [Act.put, List.setIfInBounds_toArray, List.set_cons_zero, List.set_cons_succ, i64_w, i32_w]
    rfl
  refine one_ (i := 4) (N := some 20) #[true, true, true, true, true, false] rfl rfl (by kernel_rfl) (by decide) (fun K hK => ?_)
  refine goes_ Try.func36 (by kernel_rfl) rfl #[.agg (cellsOf .u8 (ib x0)), .slice kA 16 d] (by rfl) rfl rfl (by simp only [List.map_toArray, List.map_cons, List.map_nil]; rfl) ?_
  have M1 := Aside0.mk (Mem.drew M1.out)
  have M2 := Aside0.mk (Mem.drew M2.out)
  have HF := Aside0.mk (HF.out.below (below_drew (Below.refl _ _)))
  have HB := Aside0.mk (below_drew HB.out)
  have HBR := Aside0.mk (below_drew HBR.out)
  with_reducible refine (CD0.out _ (Kd.C_below HCK.out HBR.out)).mono ?_
  rintro e w20 ⟨rfl, hb20⟩
  refine ⟨_, rfl, ?_⟩
  have M1 := Aside0.mk (Mem.below M1.out hb20)
  have M2 := Aside0.mk (Mem.below M2.out hb20)
  have HF := Aside0.mk (HF.out.below hb20)
  have HB := Aside0.mk (below_step HB.out hb20)
  have HBR := Aside0.mk (below_step HBR.out hb20)
  clear hb20
  refine hK.out _ _ ⟨(mem_loads16 M1.out L0.out), (pw_cell_below HBR.out HXK.out)⟩ (fun hHeld => ?_)
  clear hK K
  refine norm_ (a' := ?_) ?_ ?_
  rotate_left
  · show Act.put _ (some 20) _ = _
    simp only [Act.put, List.setIfInBounds_toArray, List.set_cons_zero, List.set_cons_succ, i64_w, i32_w]
    rfl
  refine last_ (i := 5) (N := none) #[true, true, true, true, true, true] rfl rfl (by kernel_rfl) (by decide) (fun K hK => ?_)
  refine skip_ (w1 := ?_) (by rfl) rfl ?_ ?_
  rotate_left
  · refine store16_yields (l2 := ib x1) (x := .tmp 3) (y := .tmp 20) M1.out L0.out LX.out ?_ ?_ ?_ <;> rfl
  have M2 := Aside0.mk (Mem.row M2.out (g' := w.heap.size) (by omega) (cellsOf .u8 (ib x1)))
  have HF := Aside0.mk (FR.row HF.out (g := w.heap.size) (by omega) (cellsOf .u8 (ib x1)))
  have HB := Aside0.mk (below_setRow HB.out (by omega : w.heap.size ≤ w.heap.size) (cellsOf .u8 (ib x1)))
  have M1 := Aside0.mk (Mem.put M1.out (ib x1))
  refine hK.out _ _ ?_
  clear hK K
  refine done_ (by kernel_rfl) ?_
  have M1 := Aside0.mk (show Mem .u8 _ w.heap.size 31 (ib (encTo ks b 0)) by rw [← HE.out]; exact M1.out)
  clear hl0 hl1 HXK HCK HKD HKL HE HBR L0 LX CD0
  go_wp2
  go_loopg [7] n (fun kq iv w' => ∃ r : Nat, r + kq = n ∧ iv = .int .i64 ((r + 1 : Nat) : Int) ∧ Aside0 (Mem .u8 w' w.heap.size 31 (ib (encTo ks b r))) ∧ Aside0 (Mem .u8 w' (w.heap.size + 1) 31 z16) ∧ Aside0 (FR w' N0 (some ad) ks) ∧ Aside0 (Below w.heap.size w w'))
  case atStart => exact ⟨0, by omega, rfl, M1, M2, HF, HB⟩
  case round =>
    clear M1 M2 HF HB
    obtain ⟨r, hr, rfl, M1, M2, HF, HB⟩ := hrel
    obtain ⟨r1, hr1⟩ : ∃ z, z = r + 1 := ⟨_, rfl⟩
    rw [← hr1]
    cases gk with
    | zero =>
      obtain rfl : r = n := by omega
      obtain rfl : r1 = la := by rw [hr1, HLA.out.2.1]
      have hnl : ¬ (r1 : Int) < (r1 : Int) := Int.lt_irrefl _
      clear hr
      have HR1 := Aside0.mk hr1
      clear hr1
      obtain ⟨ad', kA, d, ead, hxk, hd16, hck⟩ := refHead HF.out r1 (by rw [HLEN.out]; exact (show r1 < N2 by rw [HLA.out.1, HR1.out]; exact Nat.lt_succ_self _)) (HK16.out r1 (show r1 < N2 by rw [HLA.out.1, HR1.out]; exact Nat.lt_succ_self _))
      obtain rfl := Option.some.inj ead
      have HKL := Aside0.mk (HK16.out r1 (show r1 < N2 by rw [HLA.out.1, HR1.out]; exact Nat.lt_succ_self _))
      obtain ⟨kr, ekr⟩ : ∃ z, z = keyAt ks r1 := ⟨_, rfl⟩
      rw [← ekr] at hck HKL
      have HXK := Aside0.mk (show World.cell? _ (ad.add r1) = some (.slice kA 16 d) from hxk)
      have HCK := Aside0.mk hck
      have HKD := Aside0.mk hd16
      clear hxk hck hd16 ead
      obtain ⟨x0, e0⟩ : ∃ z, z = encTo ks b r := ⟨_, rfl⟩
      have l0 : x0.length = 16 := by rw [e0]; exact encTo_length ks b hb r
      obtain ⟨x1, e1⟩ : ∃ z, z = x0.map subB := ⟨_, rfl⟩
      have l1 : x1.length = 16 := by rw [e1, List.length_map, l0]
      have CD0 := Aside0.mk (fun (W : World) => show Calls Try.prog 77 #[.agg (cellsOf .u8 (ib x0))] W fun e w' => e = .returned (.agg (cellsOf .u8 (ib x1))) ∧ Below W.heap.size W w' from by rw [e1]; exact rsubL_c x0 l0 W)
      obtain ⟨x2, e2⟩ : ∃ z, z = rowsB x1 := ⟨_, rfl⟩
      have l2 : x2.length = 16 := by rw [e2]; exact rowsB_length _
      have CD1 := Aside0.mk (fun (W : World) => show Calls Try.prog 23 #[.agg (cellsOf .u8 (ib x1))] W fun e w' => e = .returned (.agg (cellsOf .u8 (ib x2))) ∧ Below W.heap.size W w' from by rw [e2]; exact (rrowsB_c x1 l1).q W)
      obtain ⟨x3, e3⟩ : ∃ z, z = xorL x2 kr := ⟨_, rfl⟩
      have l3 : x3.length = 16 := by rw [e3, xorL_length, l2]
      have CD2 := Aside0.mk (fun (W : World) (h : Kd.C (Kd.int .u8) W kA 16 (ib kr)) => show Calls Try.prog 36 #[.agg (cellsOf .u8 (ib x2)), .slice kA 16 d] W fun e w' => e = .returned (.agg (cellsOf .u8 (ib x3))) ∧ Below W.heap.size W w' from by rw [e3]; exact raddL_c x2 kr l2 HKL.out kA d W h HKD.out)
      have HE := Aside0.mk (show x3 = xorL (rowsB ((encTo ks b r).map subB)) (keyAt ks r1) by rw [e3, e2, e1, e0, ekr] <;> rfl)
      have L0 := Aside0.mk (show (ib x0).length = 16 by rw [ib_length, l0])
      have LX := Aside0.mk (show (ib x3).length = 16 by rw [ib_length, l3])
      rw [← e0] at M1
      have HBR := Aside0.mk (Below.refl (World.heap wr).size wr)
      clear e0 l0 e1 l1 e2 l2 e3 l3 ekr
      have hl0 := mem_loads16 (Mem.drew M1.out) L0.out
      have hl1 := pw_cell_below (below_drew HBR.out) HXK.out
      have HV := Aside0.mk (show (Ending.returned (.agg (cellsOf .u8 (ib x3)))) = .returned (.agg (cellsOf .u8 (ib (encB ks r b)))) by rw [HE.out, HR1.out]; rfl)
      go_wp2
      refine start_ (n := 11) (S := fun w' => (loadVar 31 ⟨w.heap.size, 0, none⟩).run Try.prog w' = .ok (.agg (cellsOf .u8 (ib x0))) w' ∧ w'.cell? (ad.add r1) = some (.slice kA 16 d)) (ds := [10]) #[false, false, false, false, false, false, false, false, false, false, false] (by kernel_rfl) rfl rfl ⟨hl0, hl1⟩ (fun hHeld => ?_)
      refine pure_ (i := 3) (N := some 40) (v := ?_) (a' := ?_) #[false, false, false, true, false, false, false, false, false, false, false] rfl rfl (by kernel_rfl) (fun _ _ _ h => h) (Or.inl ⟨by rfl, ?_⟩) ?_ ?_
      rotate_left
      · intro w'
        go_simp
        with_reducible rfl
      rotate_left
      · simp only [Act.put, List.setIfInBounds_toArray, List.set_cons_zero, List.set_cons_succ, i64_w, i32_w]
        rfl
      refine pure_ (i := 4) (N := some 41) (v := ?_) (a' := ?_) #[false, false, false, true, true, false, false, false, false, false, false] rfl rfl (by kernel_rfl) (fun _ _ _ h => h) (Or.inl ⟨by rfl, ?_⟩) ?_ ?_
      rotate_left
      · intro w'
        go_simp
        with_reducible rfl
      rotate_left
      · simp only [Act.put, List.setIfInBounds_toArray, List.set_cons_zero, List.set_cons_succ, i64_w, i32_w]
        rfl
      refine pure_ (i := 5) (N := some 42) (v := ?_) (a' := ?_) #[false, false, false, true, true, true, false, false, false, false, false] rfl rfl (by kernel_rfl) (fun _ _ _ h => h) (Or.inl ⟨by rfl, ?_⟩) ?_ ?_
      rotate_left
      · intro w'
        go_simp
        with_reducible rfl
      rotate_left
      · simp only [Act.put, List.setIfInBounds_toArray, List.set_cons_zero, List.set_cons_succ, i64_w, i32_w]
        rfl
      refine pure_ (i := 6) (N := some 43) (v := ?_) (a' := ?_) #[false, false, false, true, true, true, true, false, false, false, false] rfl rfl (by kernel_rfl) (fun _ _ _ h => h) (Or.inl ⟨by rfl, ?_⟩) ?_ ?_
      rotate_left
      · intro w'
        go_simp
        with_reducible rfl
      rotate_left
      · simp only [Act.put, List.setIfInBounds_toArray, List.set_cons_zero, List.set_cons_succ, i64_w, i32_w]
        rfl
      refine pure_ (i := 7) (N := some 44) (v := ?_) (a' := ?_) #[false, false, false, true, true, true, true, true, false, false, false] rfl rfl (by kernel_rfl) (fun _ _ _ h => h) (Or.inl ⟨by rfl, ?_⟩) ?_ ?_
      rotate_left
      · intro w'
        go_simp
        with_reducible rfl
      rotate_left
      · simp only [Act.put, List.setIfInBounds_toArray, List.set_cons_zero, List.set_cons_succ, i64_w, i32_w]
        rfl
      refine take_ (i := 0) (N := some 37) (v := ?_) (a' := ?_) #[true, false, false, true, true, true, true, true, false, false, false] rfl rfl (by kernel_rfl) (fun _ _ _ h => h) (Or.inl ⟨by rfl, ?_⟩) hHeld ?_ ?_
      rotate_left
      · rintro w' ⟨s0, s1⟩
        refine (load_yields rfl rfl s0).trans ?_
        with_reducible rfl
      rotate_left
      · simp only [Act.put, List.setIfInBounds_toArray, List.set_cons_zero, List.set_cons_succ, i64_w, i32_w]
        rfl
      refine take_ (i := 8) (N := some 45) (v := ?_) (a' := ?_) #[true, false, false, true, true, true, true, true, true, false, false] rfl rfl (by kernel_rfl) (fun _ _ _ h => h) (Or.inl ⟨by rfl, ?_⟩) hHeld ?_ ?_
      rotate_left
      · rintro w' ⟨s0, s1⟩
        go_simp
        with_reducible rfl
      rotate_left
      · simp only [Act.put, List.setIfInBounds_toArray, List.set_cons_zero, List.set_cons_succ, i64_w, i32_w]
        rfl
      refine one_ (i := 1) (N := some 38) #[true, true, false, true, true, true, true, true, true, false, false] rfl rfl (by kernel_rfl) (by decide) (fun K hK => ?_)
      refine goes_ Try.func77 (by kernel_rfl) rfl #[.agg (cellsOf .u8 (ib x0))] (by rfl) rfl rfl (by simp only [List.map_toArray, List.map_cons, List.map_nil]; rfl) ?_
      have M1 := Aside0.mk (Mem.drew M1.out)
      have M2 := Aside0.mk (Mem.drew M2.out)
      have HF := Aside0.mk (HF.out.below (below_drew (Below.refl _ _)))
      have HB := Aside0.mk (below_drew HB.out)
      have HBR := Aside0.mk (below_drew HBR.out)
      with_reducible refine (CD0.out _).mono ?_
      rintro e w20 ⟨rfl, hb20⟩
      refine ⟨_, rfl, ?_⟩
      have M1 := Aside0.mk (Mem.below M1.out hb20)
      have M2 := Aside0.mk (Mem.below M2.out hb20)
      have HF := Aside0.mk (HF.out.below hb20)
      have HB := Aside0.mk (below_step HB.out hb20)
      have HBR := Aside0.mk (below_step HBR.out hb20)
      clear hb20
      refine hK.out _ _ ⟨(mem_loads16 M1.out L0.out), (pw_cell_below HBR.out HXK.out)⟩ (fun hHeld => ?_)
      clear hK K
      refine norm_ (a' := ?_) ?_ ?_
      rotate_left
      · show Act.put _ (some 38) _ = _
        simp only [Act.put, List.setIfInBounds_toArray, List.set_cons_zero, List.set_cons_succ, i64_w, i32_w]
        rfl
      refine one_ (i := 2) (N := some 39) #[true, true, true, true, true, true, true, true, true, false, false] rfl rfl (by kernel_rfl) (by decide) (fun K hK => ?_)
      refine goes_ Try.func23 (by kernel_rfl) rfl #[.agg (cellsOf .u8 (ib x1))] (by rfl) rfl rfl (by simp only [List.map_toArray, List.map_cons, List.map_nil]; rfl) ?_
      with_reducible refine (CD1.out _).mono ?_
      rintro e w21 ⟨rfl, hb21⟩
      refine ⟨_, rfl, ?_⟩
      have M1 := Aside0.mk (Mem.below M1.out hb21)
      have M2 := Aside0.mk (Mem.below M2.out hb21)
      have HF := Aside0.mk (HF.out.below hb21)
      have HB := Aside0.mk (below_step HB.out hb21)
      have HBR := Aside0.mk (below_step HBR.out hb21)
      clear hb21
      refine hK.out _ _ ⟨(mem_loads16 M1.out L0.out), (pw_cell_below HBR.out HXK.out)⟩ (fun hHeld => ?_)
      clear hK K
      refine norm_ (a' := ?_) ?_ ?_
      rotate_left
      · show Act.put _ (some 39) _ = _
        simp only [Act.put, List.setIfInBounds_toArray, List.set_cons_zero, List.set_cons_succ, i64_w, i32_w]
        rfl
      refine one_ (i := 9) (N := some 46) #[true, true, true, true, true, true, true, true, true, true, false] rfl rfl (by kernel_rfl) (by decide) (fun K hK => ?_)
      refine goes_ Try.func36 (by kernel_rfl) rfl #[.agg (cellsOf .u8 (ib x2)), .slice kA 16 d] (by rfl) rfl rfl (by simp only [List.map_toArray, List.map_cons, List.map_nil]; rfl) ?_
      with_reducible refine (CD2.out _ (Kd.C_below HCK.out HBR.out)).mono ?_
      rintro e w22 ⟨rfl, hb22⟩
      refine ⟨_, rfl, ?_⟩
      have M1 := Aside0.mk (Mem.below M1.out hb22)
      have M2 := Aside0.mk (Mem.below M2.out hb22)
      have HF := Aside0.mk (HF.out.below hb22)
      have HB := Aside0.mk (below_step HB.out hb22)
      have HBR := Aside0.mk (below_step HBR.out hb22)
      clear hb22
      refine hK.out _ _ ⟨(mem_loads16 M1.out L0.out), (pw_cell_below HBR.out HXK.out)⟩ (fun hHeld => ?_)
      clear hK K
      refine norm_ (a' := ?_) ?_ ?_
      rotate_left
      · show Act.put _ (some 46) _ = _
        simp only [Act.put, List.setIfInBounds_toArray, List.set_cons_zero, List.set_cons_succ, i64_w, i32_w]
        rfl
      refine last_ (i := 10) (N := none) #[true, true, true, true, true, true, true, true, true, true, true] rfl rfl (by kernel_rfl) (by decide) (fun K hK => ?_)
      refine skip_ (w1 := ?_) (by rfl) rfl ?_ ?_
      rotate_left
      · refine store16_yields (l2 := ib x3) (x := .tmp 4) (y := .tmp 46) M2.out rfl LX.out ?_ ?_ ?_ <;> rfl
      have M1 := Aside0.mk (Mem.row M1.out (g' := (w.heap.size + 1)) (by omega) (cellsOf .u8 (ib x3)))
      have HF := Aside0.mk (FR.row HF.out (g := (w.heap.size + 1)) (by omega) (cellsOf .u8 (ib x3)))
      have HB := Aside0.mk (below_setRow HB.out (by omega : w.heap.size ≤ (w.heap.size + 1)) (cellsOf .u8 (ib x3)))
      have M2 := Aside0.mk (Mem.put M2.out (ib x3))
      refine hK.out _ _ ?_
      clear hK K
      refine done_ (by kernel_rfl) ?_
      go_wp2
      refine bodyPost_ret (v := .agg (cellsOf .u8 (ib x3))) (results_cell_row rfl _ _ _ _ _ _ _ rfl M2.out Try.underlying31 rfl (by rw [cellsOf_size, LX.out]; exact info16)) rfl ⟨HV.out, HB.out⟩
    | succ k1 =>
      have HJ := Aside0.mk (show r1 + k1 = n by omega)
      have HR1 := Aside0.mk hr1
      have hlt1 : (r1 : Int) < (la : Int) := by have h1 := HLA.out.2.1; omega
      have HN2 := Aside0.mk (show r1 < N2 by have h1 := HLA.out.1; omega)
      have e9 := add64 r1 (by have h1 := HLA.out.2.2; omega)
      clear hr hr1
      obtain ⟨ad', kA, d, ead, hxk, hd16, hck⟩ := refHead HF.out r1 (by rw [HLEN.out]; exact HN2.out) (HK16.out r1 HN2.out)
      obtain rfl := Option.some.inj ead
      have HKL := Aside0.mk (HK16.out r1 HN2.out)
      obtain ⟨kr, ekr⟩ : ∃ z, z = keyAt ks r1 := ⟨_, rfl⟩
      rw [← ekr] at hck HKL
      have HXK := Aside0.mk (show World.cell? _ (ad.add r1) = some (.slice kA 16 d) from hxk)
      have HCK := Aside0.mk hck
      have HKD := Aside0.mk hd16
      clear hxk hck hd16 ead
      obtain ⟨x0, e0⟩ : ∃ z, z = encTo ks b r := ⟨_, rfl⟩
      have l0 : x0.length = 16 := by rw [e0]; exact encTo_length ks b hb r
      obtain ⟨x1, e1⟩ : ∃ z, z = x0.map subB := ⟨_, rfl⟩
      have l1 : x1.length = 16 := by rw [e1, List.length_map, l0]
      have CD0 := Aside0.mk (fun (W : World) => show Calls Try.prog 77 #[.agg (cellsOf .u8 (ib x0))] W fun e w' => e = .returned (.agg (cellsOf .u8 (ib x1))) ∧ Below W.heap.size W w' from by rw [e1]; exact rsubL_c x0 l0 W)
      obtain ⟨x2, e2⟩ : ∃ z, z = rowsB x1 := ⟨_, rfl⟩
      have l2 : x2.length = 16 := by rw [e2]; exact rowsB_length _
      have CD1 := Aside0.mk (fun (W : World) => show Calls Try.prog 23 #[.agg (cellsOf .u8 (ib x1))] W fun e w' => e = .returned (.agg (cellsOf .u8 (ib x2))) ∧ Below W.heap.size W w' from by rw [e2]; exact (rrowsB_c x1 l1).q W)
      obtain ⟨x3, e3⟩ : ∃ z, z = colsB x2 := ⟨_, rfl⟩
      have l3 : x3.length = 16 := by rw [e3]; exact colsB_length _
      have CD2 := Aside0.mk (fun (W : World) => show Calls Try.prog 25 #[.agg (cellsOf .u8 (ib x2))] W fun e w' => e = .returned (.agg (cellsOf .u8 (ib x3))) ∧ Below W.heap.size W w' from by rw [e3]; exact rcols_c x2 l2 W)
      obtain ⟨x4, e4⟩ : ∃ z, z = xorL x3 kr := ⟨_, rfl⟩
      have l4 : x4.length = 16 := by rw [e4, xorL_length, l3]
      have CD3 := Aside0.mk (fun (W : World) (h : Kd.C (Kd.int .u8) W kA 16 (ib kr)) => show Calls Try.prog 36 #[.agg (cellsOf .u8 (ib x3)), .slice kA 16 d] W fun e w' => e = .returned (.agg (cellsOf .u8 (ib x4))) ∧ Below W.heap.size W w' from by rw [e4]; exact raddL_c x3 kr l3 HKL.out kA d W h HKD.out)
      have HE := Aside0.mk (show x4 = xorL (colsB (rowsB ((encTo ks b r).map subB))) (keyAt ks r1) by rw [e4, e3, e2, e1, e0, ekr] <;> rfl)
      have L0 := Aside0.mk (show (ib x0).length = 16 by rw [ib_length, l0])
      have LX := Aside0.mk (show (ib x4).length = 16 by rw [ib_length, l4])
      rw [← e0] at M1
      have HBR := Aside0.mk (Below.refl (World.heap wr).size wr)
      clear e0 l0 e1 l1 e2 l2 e3 l3 e4 l4 ekr
      have hl0 := mem_loads16 (Mem.drew M1.out) L0.out
      have hl1 := pw_cell_below (below_drew HBR.out) HXK.out
      have HX4 := Aside0.mk (show encTo ks b r1 = x4 by rw [HE.out, HR1.out]; rfl)
      have hi0 : (0 : Int) ≤ (r1 : Int) := Int.natCast_nonneg _
      have hi1 : (r1 : Int) < (N2 : Int) := Int.ofNat_lt.2 HN2.out
      go_wp2
      refine start_ (n := 10) (S := fun w' => (loadVar 31 ⟨w.heap.size, 0, none⟩).run Try.prog w' = .ok (.agg (cellsOf .u8 (ib x0))) w' ∧ w'.cell? (ad.add r1) = some (.slice kA 16 d)) (ds := [9]) #[false, false, false, false, false, false, false, false, false, false] (by kernel_rfl) rfl rfl ⟨hl0, hl1⟩ (fun hHeld => ?_)
      refine pure_ (i := 4) (N := some 32) (v := ?_) (a' := ?_) #[false, false, false, false, true, false, false, false, false, false] rfl rfl (by kernel_rfl) (fun _ _ _ h => h) (Or.inl ⟨by rfl, ?_⟩) ?_ ?_
      rotate_left
      · intro w'
        go_simp
        with_reducible rfl
      rotate_left
      · simp only [Act.put, List.setIfInBounds_toArray, List.set_cons_zero, List.set_cons_succ, i64_w, i32_w]
        rfl
      refine pure_ (i := 5) (N := some 33) (v := ?_) (a' := ?_) #[false, false, false, false, true, true, false, false, false, false] rfl rfl (by kernel_rfl) (fun _ _ _ h => h) (Or.inl ⟨by rfl, ?_⟩) ?_ ?_
      rotate_left
      · intro w'
        go_simp
        with_reducible rfl
      rotate_left
      · simp only [Act.put, List.setIfInBounds_toArray, List.set_cons_zero, List.set_cons_succ, i64_w, i32_w]
        rfl
      refine pure_ (i := 6) (N := some 34) (v := ?_) (a' := ?_) #[false, false, false, false, true, true, true, false, false, false] rfl rfl (by kernel_rfl) (fun _ _ _ h => h) (Or.inl ⟨by rfl, ?_⟩) ?_ ?_
      rotate_left
      · intro w'
        go_simp
        with_reducible rfl
      rotate_left
      · simp only [Act.put, List.setIfInBounds_toArray, List.set_cons_zero, List.set_cons_succ, i64_w, i32_w]
        rfl
      refine take_ (i := 0) (N := some 28) (v := ?_) (a' := ?_) #[true, false, false, false, true, true, true, false, false, false] rfl rfl (by kernel_rfl) (fun _ _ _ h => h) (Or.inl ⟨by rfl, ?_⟩) hHeld ?_ ?_
      rotate_left
      · rintro w' ⟨s0, s1⟩
        refine (load_yields rfl rfl s0).trans ?_
        with_reducible rfl
      rotate_left
      · simp only [Act.put, List.setIfInBounds_toArray, List.set_cons_zero, List.set_cons_succ, i64_w, i32_w]
        rfl
      refine take_ (i := 7) (N := some 35) (v := ?_) (a' := ?_) #[true, false, false, false, true, true, true, true, false, false] rfl rfl (by kernel_rfl) (fun _ _ _ h => h) (Or.inl ⟨by rfl, ?_⟩) hHeld ?_ ?_
      rotate_left
      · rintro w' ⟨s0, s1⟩
        go_simp
        with_reducible rfl
      rotate_left
      · simp only [Act.put, List.setIfInBounds_toArray, List.set_cons_zero, List.set_cons_succ, i64_w, i32_w]
        rfl
      refine one_ (i := 1) (N := some 29) #[true, true, false, false, true, true, true, true, false, false] rfl rfl (by kernel_rfl) (by decide) (fun K hK => ?_)
      refine goes_ Try.func77 (by kernel_rfl) rfl #[.agg (cellsOf .u8 (ib x0))] (by rfl) rfl rfl (by simp only [List.map_toArray, List.map_cons, List.map_nil]; rfl) ?_
      have M1 := Aside0.mk (Mem.drew M1.out)
      have M2 := Aside0.mk (Mem.drew M2.out)
      have HF := Aside0.mk (HF.out.below (below_drew (Below.refl _ _)))
      have HB := Aside0.mk (below_drew HB.out)
      have HBR := Aside0.mk (below_drew HBR.out)
      with_reducible refine (CD0.out _).mono ?_
      rintro e w20 ⟨rfl, hb20⟩
      refine ⟨_, rfl, ?_⟩
      have M1 := Aside0.mk (Mem.below M1.out hb20)
      have M2 := Aside0.mk (Mem.below M2.out hb20)
      have HF := Aside0.mk (HF.out.below hb20)
      have HB := Aside0.mk (below_step HB.out hb20)
      have HBR := Aside0.mk (below_step HBR.out hb20)
      clear hb20
      refine hK.out _ _ ⟨(mem_loads16 M1.out L0.out), (pw_cell_below HBR.out HXK.out)⟩ (fun hHeld => ?_)
      clear hK K
      refine norm_ (a' := ?_) ?_ ?_
      rotate_left
      · show Act.put _ (some 29) _ = _
        simp only [Act.put, List.setIfInBounds_toArray, List.set_cons_zero, List.set_cons_succ, i64_w, i32_w]
        rfl
      refine one_ (i := 2) (N := some 30) #[true, true, true, false, true, true, true, true, false, false] rfl rfl (by kernel_rfl) (by decide) (fun K hK => ?_)
      refine goes_ Try.func23 (by kernel_rfl) rfl #[.agg (cellsOf .u8 (ib x1))] (by rfl) rfl rfl (by simp only [List.map_toArray, List.map_cons, List.map_nil]; rfl) ?_
      with_reducible refine (CD1.out _).mono ?_
      rintro e w21 ⟨rfl, hb21⟩
      refine ⟨_, rfl, ?_⟩
      have M1 := Aside0.mk (Mem.below M1.out hb21)
      have M2 := Aside0.mk (Mem.below M2.out hb21)
      have HF := Aside0.mk (HF.out.below hb21)
      have HB := Aside0.mk (below_step HB.out hb21)
      have HBR := Aside0.mk (below_step HBR.out hb21)
      clear hb21
      refine hK.out _ _ ⟨(mem_loads16 M1.out L0.out), (pw_cell_below HBR.out HXK.out)⟩ (fun hHeld => ?_)
      clear hK K
      refine norm_ (a' := ?_) ?_ ?_
      rotate_left
      · show Act.put _ (some 30) _ = _
        simp only [Act.put, List.setIfInBounds_toArray, List.set_cons_zero, List.set_cons_succ, i64_w, i32_w]
        rfl
      refine one_ (i := 3) (N := some 31) #[true, true, true, true, true, true, true, true, false, false] rfl rfl (by kernel_rfl) (by decide) (fun K hK => ?_)
      refine goes_ Try.func25 (by kernel_rfl) rfl #[.agg (cellsOf .u8 (ib x2))] (by rfl) rfl rfl (by simp only [List.map_toArray, List.map_cons, List.map_nil]; rfl) ?_
      with_reducible refine (CD2.out _).mono ?_
      rintro e w22 ⟨rfl, hb22⟩
      refine ⟨_, rfl, ?_⟩
      have M1 := Aside0.mk (Mem.below M1.out hb22)
      have M2 := Aside0.mk (Mem.below M2.out hb22)
      have HF := Aside0.mk (HF.out.below hb22)
      have HB := Aside0.mk (below_step HB.out hb22)
      have HBR := Aside0.mk (below_step HBR.out hb22)
      clear hb22
      refine hK.out _ _ ⟨(mem_loads16 M1.out L0.out), (pw_cell_below HBR.out HXK.out)⟩ (fun hHeld => ?_)
      clear hK K
      refine norm_ (a' := ?_) ?_ ?_
      rotate_left
      · show Act.put _ (some 31) _ = _
        simp only [Act.put, List.setIfInBounds_toArray, List.set_cons_zero, List.set_cons_succ, i64_w, i32_w]
        rfl
      refine one_ (i := 8) (N := some 36) #[true, true, true, true, true, true, true, true, true, false] rfl rfl (by kernel_rfl) (by decide) (fun K hK => ?_)
      refine goes_ Try.func36 (by kernel_rfl) rfl #[.agg (cellsOf .u8 (ib x3)), .slice kA 16 d] (by rfl) rfl rfl (by simp only [List.map_toArray, List.map_cons, List.map_nil]; rfl) ?_
      with_reducible refine (CD3.out _ (Kd.C_below HCK.out HBR.out)).mono ?_
      rintro e w23 ⟨rfl, hb23⟩
      refine ⟨_, rfl, ?_⟩
      have M1 := Aside0.mk (Mem.below M1.out hb23)
      have M2 := Aside0.mk (Mem.below M2.out hb23)
      have HF := Aside0.mk (HF.out.below hb23)
      have HB := Aside0.mk (below_step HB.out hb23)
      have HBR := Aside0.mk (below_step HBR.out hb23)
      clear hb23
      refine hK.out _ _ ⟨(mem_loads16 M1.out L0.out), (pw_cell_below HBR.out HXK.out)⟩ (fun hHeld => ?_)
      clear hK K
      refine norm_ (a' := ?_) ?_ ?_
      rotate_left
      · show Act.put _ (some 36) _ = _
        simp only [Act.put, List.setIfInBounds_toArray, List.set_cons_zero, List.set_cons_succ, i64_w, i32_w]
        rfl
      refine last_ (i := 9) (N := none) #[true, true, true, true, true, true, true, true, true, true] rfl rfl (by kernel_rfl) (by decide) (fun K hK => ?_)
      refine skip_ (w1 := ?_) (by rfl) rfl ?_ ?_
      rotate_left
      · refine store16_yields (l2 := ib x4) (x := .tmp 3) (y := .tmp 36) M1.out L0.out LX.out ?_ ?_ ?_ <;> rfl
      have M2 := Aside0.mk (Mem.row M2.out (g' := w.heap.size) (by omega) (cellsOf .u8 (ib x4)))
      have HF := Aside0.mk (FR.row HF.out (g := w.heap.size) (by omega) (cellsOf .u8 (ib x4)))
      have HB := Aside0.mk (below_setRow HB.out (by omega : w.heap.size ≤ w.heap.size) (cellsOf .u8 (ib x4)))
      have M1 := Aside0.mk (Mem.put M1.out (ib x4))
      refine hK.out _ _ ?_
      clear hK K
      refine done_ (by kernel_rfl) ?_
      go_wp2
      go_roundg k1
      case measure => omega
      case rel => exact ⟨r1, HJ.out, by first | rfl | rw [e9], ⟨by rw [HX4.out]; exact M1.out⟩, M2, HF, HB⟩
def yB (ks : List (List B)) (n : Nat) (b : List B) (j : Nat) : List B := (backB' (decTo ks n b j)).map backB
theorem yB_length (ks : List (List B)) (n : Nat) (b : List B) (j : Nat) : (yB ks n b j).length = 16 := by unfold yB; rw [List.length_map, backB'_length]
theorem sub64 (i : Nat) (h : 0 < i) (h2 : i < 1000) : wrap64 ((i : Int) - 1) = ((i - 1 : Nat) : Int) := by unfold wrap64; omega
set_option maxHeartbeats 4000000 in
set_option maxRecDepth 100000 in
theorem runblock_c (key b : List B) (hb : b.length = 16) (hr : roundsN key.length ≠ 0) (n : Nat) (hks : (roundKeys key).length = n + 2) (hk16 : ∀ r, r < n + 2 → (keyAt (roundKeys key) r).length = 16) (hn : n ≤ 100) (A : Option Addr) (c : Nat) (hc : key.length ≤ c) (w : World) (hC : Kd.C (Kd.int .u8) w A key.length (ib key)) : Calls Try.prog 35 #[.slice A key.length c, .agg (cellsOf .u8 (ib b))] w fun e w' => e = .returned (.agg (cellsOf .u8 (ib (decB (roundKeys key) n b)))) ∧ Below w.heap.size w w' := by
  have HC := Aside0.mk hC
  have CE := Aside0.mk (fun W hC => rexpand_ok key hr A c hc W hC)
  have M1 := Aside0.mk (Mem.alloc (Mem.new .u8 w 31 (ib b)) (.cells (cellsOf .u8 z16) 31))
  have M2 := Aside0.mk (Mem.new2 .u8 w (.cells (cellsOf .u8 (ib b)) 31) 31 z16)
  have HB := Aside0.mk (below_alloc (below_alloc (Below.refl w.heap.size w) (.cells (cellsOf .u8 (ib b)) 31)) (.cells (cellsOf .u8 z16) 31))
  obtain ⟨cl, hcl⟩ : ∃ cs, cs = cellsOf .u8 (ib b) := ⟨_, rfl⟩
  rw [← hcl] at M1 M2 HB ⊢
  have HCL := Aside0.mk hcl
  obtain ⟨N2, hN2⟩ : ∃ z, z = n + 2 := ⟨_, rfl⟩
  obtain ⟨la, hla⟩ : ∃ z, z = n + 1 := ⟨_, rfl⟩
  have HLEN := Aside0.mk (show (roundKeys key).length = N2 by rw [hks, hN2])
  have HK16 := Aside0.mk (fun r (h : r < N2) => hk16 r (by rw [← hN2]; exact h))
  have HNN := Aside0.mk (rowN n la N2 hN2 hla hn)
  have HLA := Aside0.mk (And.intro hN2 (And.intro hla hn))
  generalize roundKeys key = ks at *
  clear hC hcl hks hk16 hr hN2 hla hn
  go_enter Try.func35, Try.ntmps35
  go_upto_region 4 with (first
    | (go_at_call 19; go_loud ((refine (CE.out _ (Kd.C_below HC.out HB.out)).mono ?_); rintro e wr ⟨v, rfl, hb1, A1, c1, rfl, hc1, hF⟩; rw [HLEN.out]; obtain ⟨N0, hF0, hlt⟩ : ∃ N0, FR wr N0 A1 ks ∧ w.heap.size + 1 < N0 := ⟨_, hF, M2.out.lt⟩; have M1 := Aside0.mk (Mem.below M1.out hb1); have M2 := Aside0.mk (Mem.below M2.out hb1); have HB := Aside0.mk (below_step HB.out hb1); have HF := Aside0.mk hF0; clear hb1 hF hc1 hF0)))
  have hq1 := HNN.out.1
  have hq2 := HNN.out.2.2.1
  have hq3 := HNN.out.2.2.2.1
  have hq4 := HNN.out.2.2.2.2.1
  have hq5 := HNN.out.2.2.2.2.2
  have hq6 : 0 < N2 := by rw [HLA.out.1]; exact Nat.succ_pos _
  obtain ⟨ad, kA, d, rfl, hxk, hd16, hck⟩ := refHead HF.out la (by rw [HLEN.out]; exact (show la < N2 by rw [HLA.out.1, HLA.out.2.1]; exact Nat.lt_succ_self _)) (HK16.out la (show la < N2 by rw [HLA.out.1, HLA.out.2.1]; exact Nat.lt_succ_self _))
  have HKL := Aside0.mk (HK16.out la (show la < N2 by rw [HLA.out.1, HLA.out.2.1]; exact Nat.lt_succ_self _))
  obtain ⟨kr, ekr⟩ : ∃ z, z = keyAt ks la := ⟨_, rfl⟩
  rw [← ekr] at hck HKL
  have HXK := Aside0.mk (show World.cell? _ (ad.add la) = some (.slice kA 16 d) from hxk)
  have HCK := Aside0.mk hck
  have HKD := Aside0.mk hd16
  clear hxk hck hd16
  obtain ⟨x0, e0⟩ : ∃ z, z = b := ⟨_, rfl⟩
  have l0 : x0.length = 16 := by rw [e0]; exact hb
  obtain ⟨x1, e1⟩ : ∃ z, z = xorL x0 kr := ⟨_, rfl⟩
  have l1 : x1.length = 16 := by rw [e1, xorL_length, l0]
  have CD0 := Aside0.mk (fun (W : World) (h : Kd.C (Kd.int .u8) W kA 16 (ib kr)) => show Calls Try.prog 36 #[.agg (cellsOf .u8 (ib x0)), .slice kA 16 d] W fun e w' => e = .returned (.agg (cellsOf .u8 (ib x1))) ∧ Below W.heap.size W w' from by rw [e1]; exact raddL_c x0 kr l0 HKL.out kA d W h HKD.out)
  obtain ⟨x2, e2⟩ : ∃ z, z = backB' x1 := ⟨_, rfl⟩
  have l2 : x2.length = 16 := by rw [e2]; exact backB'_length _
  have CD1 := Aside0.mk (fun (W : World) => show Calls Try.prog 27 #[.agg (cellsOf .u8 (ib x1))] W fun e w' => e = .returned (.agg (cellsOf .u8 (ib x2))) ∧ Below W.heap.size W w' from by rw [e2]; exact (rbackB_c x1 l1).q W)
  obtain ⟨x3, e3⟩ : ∃ z, z = x2.map backB := ⟨_, rfl⟩
  have l3 : x3.length = 16 := by rw [e3, List.length_map, l2]
  have CD2 := Aside0.mk (fun (W : World) => show Calls Try.prog 78 #[.agg (cellsOf .u8 (ib x2))] W fun e w' => e = .returned (.agg (cellsOf .u8 (ib x3))) ∧ Below W.heap.size W w' from by rw [e3]; exact rbackL_c x2 l2 W)
  have HE := Aside0.mk (show x3 = (backB' (xorL b (keyAt ks la))).map backB by rw [e3, e2, e1, e0, ekr] <;> rfl)
  have L0 := Aside0.mk (show (ib x0).length = 16 by rw [ib_length, l0])
  have LX := Aside0.mk (show (ib x3).length = 16 by rw [ib_length, l3])
  rw [← e0] at M1
  have HBR := Aside0.mk (Below.refl (World.heap wr).size wr)
  clear e0 l0 e1 l1 e2 l2 e3 l3 ekr
  have hl0 := mem_loads16 (Mem.drew M1.out) L0.out
  have hl1 := pw_cell_below (below_drew HBR.out) HXK.out
  refine start_ (n := 11) (S := fun w' => (loadVar 31 ⟨w.heap.size, 0, none⟩).run Try.prog w' = .ok (.agg (cellsOf .u8 (ib x0))) w' ∧ w'.cell? (ad.add la) = some (.slice kA 16 d)) (ds := [10]) #[false, false, false, false, false, false, false, false, false, false, false] (by kernel_rfl) rfl rfl ⟨hl0, hl1⟩ (fun hHeld => ?_)
  refine pure_ (i := 1) (N := some 17) (v := ?_) (a' := ?_) #[false, true, false, false, false, false, false, false, false, false, false] rfl rfl (by kernel_rfl) (fun _ _ _ h => h) (Or.inl ⟨by rfl, ?_⟩) ?_ ?_
  rotate_left
  · intro w'
    go_simp
    with_reducible rfl
  rotate_left
  · simp only [Act.put, List.setIfInBounds_toArray, List.set_cons_zero, List.set_cons_succ, i64_w, i32_w]
    rfl
  refine pure_ (i := 2) (N := some 18) (v := ?_) (a' := ?_) #[false, true, true, false, false, false, false, false, false, false, false] rfl rfl (by kernel_rfl) (fun _ _ _ h => h) (Or.inl ⟨by rfl, ?_⟩) ?_ ?_
  rotate_left
  · intro w'
    go_simp
    with_reducible rfl
  rotate_left
  · simp only [Act.put, List.setIfInBounds_toArray, List.set_cons_zero, List.set_cons_succ, i64_w, i32_w]
    rfl
  refine pure_ (i := 3) (N := some 19) (v := ?_) (a' := ?_) #[false, true, true, true, false, false, false, false, false, false, false] rfl rfl (by kernel_rfl) (fun _ _ _ h => h) (Or.inl ⟨by rfl, ?_⟩) ?_ ?_
  rotate_left
  · intro w'
    go_simp
    with_reducible rfl
  rotate_left
  · simp only [Act.put, List.setIfInBounds_toArray, List.set_cons_zero, List.set_cons_succ, i64_w, i32_w]
    rfl
  refine pure_ (i := 4) (N := some 20) (v := ?_) (a' := ?_) #[false, true, true, true, true, false, false, false, false, false, false] rfl rfl (by kernel_rfl) (fun _ _ _ h => h) (Or.inl ⟨by rfl, ?_⟩) ?_ ?_
  rotate_left
  · intro w'
    go_simp
    with_reducible rfl
  rotate_left
  · simp only [Act.put, List.setIfInBounds_toArray, List.set_cons_zero, List.set_cons_succ, i64_w, i32_w]
    rfl
  refine pure_ (i := 5) (N := some 21) (v := ?_) (a' := ?_) #[false, true, true, true, true, true, false, false, false, false, false] rfl rfl (by kernel_rfl) (fun _ _ _ h => h) (Or.inl ⟨by rfl, ?_⟩) ?_ ?_
  rotate_left
  · intro w'
    go_simp
    with_reducible rfl
  rotate_left
  · simp only [Act.put, List.setIfInBounds_toArray, List.set_cons_zero, List.set_cons_succ, i64_w, i32_w]
    rfl
  refine take_ (i := 0) (N := some 16) (v := ?_) (a' := ?_) #[true, true, true, true, true, true, false, false, false, false, false] rfl rfl (by kernel_rfl) (fun _ _ _ h => h) (Or.inl ⟨by rfl, ?_⟩) hHeld ?_ ?_
  rotate_left
  · rintro w' ⟨s0, s1⟩
    refine (load_yields rfl rfl s0).trans ?_
    with_reducible rfl
  rotate_left
  · simp only [Act.put, List.setIfInBounds_toArray, List.set_cons_zero, List.set_cons_succ, i64_w, i32_w]
    rfl
  refine take_ (i := 6) (N := some 22) (v := ?_) (a' := ?_) #[true, true, true, true, true, true, true, false, false, false, false] rfl rfl (by kernel_rfl) (fun _ _ _ h => h) (Or.inl ⟨by rfl, ?_⟩) hHeld ?_ ?_
  rotate_left
  · rintro w' ⟨s0, s1⟩
    go_simp
    with_reducible rfl
  rotate_left
  · simp only [Act.put, List.setIfInBounds_toArray, List.set_cons_zero, List.set_cons_succ, i64_w, i32_w]
    rfl
  refine one_ (i := 7) (N := some 23) #[true, true, true, true, true, true, true, true, false, false, false] rfl rfl (by kernel_rfl) (by decide) (fun K hK => ?_)
  refine goes_ Try.func36 (by kernel_rfl) rfl #[.agg (cellsOf .u8 (ib x0)), .slice kA 16 d] (by rfl) rfl rfl (by simp only [List.map_toArray, List.map_cons, List.map_nil]; rfl) ?_
  have M1 := Aside0.mk (Mem.drew M1.out)
  have M2 := Aside0.mk (Mem.drew M2.out)
  have HF := Aside0.mk (HF.out.below (below_drew (Below.refl _ _)))
  have HB := Aside0.mk (below_drew HB.out)
  have HBR := Aside0.mk (below_drew HBR.out)
  with_reducible refine (CD0.out _ (Kd.C_below HCK.out HBR.out)).mono ?_
  rintro e w20 ⟨rfl, hb20⟩
  refine ⟨_, rfl, ?_⟩
  have M1 := Aside0.mk (Mem.below M1.out hb20)
  have M2 := Aside0.mk (Mem.below M2.out hb20)
  have HF := Aside0.mk (HF.out.below hb20)
  have HB := Aside0.mk (below_step HB.out hb20)
  have HBR := Aside0.mk (below_step HBR.out hb20)
  clear hb20
  refine hK.out _ _ ⟨(mem_loads16 M1.out L0.out), (pw_cell_below HBR.out HXK.out)⟩ (fun hHeld => ?_)
  clear hK K
  refine norm_ (a' := ?_) ?_ ?_
  rotate_left
  · show Act.put _ (some 23) _ = _
    simp only [Act.put, List.setIfInBounds_toArray, List.set_cons_zero, List.set_cons_succ, i64_w, i32_w]
    rfl
  refine one_ (i := 8) (N := some 24) #[true, true, true, true, true, true, true, true, true, false, false] rfl rfl (by kernel_rfl) (by decide) (fun K hK => ?_)
  refine goes_ Try.func27 (by kernel_rfl) rfl #[.agg (cellsOf .u8 (ib x1))] (by rfl) rfl rfl (by simp only [List.map_toArray, List.map_cons, List.map_nil]; rfl) ?_
  with_reducible refine (CD1.out _).mono ?_
  rintro e w21 ⟨rfl, hb21⟩
  refine ⟨_, rfl, ?_⟩
  have M1 := Aside0.mk (Mem.below M1.out hb21)
  have M2 := Aside0.mk (Mem.below M2.out hb21)
  have HF := Aside0.mk (HF.out.below hb21)
  have HB := Aside0.mk (below_step HB.out hb21)
  have HBR := Aside0.mk (below_step HBR.out hb21)
  clear hb21
  refine hK.out _ _ ⟨(mem_loads16 M1.out L0.out), (pw_cell_below HBR.out HXK.out)⟩ (fun hHeld => ?_)
  clear hK K
  refine norm_ (a' := ?_) ?_ ?_
  rotate_left
  · show Act.put _ (some 24) _ = _
    simp only [Act.put, List.setIfInBounds_toArray, List.set_cons_zero, List.set_cons_succ, i64_w, i32_w]
    rfl
  refine one_ (i := 9) (N := some 25) #[true, true, true, true, true, true, true, true, true, true, false] rfl rfl (by kernel_rfl) (by decide) (fun K hK => ?_)
  refine goes_ Try.func78 (by kernel_rfl) rfl #[.agg (cellsOf .u8 (ib x2))] (by rfl) rfl rfl (by simp only [List.map_toArray, List.map_cons, List.map_nil]; rfl) ?_
  with_reducible refine (CD2.out _).mono ?_
  rintro e w22 ⟨rfl, hb22⟩
  refine ⟨_, rfl, ?_⟩
  have M1 := Aside0.mk (Mem.below M1.out hb22)
  have M2 := Aside0.mk (Mem.below M2.out hb22)
  have HF := Aside0.mk (HF.out.below hb22)
  have HB := Aside0.mk (below_step HB.out hb22)
  have HBR := Aside0.mk (below_step HBR.out hb22)
  clear hb22
  refine hK.out _ _ ⟨(mem_loads16 M1.out L0.out), (pw_cell_below HBR.out HXK.out)⟩ (fun hHeld => ?_)
  clear hK K
  refine norm_ (a' := ?_) ?_ ?_
  rotate_left
  · show Act.put _ (some 25) _ = _
    simp only [Act.put, List.setIfInBounds_toArray, List.set_cons_zero, List.set_cons_succ, i64_w, i32_w]
    rfl
  refine last_ (i := 10) (N := none) #[true, true, true, true, true, true, true, true, true, true, true] rfl rfl (by kernel_rfl) (by decide) (fun K hK => ?_)
  refine skip_ (w1 := ?_) (by rfl) rfl ?_ ?_
  rotate_left
  · refine store16_yields (l2 := ib x3) (x := .tmp 3) (y := .tmp 25) M1.out L0.out LX.out ?_ ?_ ?_ <;> rfl
  have M2 := Aside0.mk (Mem.row M2.out (g' := w.heap.size) (by omega) (cellsOf .u8 (ib x3)))
  have HF := Aside0.mk (FR.row HF.out (g := w.heap.size) (by omega) (cellsOf .u8 (ib x3)))
  have HB := Aside0.mk (below_setRow HB.out (by omega : w.heap.size ≤ w.heap.size) (cellsOf .u8 (ib x3)))
  have M1 := Aside0.mk (Mem.put M1.out (ib x3))
  refine hK.out _ _ ?_
  clear hK K
  refine done_ (by kernel_rfl) ?_
  have M1 := Aside0.mk (show Mem .u8 _ w.heap.size 31 (ib (yB ks n b 0)) by rw [show yB ks n b 0 = x3 by rw [HE.out, HLA.out.2.1]; rfl]; exact M1.out)
  clear hl0 hl1 HXK HCK HKD HKL HE HBR L0 LX CD0 CD1 CD2
  go_wp2
  go_loopg [7] n (fun kq iv w' => ∃ (j r0 : Nat), j + kq = n ∧ r0 = n - j ∧ iv = .int .i64 (r0 : Int) ∧ Aside0 (Mem .u8 w' w.heap.size 31 (ib (yB ks n b j))) ∧ Aside0 (Mem .u8 w' (w.heap.size + 1) 31 z16) ∧ Aside0 (FR w' N0 (some ad) ks) ∧ Aside0 (Below w.heap.size w w'))
  case atStart => exact ⟨0, n, Nat.zero_add n, rfl, by first | rfl | rw [hq2], M1, M2, HF, HB⟩
  case round =>
    clear M1 M2 HF HB
    obtain ⟨j, r0, hj, hr0, rfl, M1, M2, HF, HB⟩ := hrel
    cases gk with
    | zero =>
      obtain rfl : j = n := by omega
      obtain rfl : r0 = 0 := by omega
      clear hj hr0
      obtain ⟨ad', kA, d, ead, hxk, hd16, hck⟩ := refHead HF.out 0 (by rw [HLEN.out]; exact hq6) (HK16.out 0 hq6)
      obtain rfl := Option.some.inj ead
      have HKL := Aside0.mk (HK16.out 0 hq6)
      obtain ⟨kr, ekr⟩ : ∃ z, z = keyAt ks 0 := ⟨_, rfl⟩
      rw [← ekr] at hck HKL
      have HXK := Aside0.mk (show World.cell? _ ad = some (.slice kA 16 d) from by have h := hxk; rwa [show ad.add 0 = ad by simp [Addr.add]] at h)
      have HCK := Aside0.mk hck
      have HKD := Aside0.mk hd16
      clear hxk hck hd16 ead
      obtain ⟨x0, e0⟩ : ∃ z, z = yB ks j b j := ⟨_, rfl⟩
      have l0 : x0.length = 16 := by rw [e0]; exact yB_length ks j b j
      obtain ⟨x1, e1⟩ : ∃ z, z = xorL x0 kr := ⟨_, rfl⟩
      have l1 : x1.length = 16 := by rw [e1, xorL_length, l0]
      have CD0 := Aside0.mk (fun (W : World) (h : Kd.C (Kd.int .u8) W kA 16 (ib kr)) => show Calls Try.prog 36 #[.agg (cellsOf .u8 (ib x0)), .slice kA 16 d] W fun e w' => e = .returned (.agg (cellsOf .u8 (ib x1))) ∧ Below W.heap.size W w' from by rw [e1]; exact raddL_c x0 kr l0 HKL.out kA d W h HKD.out)
      have HE := Aside0.mk (show x1 = xorL (yB ks j b j) (keyAt ks 0) by rw [e1, e0, ekr] <;> rfl)
      have L0 := Aside0.mk (show (ib x0).length = 16 by rw [ib_length, l0])
      have LX := Aside0.mk (show (ib x1).length = 16 by rw [ib_length, l1])
      rw [← e0] at M1
      have HBR := Aside0.mk (Below.refl (World.heap wr).size wr)
      clear e0 l0 e1 l1 ekr
      have hl0 := mem_loads16 (Mem.drew M1.out) L0.out
      have hl1 := pw_cell_below (below_drew HBR.out) HXK.out
      have HV := Aside0.mk (show (Ending.returned (.agg (cellsOf .u8 (ib x1)))) = .returned (.agg (cellsOf .u8 (ib (decB ks j b)))) by rw [HE.out]; rfl)
      go_wp2
      refine start_ (n := 6) (S := fun w' => (loadVar 31 ⟨w.heap.size, 0, none⟩).run Try.prog w' = .ok (.agg (cellsOf .u8 (ib x0))) w' ∧ w'.cell? ad = some (.slice kA 16 d)) (ds := [5]) #[false, false, false, false, false, false] (by kernel_rfl) rfl rfl ⟨hl0, hl1⟩ (fun hHeld => ?_)
      refine pure_ (i := 1) (N := some 43) (v := ?_) (a' := ?_) #[false, true, false, false, false, false] rfl rfl (by kernel_rfl) (fun _ _ _ h => h) (Or.inl ⟨by rfl, ?_⟩) ?_ ?_
      rotate_left
      · intro w'
        go_simp
        with_reducible rfl
      rotate_left
      · simp only [Act.put, List.setIfInBounds_toArray, List.set_cons_zero, List.set_cons_succ, i64_w, i32_w]
        rfl
      refine pure_ (i := 2) (N := some 44) (v := ?_) (a' := ?_) #[false, true, true, false, false, false] rfl rfl (by kernel_rfl) (fun _ _ _ h => h) (Or.inl ⟨by rfl, ?_⟩) ?_ ?_
      rotate_left
      · intro w'
        go_simp
        with_reducible rfl
      rotate_left
      · simp only [Act.put, List.setIfInBounds_toArray, List.set_cons_zero, List.set_cons_succ, i64_w, i32_w]
        rfl
      refine take_ (i := 0) (N := some 42) (v := ?_) (a' := ?_) #[true, true, true, false, false, false] rfl rfl (by kernel_rfl) (fun _ _ _ h => h) (Or.inl ⟨by rfl, ?_⟩) hHeld ?_ ?_
      rotate_left
      · rintro w' ⟨s0, s1⟩
        refine (load_yields rfl rfl s0).trans ?_
        with_reducible rfl
      rotate_left
      · simp only [Act.put, List.setIfInBounds_toArray, List.set_cons_zero, List.set_cons_succ, i64_w, i32_w]
        rfl
      refine take_ (i := 3) (N := some 45) (v := ?_) (a' := ?_) #[true, true, true, true, false, false] rfl rfl (by kernel_rfl) (fun _ _ _ h => h) (Or.inl ⟨by rfl, ?_⟩) hHeld ?_ ?_
      rotate_left
      · rintro w' ⟨s0, s1⟩
        go_simp
        with_reducible rfl
      rotate_left
      · simp only [Act.put, List.setIfInBounds_toArray, List.set_cons_zero, List.set_cons_succ, i64_w, i32_w]
        rfl
      refine one_ (i := 4) (N := some 46) #[true, true, true, true, true, false] rfl rfl (by kernel_rfl) (by decide) (fun K hK => ?_)
      refine goes_ Try.func36 (by kernel_rfl) rfl #[.agg (cellsOf .u8 (ib x0)), .slice kA 16 d] (by rfl) rfl rfl (by simp only [List.map_toArray, List.map_cons, List.map_nil]; rfl) ?_
      have M1 := Aside0.mk (Mem.drew M1.out)
      have M2 := Aside0.mk (Mem.drew M2.out)
      have HF := Aside0.mk (HF.out.below (below_drew (Below.refl _ _)))
      have HB := Aside0.mk (below_drew HB.out)
      have HBR := Aside0.mk (below_drew HBR.out)
      with_reducible refine (CD0.out _ (Kd.C_below HCK.out HBR.out)).mono ?_
      rintro e w20 ⟨rfl, hb20⟩
      refine ⟨_, rfl, ?_⟩
      have M1 := Aside0.mk (Mem.below M1.out hb20)
      have M2 := Aside0.mk (Mem.below M2.out hb20)
      have HF := Aside0.mk (HF.out.below hb20)
      have HB := Aside0.mk (below_step HB.out hb20)
      have HBR := Aside0.mk (below_step HBR.out hb20)
      clear hb20
      refine hK.out _ _ ⟨(mem_loads16 M1.out L0.out), (pw_cell_below HBR.out HXK.out)⟩ (fun hHeld => ?_)
      clear hK K
      refine norm_ (a' := ?_) ?_ ?_
      rotate_left
      · show Act.put _ (some 46) _ = _
        simp only [Act.put, List.setIfInBounds_toArray, List.set_cons_zero, List.set_cons_succ, i64_w, i32_w]
        rfl
      refine last_ (i := 5) (N := none) #[true, true, true, true, true, true] rfl rfl (by kernel_rfl) (by decide) (fun K hK => ?_)
      refine skip_ (w1 := ?_) (by rfl) rfl ?_ ?_
      rotate_left
      · refine store16_yields (l2 := ib x1) (x := .tmp 4) (y := .tmp 46) M2.out rfl LX.out ?_ ?_ ?_ <;> rfl
      have M1 := Aside0.mk (Mem.row M1.out (g' := (w.heap.size + 1)) (by omega) (cellsOf .u8 (ib x1)))
      have HF := Aside0.mk (FR.row HF.out (g := (w.heap.size + 1)) (by omega) (cellsOf .u8 (ib x1)))
      have HB := Aside0.mk (below_setRow HB.out (by omega : w.heap.size ≤ (w.heap.size + 1)) (cellsOf .u8 (ib x1)))
      have M2 := Aside0.mk (Mem.put M2.out (ib x1))
      refine hK.out _ _ ?_
      clear hK K
      refine done_ (by kernel_rfl) ?_
      go_wp2
      refine bodyPost_ret (v := .agg (cellsOf .u8 (ib x1))) (results_cell_row rfl _ _ _ _ _ _ _ rfl M2.out Try.underlying31 rfl (by rw [cellsOf_size, LX.out]; exact info16)) rfl ⟨HV.out, HB.out⟩
    | succ k1 =>
      have HJ := Aside0.mk (show j + 1 + k1 = n by omega)
      have hp0 : 0 < r0 := by omega
      have hp1 : (0 : Int) < (r0 : Int) := by omega
      have HN2 := Aside0.mk (show r0 < N2 by have h1 := HLA.out.1; omega)
      have e9 := sub64 r0 hp0 (by have h1 := HLA.out.2.2; omega)
      obtain ⟨r2, hr2⟩ : ∃ z, z = r0 - 1 := ⟨_, rfl⟩
      rw [← hr2] at e9
      have HR2 := Aside0.mk (show r2 = n - (j + 1) by omega)
      have HR0 := Aside0.mk hr0
      clear hj hr0 hr2
      obtain ⟨ad', kA, d, ead, hxk, hd16, hck⟩ := refHead HF.out r0 (by rw [HLEN.out]; exact HN2.out) (HK16.out r0 HN2.out)
      obtain rfl := Option.some.inj ead
      have HKL := Aside0.mk (HK16.out r0 HN2.out)
      obtain ⟨kr, ekr⟩ : ∃ z, z = keyAt ks r0 := ⟨_, rfl⟩
      rw [← ekr] at hck HKL
      have HXK := Aside0.mk (show World.cell? _ (ad.add r0) = some (.slice kA 16 d) from hxk)
      have HCK := Aside0.mk hck
      have HKD := Aside0.mk hd16
      clear hxk hck hd16 ead
      obtain ⟨x0, e0⟩ : ∃ z, z = yB ks n b j := ⟨_, rfl⟩
      have l0 : x0.length = 16 := by rw [e0]; exact yB_length ks n b j
      obtain ⟨x1, e1⟩ : ∃ z, z = xorL x0 kr := ⟨_, rfl⟩
      have l1 : x1.length = 16 := by rw [e1, xorL_length, l0]
      have CD0 := Aside0.mk (fun (W : World) (h : Kd.C (Kd.int .u8) W kA 16 (ib kr)) => show Calls Try.prog 36 #[.agg (cellsOf .u8 (ib x0)), .slice kA 16 d] W fun e w' => e = .returned (.agg (cellsOf .u8 (ib x1))) ∧ Below W.heap.size W w' from by rw [e1]; exact raddL_c x0 kr l0 HKL.out kA d W h HKD.out)
      obtain ⟨x2, e2⟩ : ∃ z, z = backC x1 := ⟨_, rfl⟩
      have l2 : x2.length = 16 := by rw [e2]; exact backC_length _
      have CD1 := Aside0.mk (fun (W : World) => show Calls Try.prog 29 #[.agg (cellsOf .u8 (ib x1))] W fun e w' => e = .returned (.agg (cellsOf .u8 (ib x2))) ∧ Below W.heap.size W w' from by rw [e2]; exact rbackC_c x1 l1 W)
      obtain ⟨x3, e3⟩ : ∃ z, z = backB' x2 := ⟨_, rfl⟩
      have l3 : x3.length = 16 := by rw [e3]; exact backB'_length _
      have CD2 := Aside0.mk (fun (W : World) => show Calls Try.prog 27 #[.agg (cellsOf .u8 (ib x2))] W fun e w' => e = .returned (.agg (cellsOf .u8 (ib x3))) ∧ Below W.heap.size W w' from by rw [e3]; exact (rbackB_c x2 l2).q W)
      obtain ⟨x4, e4⟩ : ∃ z, z = x3.map backB := ⟨_, rfl⟩
      have l4 : x4.length = 16 := by rw [e4, List.length_map, l3]
      have CD3 := Aside0.mk (fun (W : World) => show Calls Try.prog 78 #[.agg (cellsOf .u8 (ib x3))] W fun e w' => e = .returned (.agg (cellsOf .u8 (ib x4))) ∧ Below W.heap.size W w' from by rw [e4]; exact rbackL_c x3 l3 W)
      have HE := Aside0.mk (show x4 = (backB' (backC (xorL (yB ks n b j) (keyAt ks r0)))).map backB by rw [e4, e3, e2, e1, e0, ekr] <;> rfl)
      have L0 := Aside0.mk (show (ib x0).length = 16 by rw [ib_length, l0])
      have LX := Aside0.mk (show (ib x4).length = 16 by rw [ib_length, l4])
      rw [← e0] at M1
      have HBR := Aside0.mk (Below.refl (World.heap wr).size wr)
      clear e0 l0 e1 l1 e2 l2 e3 l3 e4 l4 ekr
      have hl0 := mem_loads16 (Mem.drew M1.out) L0.out
      have hl1 := pw_cell_below (below_drew HBR.out) HXK.out
      have HX4 := Aside0.mk (show yB ks n b (j + 1) = x4 by rw [HE.out, HR0.out]; rfl)
      have hi0 : (0 : Int) ≤ (r0 : Int) := Int.natCast_nonneg _
      have hi1 : (r0 : Int) < (N2 : Int) := Int.ofNat_lt.2 HN2.out
      go_wp2
      refine start_ (n := 10) (S := fun w' => (loadVar 31 ⟨w.heap.size, 0, none⟩).run Try.prog w' = .ok (.agg (cellsOf .u8 (ib x0))) w' ∧ w'.cell? (ad.add r0) = some (.slice kA 16 d)) (ds := [9]) #[false, false, false, false, false, false, false, false, false, false] (by kernel_rfl) rfl rfl ⟨hl0, hl1⟩ (fun hHeld => ?_)
      refine pure_ (i := 1) (N := some 34) (v := ?_) (a' := ?_) #[false, true, false, false, false, false, false, false, false, false] rfl rfl (by kernel_rfl) (fun _ _ _ h => h) (Or.inl ⟨by rfl, ?_⟩) ?_ ?_
      rotate_left
      · intro w'
        go_simp
        with_reducible rfl
      rotate_left
      · simp only [Act.put, List.setIfInBounds_toArray, List.set_cons_zero, List.set_cons_succ, i64_w, i32_w]
        rfl
      refine pure_ (i := 2) (N := some 35) (v := ?_) (a' := ?_) #[false, true, true, false, false, false, false, false, false, false] rfl rfl (by kernel_rfl) (fun _ _ _ h => h) (Or.inl ⟨by rfl, ?_⟩) ?_ ?_
      rotate_left
      · intro w'
        go_simp
        with_reducible rfl
      rotate_left
      · simp only [Act.put, List.setIfInBounds_toArray, List.set_cons_zero, List.set_cons_succ, i64_w, i32_w]
        rfl
      refine pure_ (i := 3) (N := some 36) (v := ?_) (a' := ?_) #[false, true, true, true, false, false, false, false, false, false] rfl rfl (by kernel_rfl) (fun _ _ _ h => h) (Or.inl ⟨by rfl, ?_⟩) ?_ ?_
      rotate_left
      · intro w'
        go_simp
        with_reducible rfl
      rotate_left
      · simp only [Act.put, List.setIfInBounds_toArray, List.set_cons_zero, List.set_cons_succ, i64_w, i32_w]
        rfl
      refine take_ (i := 0) (N := some 33) (v := ?_) (a' := ?_) #[true, true, true, true, false, false, false, false, false, false] rfl rfl (by kernel_rfl) (fun _ _ _ h => h) (Or.inl ⟨by rfl, ?_⟩) hHeld ?_ ?_
      rotate_left
      · rintro w' ⟨s0, s1⟩
        refine (load_yields rfl rfl s0).trans ?_
        with_reducible rfl
      rotate_left
      · simp only [Act.put, List.setIfInBounds_toArray, List.set_cons_zero, List.set_cons_succ, i64_w, i32_w]
        rfl
      refine take_ (i := 4) (N := some 37) (v := ?_) (a' := ?_) #[true, true, true, true, true, false, false, false, false, false] rfl rfl (by kernel_rfl) (fun _ _ _ h => h) (Or.inl ⟨by rfl, ?_⟩) hHeld ?_ ?_
      rotate_left
      · rintro w' ⟨s0, s1⟩
        go_simp
        with_reducible rfl
      rotate_left
      · simp only [Act.put, List.setIfInBounds_toArray, List.set_cons_zero, List.set_cons_succ, i64_w, i32_w]
        rfl
      refine one_ (i := 5) (N := some 38) #[true, true, true, true, true, true, false, false, false, false] rfl rfl (by kernel_rfl) (by decide) (fun K hK => ?_)
      refine goes_ Try.func36 (by kernel_rfl) rfl #[.agg (cellsOf .u8 (ib x0)), .slice kA 16 d] (by rfl) rfl rfl (by simp only [List.map_toArray, List.map_cons, List.map_nil]; rfl) ?_
      have M1 := Aside0.mk (Mem.drew M1.out)
      have M2 := Aside0.mk (Mem.drew M2.out)
      have HF := Aside0.mk (HF.out.below (below_drew (Below.refl _ _)))
      have HB := Aside0.mk (below_drew HB.out)
      have HBR := Aside0.mk (below_drew HBR.out)
      with_reducible refine (CD0.out _ (Kd.C_below HCK.out HBR.out)).mono ?_
      rintro e w20 ⟨rfl, hb20⟩
      refine ⟨_, rfl, ?_⟩
      have M1 := Aside0.mk (Mem.below M1.out hb20)
      have M2 := Aside0.mk (Mem.below M2.out hb20)
      have HF := Aside0.mk (HF.out.below hb20)
      have HB := Aside0.mk (below_step HB.out hb20)
      have HBR := Aside0.mk (below_step HBR.out hb20)
      clear hb20
      refine hK.out _ _ ⟨(mem_loads16 M1.out L0.out), (pw_cell_below HBR.out HXK.out)⟩ (fun hHeld => ?_)
      clear hK K
      refine norm_ (a' := ?_) ?_ ?_
      rotate_left
      · show Act.put _ (some 38) _ = _
        simp only [Act.put, List.setIfInBounds_toArray, List.set_cons_zero, List.set_cons_succ, i64_w, i32_w]
        rfl
      refine one_ (i := 6) (N := some 39) #[true, true, true, true, true, true, true, false, false, false] rfl rfl (by kernel_rfl) (by decide) (fun K hK => ?_)
      refine goes_ Try.func29 (by kernel_rfl) rfl #[.agg (cellsOf .u8 (ib x1))] (by rfl) rfl rfl (by simp only [List.map_toArray, List.map_cons, List.map_nil]; rfl) ?_
      with_reducible refine (CD1.out _).mono ?_
      rintro e w21 ⟨rfl, hb21⟩
      refine ⟨_, rfl, ?_⟩
      have M1 := Aside0.mk (Mem.below M1.out hb21)
      have M2 := Aside0.mk (Mem.below M2.out hb21)
      have HF := Aside0.mk (HF.out.below hb21)
      have HB := Aside0.mk (below_step HB.out hb21)
      have HBR := Aside0.mk (below_step HBR.out hb21)
      clear hb21
      refine hK.out _ _ ⟨(mem_loads16 M1.out L0.out), (pw_cell_below HBR.out HXK.out)⟩ (fun hHeld => ?_)
      clear hK K
      refine norm_ (a' := ?_) ?_ ?_
      rotate_left
      · show Act.put _ (some 39) _ = _
        simp only [Act.put, List.setIfInBounds_toArray, List.set_cons_zero, List.set_cons_succ, i64_w, i32_w]
        rfl
      refine one_ (i := 7) (N := some 40) #[true, true, true, true, true, true, true, true, false, false] rfl rfl (by kernel_rfl) (by decide) (fun K hK => ?_)
      refine goes_ Try.func27 (by kernel_rfl) rfl #[.agg (cellsOf .u8 (ib x2))] (by rfl) rfl rfl (by simp only [List.map_toArray, List.map_cons, List.map_nil]; rfl) ?_
      with_reducible refine (CD2.out _).mono ?_
      rintro e w22 ⟨rfl, hb22⟩
      refine ⟨_, rfl, ?_⟩
      have M1 := Aside0.mk (Mem.below M1.out hb22)
      have M2 := Aside0.mk (Mem.below M2.out hb22)
      have HF := Aside0.mk (HF.out.below hb22)
      have HB := Aside0.mk (below_step HB.out hb22)
      have HBR := Aside0.mk (below_step HBR.out hb22)
      clear hb22
      refine hK.out _ _ ⟨(mem_loads16 M1.out L0.out), (pw_cell_below HBR.out HXK.out)⟩ (fun hHeld => ?_)
      clear hK K
      refine norm_ (a' := ?_) ?_ ?_
      rotate_left
      · show Act.put _ (some 40) _ = _
        simp only [Act.put, List.setIfInBounds_toArray, List.set_cons_zero, List.set_cons_succ, i64_w, i32_w]
        rfl
      refine one_ (i := 8) (N := some 41) #[true, true, true, true, true, true, true, true, true, false] rfl rfl (by kernel_rfl) (by decide) (fun K hK => ?_)
      refine goes_ Try.func78 (by kernel_rfl) rfl #[.agg (cellsOf .u8 (ib x3))] (by rfl) rfl rfl (by simp only [List.map_toArray, List.map_cons, List.map_nil]; rfl) ?_
      with_reducible refine (CD3.out _).mono ?_
      rintro e w23 ⟨rfl, hb23⟩
      refine ⟨_, rfl, ?_⟩
      have M1 := Aside0.mk (Mem.below M1.out hb23)
      have M2 := Aside0.mk (Mem.below M2.out hb23)
      have HF := Aside0.mk (HF.out.below hb23)
      have HB := Aside0.mk (below_step HB.out hb23)
      have HBR := Aside0.mk (below_step HBR.out hb23)
      clear hb23
      refine hK.out _ _ ⟨(mem_loads16 M1.out L0.out), (pw_cell_below HBR.out HXK.out)⟩ (fun hHeld => ?_)
      clear hK K
      refine norm_ (a' := ?_) ?_ ?_
      rotate_left
      · show Act.put _ (some 41) _ = _
        simp only [Act.put, List.setIfInBounds_toArray, List.set_cons_zero, List.set_cons_succ, i64_w, i32_w]
        rfl
      refine last_ (i := 9) (N := none) #[true, true, true, true, true, true, true, true, true, true] rfl rfl (by kernel_rfl) (by decide) (fun K hK => ?_)
      refine skip_ (w1 := ?_) (by rfl) rfl ?_ ?_
      rotate_left
      · refine store16_yields (l2 := ib x4) (x := .tmp 3) (y := .tmp 41) M1.out L0.out LX.out ?_ ?_ ?_ <;> rfl
      have M2 := Aside0.mk (Mem.row M2.out (g' := w.heap.size) (by omega) (cellsOf .u8 (ib x4)))
      have HF := Aside0.mk (FR.row HF.out (g := w.heap.size) (by omega) (cellsOf .u8 (ib x4)))
      have HB := Aside0.mk (below_setRow HB.out (by omega : w.heap.size ≤ w.heap.size) (cellsOf .u8 (ib x4)))
      have M1 := Aside0.mk (Mem.put M1.out (ib x4))
      refine hK.out _ _ ?_
      clear hK K
      refine done_ (by kernel_rfl) ?_
      go_wp2
      go_roundg k1
      case measure => omega
      case rel => exact ⟨j + 1, r2, HJ.out, HR2.out, by first | rfl | rw [e9], ⟨by rw [HX4.out]; exact M1.out⟩, M2, HF, HB⟩
end Go.Proofs.Ytpdikfmdnlhllaa.Aes
namespace Go.Proofs.Ytpdikfmdnlhllaa.Aes
open Go.RowKit Go.Proofs.Ytpdikfmdnlhllaa.PNib Go.Proofs.YtpdikfmdnlhllaaW.PrintWords Go.Proofs.YtpdikfmdnlhllaaW.PrintLast Go.Proofs.YtpdikfmdnlhllaaW.PrintMore Byte Sl Arr Mem Gives ArrEq Mat AesMath AesMov AesLin HandKit
set_option linter.unusedVariables false
set_option linter.unusedSimpArgs false
theorem new_bad (L : Nat) (hz : roundsI (L : Int) = 0) (A : Option Addr) (c : Nat) : GivesB 30 #[.slice A L c] (.tuple #[.pointer none, .int .i64 5]) := by
  intro w
  have C1 := Aside0.mk (expand_bad L hz A c)
  have HB := Aside0.mk (Below.refl w.heap.size w)
  go_enter Try.func30, Try.ntmps30
  go_wp2_with (first
    | (go_at_call 18; (with_reducible refine (C1.out.q _).mono ?_); rintro e w1 ⟨rfl, hb⟩; have HB := Aside0.mk (below_step HB.out hb); clear hb))
  exact bodyPost_ret (results_tmp2 rfl _ _ _) rfl ⟨rfl, HB.out⟩
set_option maxHeartbeats 4000000 in
set_option maxRecDepth 100000 in
theorem atell_c (key b : List B) (hb : b.length = 16) (A : Option Addr) (c : Nat) (hc : key.length ≤ c) (w : World) (hC : Kd.C (Kd.int .u8) w A key.length (ib key)) : Calls Try.prog 5 #[.slice A key.length c, .agg (cellsOf .u8 (ib b))] w fun e w' => e = .returned (.bool true) ∧ Below w.heap.size w w' := by
  have HHB := Aside0.mk hb
  obtain ⟨N, hN⟩ : ∃ z, z = key.length := ⟨_, rfl⟩
  have HCK := Aside0.mk hC
  have HHC := Aside0.mk hc
  rw [← hN] at HCK ⊢
  have HNK := Aside0.mk hN
  clear hN hC hc
  have CAW := Aside0.mk (fun (W : World) => aawake_c.q W)
  have CR1 := Aside0.mk (fun (W : World) => (arowsB_c b hb).q W)
  have CR2 := Aside0.mk (fun (W : World) => (rrowsB_c b hb).q W)
  have CC1 := Aside0.mk (fun (W : World) => cols_c b hb W)
  have CC2 := Aside0.mk (fun (W : World) => rcols_c b hb W)
  have CK1 := Aside0.mk (fun (W : World) => (abackB_c b hb).q W)
  have CK2 := Aside0.mk (fun (W : World) => (rbackB_c b hb).q W)
  have CD1 := Aside0.mk (fun (W : World) => (acols_back_c b hb).q W)
  have CD2 := Aside0.mk (fun (W : World) => rbackC_c b hb W)
  have CB0 := Aside0.mk (fun (W : World) => (block_nil b hb).q W)
  have CU0 := Aside0.mk (fun (W : World) => (unblock_nil b hb).q W)
  have EN := Aside0.mk (fun (w' : World) => ne16 b hb w')
  have EN1 := Aside0.mk (fun (w' : World) => ne16 (rowsB b) (rowsB_length b) w')
  have EN2 := Aside0.mk (fun (w' : World) => ne16 (colsB b) (colsB_length b) w')
  have EN3 := Aside0.mk (fun (w' : World) => ne16 (backB' b) (backB'_length b) w')
  have EN4 := Aside0.mk (fun (w' : World) => ne16 (backC b) (backC_length b) w')
  generalize rowsB b = rb at *
  generalize colsB b = cb at *
  generalize backB' b = kb at *
  generalize backC b = bc at *
  have LB := Aside0.mk (show (ib b).length = 16 by rw [ib_length, hb])
  have M1 := Aside0.mk (Mem.new .u8 w 31 (ib b))
  have HB := Aside0.mk (below_alloc (Below.refl w.heap.size w) (.cells (cellsOf .u8 (ib b)) 31))
  obtain ⟨ca, hca⟩ : ∃ cs, cs = cellsOf .u8 (ib b) := ⟨_, rfl⟩
  rw [← hca] at M1 HB ⊢
  have HCA := Aside0.mk hca
  clear hca hb
  go_enter Try.func5, Try.ntmps5
  go_upto_region 1 with (fail)
  have hl0 := mem_loads16 (Mem.drew M1.out) LB.out
  refine start_ (n := 26) (S := fun w' => (loadVar 31 ⟨w.heap.size, 0, none⟩).run Try.prog w' = .ok (.agg (cellsOf .u8 (ib b))) w') (ds := []) #[false, false, false, false, false, false, false, false, false, false, false, false, false, false, false, false, false, false, false, false, false, false, false, false, false, false] (by kernel_rfl) rfl rfl (hl0) (fun hHeld => ?_)
  refine take_ (i := 0) (N := some 8) (v := ?_) (a' := ?_) #[true, false, false, false, false, false, false, false, false, false, false, false, false, false, false, false, false, false, false, false, false, false, false, false, false, false] rfl rfl (by kernel_rfl) (fun _ _ _ h => h) (Or.inl ⟨by rfl, ?_⟩) hHeld ?_ ?_
  rotate_left
  · intro w' s0
    refine (load_yields rfl rfl s0).trans ?_
    with_reducible rfl
  rotate_left
  · simp only [Act.put, List.setIfInBounds_toArray, List.set_cons_zero, List.set_cons_succ, i64_w, i32_w]
    rfl
  refine take_ (i := 2) (N := some 10) (v := ?_) (a' := ?_) #[true, false, true, false, false, false, false, false, false, false, false, false, false, false, false, false, false, false, false, false, false, false, false, false, false, false] rfl rfl (by kernel_rfl) (fun _ _ _ h => h) (Or.inl ⟨by rfl, ?_⟩) hHeld ?_ ?_
  rotate_left
  · intro w' s0
    refine (load_yields rfl rfl s0).trans ?_
    with_reducible rfl
  rotate_left
  · simp only [Act.put, List.setIfInBounds_toArray, List.set_cons_zero, List.set_cons_succ, i64_w, i32_w]
    rfl
  refine one_ (i := 1) (N := some 9) #[true, true, true, false, false, false, false, false, false, false, false, false, false, false, false, false, false, false, false, false, false, false, false, false, false, false] rfl rfl (by kernel_rfl) (by decide) (fun K hK => ?_)
  refine goes_ Try.func22 (by kernel_rfl) rfl #[.agg (cellsOf .u8 (ib b))] (by rfl) rfl rfl (by simp only [List.map_toArray, List.map_cons, List.map_nil]; rfl) ?_
  have M1 := Aside0.mk (Mem.drew M1.out)
  have HB := Aside0.mk (below_drew HB.out)
  with_reducible refine (CR1.out _).mono ?_
  rintro e w30 ⟨rfl, hb30⟩
  refine ⟨_, rfl, ?_⟩
  have M1 := Aside0.mk (Mem.below M1.out hb30)
  have HB := Aside0.mk (below_step HB.out hb30)
  clear hb30
  refine hK.out _ _ ((mem_loads16 M1.out LB.out)) (fun hHeld => ?_)
  clear hK K
  refine norm_ (a' := ?_) ?_ ?_
  rotate_left
  · show Act.put _ (some 9) _ = _
    simp only [Act.put, List.setIfInBounds_toArray, List.set_cons_zero, List.set_cons_succ, i64_w, i32_w]
    rfl
  refine one_ (i := 3) (N := some 11) #[true, true, true, true, false, false, false, false, false, false, false, false, false, false, false, false, false, false, false, false, false, false, false, false, false, false] rfl rfl (by kernel_rfl) (by decide) (fun K hK => ?_)
  refine goes_ Try.func23 (by kernel_rfl) rfl #[.agg (cellsOf .u8 (ib b))] (by rfl) rfl rfl (by simp only [List.map_toArray, List.map_cons, List.map_nil]; rfl) ?_
  with_reducible refine (CR2.out _).mono ?_
  rintro e w31 ⟨rfl, hb31⟩
  refine ⟨_, rfl, ?_⟩
  have M1 := Aside0.mk (Mem.below M1.out hb31)
  have HB := Aside0.mk (below_step HB.out hb31)
  clear hb31
  refine hK.out _ _ ((mem_loads16 M1.out LB.out)) (fun hHeld => ?_)
  clear hK K
  refine norm_ (a' := ?_) ?_ ?_
  rotate_left
  · show Act.put _ (some 11) _ = _
    simp only [Act.put, List.setIfInBounds_toArray, List.set_cons_zero, List.set_cons_succ, i64_w, i32_w]
    rfl
  refine pure_ (i := 4) (N := some 12) (v := ?_) (a' := ?_) #[true, true, true, true, true, false, false, false, false, false, false, false, false, false, false, false, false, false, false, false, false, false, false, false, false, false] rfl rfl (by kernel_rfl) (fun _ _ _ h => h) (Or.inl ⟨by rfl, ?_⟩) ?_ ?_
  rotate_left
  · intro w'
    refine (eql_yields rfl rfl rfl guard16 (EN1.out w')).trans ?_
    with_reducible rfl
  rotate_left
  · simp only [Act.put, List.setIfInBounds_toArray, List.set_cons_zero, List.set_cons_succ, i64_w, i32_w]
    rfl
  refine pure_ (i := 5) (N := some 13) (v := ?_) (a' := ?_) #[true, true, true, true, true, true, false, false, false, false, false, false, false, false, false, false, false, false, false, false, false, false, false, false, false, false] rfl rfl (by kernel_rfl) (fun _ _ _ h => h) (Or.inl ⟨by rfl, ?_⟩) ?_ ?_
  rotate_left
  · intro w'
    go_simp
    with_reducible rfl
  rotate_left
  · simp only [Act.put, List.setIfInBounds_toArray, List.set_cons_zero, List.set_cons_succ, i64_w, i32_w]
    rfl
  refine take_ (i := 6) (N := some 14) (v := ?_) (a' := ?_) #[true, true, true, true, true, true, true, false, false, false, false, false, false, false, false, false, false, false, false, false, false, false, false, false, false, false] rfl rfl (by kernel_rfl) (fun _ _ _ h => h) (Or.inl ⟨by rfl, ?_⟩) hHeld ?_ ?_
  rotate_left
  · intro w' s0
    refine (load_yields rfl rfl s0).trans ?_
    with_reducible rfl
  rotate_left
  · simp only [Act.put, List.setIfInBounds_toArray, List.set_cons_zero, List.set_cons_succ, i64_w, i32_w]
    rfl
  refine take_ (i := 8) (N := some 16) (v := ?_) (a' := ?_) #[true, true, true, true, true, true, true, false, true, false, false, false, false, false, false, false, false, false, false, false, false, false, false, false, false, false] rfl rfl (by kernel_rfl) (fun _ _ _ h => h) (Or.inl ⟨by rfl, ?_⟩) hHeld ?_ ?_
  rotate_left
  · intro w' s0
    refine (load_yields rfl rfl s0).trans ?_
    with_reducible rfl
  rotate_left
  · simp only [Act.put, List.setIfInBounds_toArray, List.set_cons_zero, List.set_cons_succ, i64_w, i32_w]
    rfl
  refine one_ (i := 7) (N := some 15) #[true, true, true, true, true, true, true, true, true, false, false, false, false, false, false, false, false, false, false, false, false, false, false, false, false, false] rfl rfl (by kernel_rfl) (by decide) (fun K hK => ?_)
  refine goes_ Try.func24 (by kernel_rfl) rfl #[.agg (cellsOf .u8 (ib b))] (by rfl) rfl rfl (by simp only [List.map_toArray, List.map_cons, List.map_nil]; rfl) ?_
  with_reducible refine (CC1.out _).mono ?_
  rintro e w32 ⟨rfl, hb32⟩
  refine ⟨_, rfl, ?_⟩
  have M1 := Aside0.mk (Mem.below M1.out hb32)
  have HB := Aside0.mk (below_step HB.out hb32)
  clear hb32
  refine hK.out _ _ ((mem_loads16 M1.out LB.out)) (fun hHeld => ?_)
  clear hK K
  refine norm_ (a' := ?_) ?_ ?_
  rotate_left
  · show Act.put _ (some 15) _ = _
    simp only [Act.put, List.setIfInBounds_toArray, List.set_cons_zero, List.set_cons_succ, i64_w, i32_w]
    rfl
  refine one_ (i := 9) (N := some 17) #[true, true, true, true, true, true, true, true, true, true, false, false, false, false, false, false, false, false, false, false, false, false, false, false, false, false] rfl rfl (by kernel_rfl) (by decide) (fun K hK => ?_)
  refine goes_ Try.func25 (by kernel_rfl) rfl #[.agg (cellsOf .u8 (ib b))] (by rfl) rfl rfl (by simp only [List.map_toArray, List.map_cons, List.map_nil]; rfl) ?_
  with_reducible refine (CC2.out _).mono ?_
  rintro e w33 ⟨rfl, hb33⟩
  refine ⟨_, rfl, ?_⟩
  have M1 := Aside0.mk (Mem.below M1.out hb33)
  have HB := Aside0.mk (below_step HB.out hb33)
  clear hb33
  refine hK.out _ _ ((mem_loads16 M1.out LB.out)) (fun hHeld => ?_)
  clear hK K
  refine norm_ (a' := ?_) ?_ ?_
  rotate_left
  · show Act.put _ (some 17) _ = _
    simp only [Act.put, List.setIfInBounds_toArray, List.set_cons_zero, List.set_cons_succ, i64_w, i32_w]
    rfl
  refine pure_ (i := 10) (N := some 18) (v := ?_) (a' := ?_) #[true, true, true, true, true, true, true, true, true, true, true, false, false, false, false, false, false, false, false, false, false, false, false, false, false, false] rfl rfl (by kernel_rfl) (fun _ _ _ h => h) (Or.inl ⟨by rfl, ?_⟩) ?_ ?_
  rotate_left
  · intro w'
    refine (eql_yields rfl rfl rfl guard16 (EN2.out w')).trans ?_
    with_reducible rfl
  rotate_left
  · simp only [Act.put, List.setIfInBounds_toArray, List.set_cons_zero, List.set_cons_succ, i64_w, i32_w]
    rfl
  refine pure_ (i := 11) (N := some 19) (v := ?_) (a' := ?_) #[true, true, true, true, true, true, true, true, true, true, true, true, false, false, false, false, false, false, false, false, false, false, false, false, false, false] rfl rfl (by kernel_rfl) (fun _ _ _ h => h) (Or.inl ⟨by rfl, ?_⟩) ?_ ?_
  rotate_left
  · intro w'
    go_simp
    with_reducible rfl
  rotate_left
  · simp only [Act.put, List.setIfInBounds_toArray, List.set_cons_zero, List.set_cons_succ, i64_w, i32_w]
    rfl
  refine pure_ (i := 12) (N := some 20) (v := ?_) (a' := ?_) #[true, true, true, true, true, true, true, true, true, true, true, true, true, false, false, false, false, false, false, false, false, false, false, false, false, false] rfl rfl (by kernel_rfl) (fun _ _ _ h => h) (Or.inl ⟨by rfl, ?_⟩) ?_ ?_
  rotate_left
  · intro w'
    go_simp
    with_reducible rfl
  rotate_left
  · simp only [Act.put, List.setIfInBounds_toArray, List.set_cons_zero, List.set_cons_succ, i64_w, i32_w]
    rfl
  refine take_ (i := 13) (N := some 21) (v := ?_) (a' := ?_) #[true, true, true, true, true, true, true, true, true, true, true, true, true, true, false, false, false, false, false, false, false, false, false, false, false, false] rfl rfl (by kernel_rfl) (fun _ _ _ h => h) (Or.inl ⟨by rfl, ?_⟩) hHeld ?_ ?_
  rotate_left
  · intro w' s0
    refine (load_yields rfl rfl s0).trans ?_
    with_reducible rfl
  rotate_left
  · simp only [Act.put, List.setIfInBounds_toArray, List.set_cons_zero, List.set_cons_succ, i64_w, i32_w]
    rfl
  refine take_ (i := 15) (N := some 23) (v := ?_) (a' := ?_) #[true, true, true, true, true, true, true, true, true, true, true, true, true, true, false, true, false, false, false, false, false, false, false, false, false, false] rfl rfl (by kernel_rfl) (fun _ _ _ h => h) (Or.inl ⟨by rfl, ?_⟩) hHeld ?_ ?_
  rotate_left
  · intro w' s0
    refine (load_yields rfl rfl s0).trans ?_
    with_reducible rfl
  rotate_left
  · simp only [Act.put, List.setIfInBounds_toArray, List.set_cons_zero, List.set_cons_succ, i64_w, i32_w]
    rfl
  refine one_ (i := 14) (N := some 22) #[true, true, true, true, true, true, true, true, true, true, true, true, true, true, true, true, false, false, false, false, false, false, false, false, false, false] rfl rfl (by kernel_rfl) (by decide) (fun K hK => ?_)
  refine goes_ Try.func26 (by kernel_rfl) rfl #[.agg (cellsOf .u8 (ib b))] (by rfl) rfl rfl (by simp only [List.map_toArray, List.map_cons, List.map_nil]; rfl) ?_
  with_reducible refine (CK1.out _).mono ?_
  rintro e w34 ⟨rfl, hb34⟩
  refine ⟨_, rfl, ?_⟩
  have M1 := Aside0.mk (Mem.below M1.out hb34)
  have HB := Aside0.mk (below_step HB.out hb34)
  clear hb34
  refine hK.out _ _ ((mem_loads16 M1.out LB.out)) (fun hHeld => ?_)
  clear hK K
  refine norm_ (a' := ?_) ?_ ?_
  rotate_left
  · show Act.put _ (some 22) _ = _
    simp only [Act.put, List.setIfInBounds_toArray, List.set_cons_zero, List.set_cons_succ, i64_w, i32_w]
    rfl
  refine one_ (i := 16) (N := some 24) #[true, true, true, true, true, true, true, true, true, true, true, true, true, true, true, true, true, false, false, false, false, false, false, false, false, false] rfl rfl (by kernel_rfl) (by decide) (fun K hK => ?_)
  refine goes_ Try.func27 (by kernel_rfl) rfl #[.agg (cellsOf .u8 (ib b))] (by rfl) rfl rfl (by simp only [List.map_toArray, List.map_cons, List.map_nil]; rfl) ?_
  with_reducible refine (CK2.out _).mono ?_
  rintro e w35 ⟨rfl, hb35⟩
  refine ⟨_, rfl, ?_⟩
  have M1 := Aside0.mk (Mem.below M1.out hb35)
  have HB := Aside0.mk (below_step HB.out hb35)
  clear hb35
  refine hK.out _ _ ((mem_loads16 M1.out LB.out)) (fun hHeld => ?_)
  clear hK K
  refine norm_ (a' := ?_) ?_ ?_
  rotate_left
  · show Act.put _ (some 24) _ = _
    simp only [Act.put, List.setIfInBounds_toArray, List.set_cons_zero, List.set_cons_succ, i64_w, i32_w]
    rfl
  refine pure_ (i := 17) (N := some 25) (v := ?_) (a' := ?_) #[true, true, true, true, true, true, true, true, true, true, true, true, true, true, true, true, true, true, false, false, false, false, false, false, false, false] rfl rfl (by kernel_rfl) (fun _ _ _ h => h) (Or.inl ⟨by rfl, ?_⟩) ?_ ?_
  rotate_left
  · intro w'
    refine (eql_yields rfl rfl rfl guard16 (EN3.out w')).trans ?_
    with_reducible rfl
  rotate_left
  · simp only [Act.put, List.setIfInBounds_toArray, List.set_cons_zero, List.set_cons_succ, i64_w, i32_w]
    rfl
  refine pure_ (i := 18) (N := some 26) (v := ?_) (a' := ?_) #[true, true, true, true, true, true, true, true, true, true, true, true, true, true, true, true, true, true, true, false, false, false, false, false, false, false] rfl rfl (by kernel_rfl) (fun _ _ _ h => h) (Or.inl ⟨by rfl, ?_⟩) ?_ ?_
  rotate_left
  · intro w'
    go_simp
    with_reducible rfl
  rotate_left
  · simp only [Act.put, List.setIfInBounds_toArray, List.set_cons_zero, List.set_cons_succ, i64_w, i32_w]
    rfl
  refine pure_ (i := 19) (N := some 27) (v := ?_) (a' := ?_) #[true, true, true, true, true, true, true, true, true, true, true, true, true, true, true, true, true, true, true, true, false, false, false, false, false, false] rfl rfl (by kernel_rfl) (fun _ _ _ h => h) (Or.inl ⟨by rfl, ?_⟩) ?_ ?_
  rotate_left
  · intro w'
    go_simp
    with_reducible rfl
  rotate_left
  · simp only [Act.put, List.setIfInBounds_toArray, List.set_cons_zero, List.set_cons_succ, i64_w, i32_w]
    rfl
  refine take_ (i := 20) (N := some 28) (v := ?_) (a' := ?_) #[true, true, true, true, true, true, true, true, true, true, true, true, true, true, true, true, true, true, true, true, true, false, false, false, false, false] rfl rfl (by kernel_rfl) (fun _ _ _ h => h) (Or.inl ⟨by rfl, ?_⟩) hHeld ?_ ?_
  rotate_left
  · intro w' s0
    refine (load_yields rfl rfl s0).trans ?_
    with_reducible rfl
  rotate_left
  · simp only [Act.put, List.setIfInBounds_toArray, List.set_cons_zero, List.set_cons_succ, i64_w, i32_w]
    rfl
  refine take_ (i := 22) (N := some 30) (v := ?_) (a' := ?_) #[true, true, true, true, true, true, true, true, true, true, true, true, true, true, true, true, true, true, true, true, true, false, true, false, false, false] rfl rfl (by kernel_rfl) (fun _ _ _ h => h) (Or.inl ⟨by rfl, ?_⟩) hHeld ?_ ?_
  rotate_left
  · intro w' s0
    refine (load_yields rfl rfl s0).trans ?_
    with_reducible rfl
  rotate_left
  · simp only [Act.put, List.setIfInBounds_toArray, List.set_cons_zero, List.set_cons_succ, i64_w, i32_w]
    rfl
  refine one_ (i := 21) (N := some 29) #[true, true, true, true, true, true, true, true, true, true, true, true, true, true, true, true, true, true, true, true, true, true, true, false, false, false] rfl rfl (by kernel_rfl) (by decide) (fun K hK => ?_)
  refine goes_ Try.func28 (by kernel_rfl) rfl #[.agg (cellsOf .u8 (ib b))] (by rfl) rfl rfl (by simp only [List.map_toArray, List.map_cons, List.map_nil]; rfl) ?_
  with_reducible refine (CD1.out _).mono ?_
  rintro e w36 ⟨rfl, hb36⟩
  refine ⟨_, rfl, ?_⟩
  have M1 := Aside0.mk (Mem.below M1.out hb36)
  have HB := Aside0.mk (below_step HB.out hb36)
  clear hb36
  refine hK.out _ _ ((mem_loads16 M1.out LB.out)) (fun hHeld => ?_)
  clear hK K
  refine norm_ (a' := ?_) ?_ ?_
  rotate_left
  · show Act.put _ (some 29) _ = _
    simp only [Act.put, List.setIfInBounds_toArray, List.set_cons_zero, List.set_cons_succ, i64_w, i32_w]
    rfl
  refine one_ (i := 23) (N := some 31) #[true, true, true, true, true, true, true, true, true, true, true, true, true, true, true, true, true, true, true, true, true, true, true, true, false, false] rfl rfl (by kernel_rfl) (by decide) (fun K hK => ?_)
  refine goes_ Try.func29 (by kernel_rfl) rfl #[.agg (cellsOf .u8 (ib b))] (by rfl) rfl rfl (by simp only [List.map_toArray, List.map_cons, List.map_nil]; rfl) ?_
  with_reducible refine (CD2.out _).mono ?_
  rintro e w37 ⟨rfl, hb37⟩
  refine ⟨_, rfl, ?_⟩
  have M1 := Aside0.mk (Mem.below M1.out hb37)
  have HB := Aside0.mk (below_step HB.out hb37)
  clear hb37
  refine hK.out _ _ ((mem_loads16 M1.out LB.out)) (fun hHeld => ?_)
  clear hK K
  refine norm_ (a' := ?_) ?_ ?_
  rotate_left
  · show Act.put _ (some 31) _ = _
    simp only [Act.put, List.setIfInBounds_toArray, List.set_cons_zero, List.set_cons_succ, i64_w, i32_w]
    rfl
  refine pure_ (i := 24) (N := some 32) (v := ?_) (a' := ?_) #[true, true, true, true, true, true, true, true, true, true, true, true, true, true, true, true, true, true, true, true, true, true, true, true, true, false] rfl rfl (by kernel_rfl) (fun _ _ _ h => h) (Or.inl ⟨by rfl, ?_⟩) ?_ ?_
  rotate_left
  · intro w'
    refine (eql_yields rfl rfl rfl guard16 (EN4.out w')).trans ?_
    with_reducible rfl
  rotate_left
  · simp only [Act.put, List.setIfInBounds_toArray, List.set_cons_zero, List.set_cons_succ, i64_w, i32_w]
    rfl
  refine pure_ (i := 25) (N := some 33) (v := ?_) (a' := ?_) #[true, true, true, true, true, true, true, true, true, true, true, true, true, true, true, true, true, true, true, true, true, true, true, true, true, true] rfl rfl (by kernel_rfl) (fun _ _ _ h => h) (Or.inl ⟨by rfl, ?_⟩) ?_ ?_
  rotate_left
  · intro w'
    go_simp
    with_reducible rfl
  rotate_left
  · simp only [Act.put, List.setIfInBounds_toArray, List.set_cons_zero, List.set_cons_succ, i64_w, i32_w]
    rfl
  refine done_ (by kernel_rfl) ?_
  clear hl0 CR1 CR2 CC1 CC2 CK1 CK2 CD1 CD2 EN1 EN2 EN3 EN4
  by_cases hr : roundsN key.length = 0
  · have hz : roundsI (N : Int) = 0 := by rw [HNK.out, roundsI_nat, hr]; rfl
    have CNEW := Aside0.mk (fun (W : World) => (new_bad N hz A c).q W)
    have CRO := Aside0.mk (rrounds_c (N : Int) 0 hz)
    clear hz hr
    go_upto_region 5 with (first
      | (go_at_call 30; go_loud ((with_reducible refine (CNEW.out _).mono ?_); rintro e w50 ⟨rfl, hb50⟩; have M1 := Aside0.mk (Mem.below M1.out hb50); have HB := Aside0.mk (below_step HB.out hb50); clear hb50)))
    have hl0 := mem_loads16 (Mem.drew M1.out) LB.out
    refine start_ (n := 21) (S := fun w' => (loadVar 31 ⟨w.heap.size, 0, none⟩).run Try.prog w' = .ok (.agg (cellsOf .u8 (ib b))) w') (ds := []) #[false, false, false, false, false, false, false, false, false, false, false, false, false, false, false, false, false, false, false, false, false] (by kernel_rfl) rfl rfl (hl0) (fun hHeld => ?_)
    refine pure_ (i := 0) (N := some 39) (v := ?_) (a' := ?_) #[true, false, false, false, false, false, false, false, false, false, false, false, false, false, false, false, false, false, false, false, false] rfl rfl (by kernel_rfl) (fun _ _ _ h => h) (Or.inl ⟨by rfl, ?_⟩) ?_ ?_
    rotate_left
    · intro w'
      go_simp
      with_reducible rfl
    rotate_left
    · simp only [Act.put, List.setIfInBounds_toArray, List.set_cons_zero, List.set_cons_succ, i64_w, i32_w]
      rfl
    refine take_ (i := 1) (N := some 40) (v := ?_) (a' := ?_) #[true, true, false, false, false, false, false, false, false, false, false, false, false, false, false, false, false, false, false, false, false] rfl rfl (by kernel_rfl) (fun _ _ _ h => h) (Or.inl ⟨by rfl, ?_⟩) hHeld ?_ ?_
    rotate_left
    · intro w' s0
      refine (load_yields rfl rfl s0).trans ?_
      with_reducible rfl
    rotate_left
    · simp only [Act.put, List.setIfInBounds_toArray, List.set_cons_zero, List.set_cons_succ, i64_w, i32_w]
      rfl
    refine take_ (i := 3) (N := some 42) (v := ?_) (a' := ?_) #[true, true, false, true, false, false, false, false, false, false, false, false, false, false, false, false, false, false, false, false, false] rfl rfl (by kernel_rfl) (fun _ _ _ h => h) (Or.inl ⟨by rfl, ?_⟩) hHeld ?_ ?_
    rotate_left
    · intro w' s0
      refine (load_yields rfl rfl s0).trans ?_
      with_reducible rfl
    rotate_left
    · simp only [Act.put, List.setIfInBounds_toArray, List.set_cons_zero, List.set_cons_succ, i64_w, i32_w]
      rfl
    refine one_ (i := 2) (N := some 41) #[true, true, true, true, false, false, false, false, false, false, false, false, false, false, false, false, false, false, false, false, false] rfl rfl (by kernel_rfl) (by decide) (fun K hK => ?_)
    refine goes_ Try.func31 (by kernel_rfl) rfl #[.pointer none, .agg (cellsOf .u8 (ib b))] (by rfl) rfl rfl (by simp only [List.map_toArray, List.map_cons, List.map_nil]; rfl) ?_
    have M1 := Aside0.mk (Mem.drew M1.out)
    have HB := Aside0.mk (below_drew HB.out)
    with_reducible refine (CB0.out _).mono ?_
    rintro e w40 ⟨rfl, hb40⟩
    refine ⟨_, rfl, ?_⟩
    have M1 := Aside0.mk (Mem.below M1.out hb40)
    have HB := Aside0.mk (below_step HB.out hb40)
    clear hb40
    refine hK.out _ _ ((mem_loads16 M1.out LB.out)) (fun hHeld => ?_)
    clear hK K
    refine norm_ (a' := ?_) ?_ ?_
    rotate_left
    · show Act.put _ (some 41) _ = _
      simp only [Act.put, List.setIfInBounds_toArray, List.set_cons_zero, List.set_cons_succ, i64_w, i32_w]
      rfl
    refine pure_ (i := 4) (N := some 43) (v := ?_) (a' := ?_) #[true, true, true, true, true, false, false, false, false, false, false, false, false, false, false, false, false, false, false, false, false] rfl rfl (by kernel_rfl) (fun _ _ _ h => h) (Or.inl ⟨by rfl, ?_⟩) ?_ ?_
    rotate_left
    · intro w'
      refine (eql_yields rfl rfl rfl guard16 (EN.out w')).trans ?_
      with_reducible rfl
    rotate_left
    · simp only [Act.put, List.setIfInBounds_toArray, List.set_cons_zero, List.set_cons_succ, i64_w, i32_w]
      rfl
    refine pure_ (i := 5) (N := some 44) (v := ?_) (a' := ?_) #[true, true, true, true, true, true, false, false, false, false, false, false, false, false, false, false, false, false, false, false, false] rfl rfl (by kernel_rfl) (fun _ _ _ h => h) (Or.inl ⟨by rfl, ?_⟩) ?_ ?_
    rotate_left
    · intro w'
      go_simp
      with_reducible rfl
    rotate_left
    · simp only [Act.put, List.setIfInBounds_toArray, List.set_cons_zero, List.set_cons_succ, i64_w, i32_w]
      rfl
    refine pure_ (i := 6) (N := some 45) (v := ?_) (a' := ?_) #[true, true, true, true, true, true, true, false, false, false, false, false, false, false, false, false, false, false, false, false, false] rfl rfl (by kernel_rfl) (fun _ _ _ h => h) (Or.inl ⟨by rfl, ?_⟩) ?_ ?_
    rotate_left
    · intro w'
      go_simp
      with_reducible rfl
    rotate_left
    · simp only [Act.put, List.setIfInBounds_toArray, List.set_cons_zero, List.set_cons_succ, i64_w, i32_w]
      rfl
    refine take_ (i := 7) (N := some 46) (v := ?_) (a' := ?_) #[true, true, true, true, true, true, true, true, false, false, false, false, false, false, false, false, false, false, false, false, false] rfl rfl (by kernel_rfl) (fun _ _ _ h => h) (Or.inl ⟨by rfl, ?_⟩) hHeld ?_ ?_
    rotate_left
    · intro w' s0
      refine (load_yields rfl rfl s0).trans ?_
      with_reducible rfl
    rotate_left
    · simp only [Act.put, List.setIfInBounds_toArray, List.set_cons_zero, List.set_cons_succ, i64_w, i32_w]
      rfl
    refine take_ (i := 9) (N := some 48) (v := ?_) (a' := ?_) #[true, true, true, true, true, true, true, true, false, true, false, false, false, false, false, false, false, false, false, false, false] rfl rfl (by kernel_rfl) (fun _ _ _ h => h) (Or.inl ⟨by rfl, ?_⟩) hHeld ?_ ?_
    rotate_left
    · intro w' s0
      refine (load_yields rfl rfl s0).trans ?_
      with_reducible rfl
    rotate_left
    · simp only [Act.put, List.setIfInBounds_toArray, List.set_cons_zero, List.set_cons_succ, i64_w, i32_w]
      rfl
    refine one_ (i := 8) (N := some 47) #[true, true, true, true, true, true, true, true, true, true, false, false, false, false, false, false, false, false, false, false, false] rfl rfl (by kernel_rfl) (by decide) (fun K hK => ?_)
    refine goes_ Try.func32 (by kernel_rfl) rfl #[.pointer none, .agg (cellsOf .u8 (ib b))] (by rfl) rfl rfl (by simp only [List.map_toArray, List.map_cons, List.map_nil]; rfl) ?_
    with_reducible refine (CU0.out _).mono ?_
    rintro e w41 ⟨rfl, hb41⟩
    refine ⟨_, rfl, ?_⟩
    have M1 := Aside0.mk (Mem.below M1.out hb41)
    have HB := Aside0.mk (below_step HB.out hb41)
    clear hb41
    refine hK.out _ _ ((mem_loads16 M1.out LB.out)) (fun hHeld => ?_)
    clear hK K
    refine norm_ (a' := ?_) ?_ ?_
    rotate_left
    · show Act.put _ (some 47) _ = _
      simp only [Act.put, List.setIfInBounds_toArray, List.set_cons_zero, List.set_cons_succ, i64_w, i32_w]
      rfl
    refine pure_ (i := 10) (N := some 49) (v := ?_) (a' := ?_) #[true, true, true, true, true, true, true, true, true, true, true, false, false, false, false, false, false, false, false, false, false] rfl rfl (by kernel_rfl) (fun _ _ _ h => h) (Or.inl ⟨by rfl, ?_⟩) ?_ ?_
    rotate_left
    · intro w'
      refine (eql_yields rfl rfl rfl guard16 (EN.out w')).trans ?_
      with_reducible rfl
    rotate_left
    · simp only [Act.put, List.setIfInBounds_toArray, List.set_cons_zero, List.set_cons_succ, i64_w, i32_w]
      rfl
    refine pure_ (i := 11) (N := some 50) (v := ?_) (a' := ?_) #[true, true, true, true, true, true, true, true, true, true, true, true, false, false, false, false, false, false, false, false, false] rfl rfl (by kernel_rfl) (fun _ _ _ h => h) (Or.inl ⟨by rfl, ?_⟩) ?_ ?_
    rotate_left
    · intro w'
      go_simp
      with_reducible rfl
    rotate_left
    · simp only [Act.put, List.setIfInBounds_toArray, List.set_cons_zero, List.set_cons_succ, i64_w, i32_w]
      rfl
    refine pure_ (i := 12) (N := some 51) (v := ?_) (a' := ?_) #[true, true, true, true, true, true, true, true, true, true, true, true, true, false, false, false, false, false, false, false, false] rfl rfl (by kernel_rfl) (fun _ _ _ h => h) (Or.inl ⟨by rfl, ?_⟩) ?_ ?_
    rotate_left
    · intro w'
      go_simp
      with_reducible rfl
    rotate_left
    · simp only [Act.put, List.setIfInBounds_toArray, List.set_cons_zero, List.set_cons_succ, i64_w, i32_w]
      rfl
    refine pure_ (i := 13) (N := some 52) (v := ?_) (a' := ?_) #[true, true, true, true, true, true, true, true, true, true, true, true, true, true, false, false, false, false, false, false, false] rfl rfl (by kernel_rfl) (fun _ _ _ h => h) (Or.inl ⟨by rfl, ?_⟩) ?_ ?_
    rotate_left
    · intro w'
      go_simp
      with_reducible rfl
    rotate_left
    · simp only [Act.put, List.setIfInBounds_toArray, List.set_cons_zero, List.set_cons_succ, i64_w, i32_w]
      rfl
    refine pure_ (i := 14) (N := some 53) (v := ?_) (a' := ?_) #[true, true, true, true, true, true, true, true, true, true, true, true, true, true, true, false, false, false, false, false, false] rfl rfl (by kernel_rfl) (fun _ _ _ h => h) (Or.inl ⟨by rfl, ?_⟩) ?_ ?_
    rotate_left
    · intro w'
      go_simp
      with_reducible rfl
    rotate_left
    · simp only [Act.put, List.setIfInBounds_toArray, List.set_cons_zero, List.set_cons_succ, i64_w, i32_w]
      rfl
    refine pure_ (i := 15) (N := some 54) (v := ?_) (a' := ?_) #[true, true, true, true, true, true, true, true, true, true, true, true, true, true, true, true, false, false, false, false, false] rfl rfl (by kernel_rfl) (fun _ _ _ h => h) (Or.inl ⟨by rfl, ?_⟩) ?_ ?_
    rotate_left
    · intro w'
      go_simp
      with_reducible rfl
    rotate_left
    · simp only [Act.put, List.setIfInBounds_toArray, List.set_cons_zero, List.set_cons_succ, i64_w, i32_w]
      rfl
    refine pure_ (i := 16) (N := some 55) (v := ?_) (a' := ?_) #[true, true, true, true, true, true, true, true, true, true, true, true, true, true, true, true, true, false, false, false, false] rfl rfl (by kernel_rfl) (fun _ _ _ h => h) (Or.inl ⟨by rfl, ?_⟩) ?_ ?_
    rotate_left
    · intro w'
      go_simp
      with_reducible rfl
    rotate_left
    · simp only [Act.put, List.setIfInBounds_toArray, List.set_cons_zero, List.set_cons_succ, i64_w, i32_w]
      rfl
    refine one_ (i := 17) (N := some 56) #[true, true, true, true, true, true, true, true, true, true, true, true, true, true, true, true, true, true, false, false, false] rfl rfl (by kernel_rfl) (by decide) (fun K hK => ?_)
    refine goes_ Try.func15 (by kernel_rfl) rfl #[.int .i64 (N : Int)] (by rfl) rfl rfl (by simp only [List.map_toArray, List.map_cons, List.map_nil]; rfl) ?_
    with_reducible refine (CRO.out.q _).mono ?_
    rintro e w42 ⟨rfl, hb42⟩
    refine ⟨_, rfl, ?_⟩
    have M1 := Aside0.mk (Mem.below M1.out hb42)
    have HB := Aside0.mk (below_step HB.out hb42)
    clear hb42
    refine hK.out _ _ ((mem_loads16 M1.out LB.out)) (fun hHeld => ?_)
    clear hK K
    refine norm_ (a' := ?_) ?_ ?_
    rotate_left
    · show Act.put _ (some 56) _ = _
      simp only [Act.put, List.setIfInBounds_toArray, List.set_cons_zero, List.set_cons_succ, i64_w, i32_w]
      rfl
    refine pure_ (i := 18) (N := some 57) (v := ?_) (a' := ?_) #[true, true, true, true, true, true, true, true, true, true, true, true, true, true, true, true, true, true, true, false, false] rfl rfl (by kernel_rfl) (fun _ _ _ h => h) (Or.inl ⟨by rfl, ?_⟩) ?_ ?_
    rotate_left
    · intro w'
      go_simp
      with_reducible rfl
    rotate_left
    · simp only [Act.put, List.setIfInBounds_toArray, List.set_cons_zero, List.set_cons_succ, i64_w, i32_w]
      rfl
    refine pure_ (i := 19) (N := some 58) (v := ?_) (a' := ?_) #[true, true, true, true, true, true, true, true, true, true, true, true, true, true, true, true, true, true, true, true, false] rfl rfl (by kernel_rfl) (fun _ _ _ h => h) (Or.inl ⟨by rfl, ?_⟩) ?_ ?_
    rotate_left
    · intro w'
      go_simp
      with_reducible rfl
    rotate_left
    · simp only [Act.put, List.setIfInBounds_toArray, List.set_cons_zero, List.set_cons_succ, i64_w, i32_w]
      rfl
    refine pure_ (i := 20) (N := some 59) (v := ?_) (a' := ?_) #[true, true, true, true, true, true, true, true, true, true, true, true, true, true, true, true, true, true, true, true, true] rfl rfl (by kernel_rfl) (fun _ _ _ h => h) (Or.inl ⟨by rfl, ?_⟩) ?_ ?_
    rotate_left
    · intro w'
      go_simp
      with_reducible rfl
    rotate_left
    · simp only [Act.put, List.setIfInBounds_toArray, List.set_cons_zero, List.set_cons_succ, i64_w, i32_w]
      rfl
    refine done_ (by kernel_rfl) ?_
    clear hl0
    go_wp2_with (first
      | (go_at_call 33; (with_reducible refine (CAW.out _).mono ?_); rintro e w60 ⟨rfl, hb60⟩; have HB := Aside0.mk (below_step HB.out hb60); clear hb60))
    go_ret
    exact ⟨rfl, HB.out⟩
  · obtain ⟨rk, hrk⟩ : ∃ z, z = roundKeys key := ⟨_, rfl⟩
    obtain ⟨n, hN1, _, hN2, hN3⟩ := round_keys_len key hr
    have CNEW := Aside0.mk (fun (W : World) (h : Kd.C (Kd.int .u8) W A key.length (ib key)) => by have := new_c key hr A c HHC.out W h; rwa [← hrk] at this)
    obtain ⟨rd, hrd⟩ : ∃ z, z = roundsI (key.length : Int) := ⟨_, rfl⟩
    have hrd0 : (0 : Int) < rd := by rw [hrd, roundsI_nat]; omega
    have CRO := Aside0.mk (rrounds_c (key.length : Int) rd hrd.symm)
    obtain ⟨eb, heb⟩ : ∃ z, z = encB (roundKeys key) n b := ⟨_, rfl⟩
    obtain ⟨db, hdb⟩ : ∃ z, z = decB (roundKeys key) n b := ⟨_, rfl⟩
    have CB1 := Aside0.mk (fun (g bx : Nat) (W : World) (h : Cph W g bx rk) => by have := block_c b HHB.out g bx (roundKeys key) n hN1 hN3 hN2 W (by rw [← hrk]; exact h); rwa [← heb, ← hrk] at this)
    have CU1 := Aside0.mk (fun (g bx : Nat) (W : World) (h : Cph W g bx rk) => by have := unblock_c b HHB.out g bx (roundKeys key) n hN1 hN3 hN2 W (by rw [← hrk]; exact h); rwa [← hdb, ← hrk] at this)
    have CRB := Aside0.mk (fun (W : World) (h : Kd.C (Kd.int .u8) W A key.length (ib key)) => by have := rblock_c key b HHB.out hr n hN1 hN3 hN2 A c HHC.out W h; rwa [← heb] at this)
    have CRU := Aside0.mk (fun (W : World) (h : Kd.C (Kd.int .u8) W A key.length (ib key)) => by have := runblock_c key b HHB.out hr n hN1 hN3 hN2 A c HHC.out W h; rwa [← hdb] at this)
    have EQ1 := Aside0.mk (fun (w' : World) => eq16 eb (by rw [heb]; exact encB_length _ _ _) w')
    have EQ2 := Aside0.mk (fun (w' : World) => eq16 db (by rw [hdb]; exact decB_length _ _ _) w')
    clear hN1 hN2 hN3 hrd heb hdb hrk hr
    rw [← HNK.out] at CNEW CRO CRB CRU
    go_upto_region 5 with (first
      | (go_at_call 30; go_loud ((refine (CNEW.out _ (Kd.C_below HCK.out HB.out)).mono ?_); rintro e w1 ⟨g, bx, rfl, hX, _, hbx, hb1⟩; have hlt := M1.out.lt; have HX := Aside0.mk hX; have HBX := Aside0.mk (show w.heap.size < bx from Nat.lt_of_lt_of_le hlt hbx); have M1 := Aside0.mk (Mem.below M1.out hb1); have HB := Aside0.mk (below_step HB.out hb1); clear hX hbx hb1 hlt)))
    have HXB := Aside0.mk HX.out.bound
    have HX := HXB
    have HC := Aside0.mk (Ch.refl (g := bx) w1)
    have HB1 := HB
    have hl0 := mem_loads16 (Mem.drew M1.out) LB.out
    refine start_ (n := 21) (S := fun w' => (loadVar 31 ⟨w.heap.size, 0, none⟩).run Try.prog w' = .ok (.agg (cellsOf .u8 (ib b))) w') (ds := []) #[false, false, false, false, false, false, false, false, false, false, false, false, false, false, false, false, false, false, false, false, false] (by kernel_rfl) rfl rfl (hl0) (fun hHeld => ?_)
    refine pure_ (i := 0) (N := some 39) (v := ?_) (a' := ?_) #[true, false, false, false, false, false, false, false, false, false, false, false, false, false, false, false, false, false, false, false, false] rfl rfl (by kernel_rfl) (fun _ _ _ h => h) (Or.inl ⟨by rfl, ?_⟩) ?_ ?_
    rotate_left
    · intro w'
      go_simp
      with_reducible rfl
    rotate_left
    · simp only [Act.put, List.setIfInBounds_toArray, List.set_cons_zero, List.set_cons_succ, i64_w, i32_w]
      rfl
    refine take_ (i := 1) (N := some 40) (v := ?_) (a' := ?_) #[true, true, false, false, false, false, false, false, false, false, false, false, false, false, false, false, false, false, false, false, false] rfl rfl (by kernel_rfl) (fun _ _ _ h => h) (Or.inl ⟨by rfl, ?_⟩) hHeld ?_ ?_
    rotate_left
    · intro w' s0
      refine (load_yields rfl rfl s0).trans ?_
      with_reducible rfl
    rotate_left
    · simp only [Act.put, List.setIfInBounds_toArray, List.set_cons_zero, List.set_cons_succ, i64_w, i32_w]
      rfl
    refine take_ (i := 3) (N := some 42) (v := ?_) (a' := ?_) #[true, true, false, true, false, false, false, false, false, false, false, false, false, false, false, false, false, false, false, false, false] rfl rfl (by kernel_rfl) (fun _ _ _ h => h) (Or.inl ⟨by rfl, ?_⟩) hHeld ?_ ?_
    rotate_left
    · intro w' s0
      refine (load_yields rfl rfl s0).trans ?_
      with_reducible rfl
    rotate_left
    · simp only [Act.put, List.setIfInBounds_toArray, List.set_cons_zero, List.set_cons_succ, i64_w, i32_w]
      rfl
    refine one_ (i := 2) (N := some 41) #[true, true, true, true, false, false, false, false, false, false, false, false, false, false, false, false, false, false, false, false, false] rfl rfl (by kernel_rfl) (by decide) (fun K hK => ?_)
    refine goes_ Try.func31 (by kernel_rfl) rfl #[.pointer none, .agg (cellsOf .u8 (ib b))] (by rfl) rfl rfl (by simp only [List.map_toArray, List.map_cons, List.map_nil]; rfl) ?_
    have M1 := Aside0.mk (Mem.drew M1.out)
    have HB := Aside0.mk (below_drew HB.out); have HX := Aside0.mk (HX.out.below (below_drew (Below.refl _ _))); have HC := Aside0.mk (Ch.step HC.out (below_drew (Below.refl _ _)))
    with_reducible refine (CB0.out _).mono ?_
    rintro e w40 ⟨rfl, hb40⟩
    refine ⟨_, rfl, ?_⟩
    have M1 := Aside0.mk (Mem.below M1.out hb40)
    have HB := Aside0.mk (below_step HB.out hb40); have HX := Aside0.mk (HX.out.below hb40); have HC := Aside0.mk (Ch.step HC.out hb40)
    clear hb40
    refine hK.out _ _ ((mem_loads16 M1.out LB.out)) (fun hHeld => ?_)
    clear hK K
    refine norm_ (a' := ?_) ?_ ?_
    rotate_left
    · show Act.put _ (some 41) _ = _
      simp only [Act.put, List.setIfInBounds_toArray, List.set_cons_zero, List.set_cons_succ, i64_w, i32_w]
      rfl
    refine pure_ (i := 4) (N := some 43) (v := ?_) (a' := ?_) #[true, true, true, true, true, false, false, false, false, false, false, false, false, false, false, false, false, false, false, false, false] rfl rfl (by kernel_rfl) (fun _ _ _ h => h) (Or.inl ⟨by rfl, ?_⟩) ?_ ?_
    rotate_left
    · intro w'
      refine (eql_yields rfl rfl rfl guard16 (EN.out w')).trans ?_
      with_reducible rfl
    rotate_left
    · simp only [Act.put, List.setIfInBounds_toArray, List.set_cons_zero, List.set_cons_succ, i64_w, i32_w]
      rfl
    refine pure_ (i := 5) (N := some 44) (v := ?_) (a' := ?_) #[true, true, true, true, true, true, false, false, false, false, false, false, false, false, false, false, false, false, false, false, false] rfl rfl (by kernel_rfl) (fun _ _ _ h => h) (Or.inl ⟨by rfl, ?_⟩) ?_ ?_
    rotate_left
    · intro w'
      go_simp
      with_reducible rfl
    rotate_left
    · simp only [Act.put, List.setIfInBounds_toArray, List.set_cons_zero, List.set_cons_succ, i64_w, i32_w]
      rfl
    refine pure_ (i := 6) (N := some 45) (v := ?_) (a' := ?_) #[true, true, true, true, true, true, true, false, false, false, false, false, false, false, false, false, false, false, false, false, false] rfl rfl (by kernel_rfl) (fun _ _ _ h => h) (Or.inl ⟨by rfl, ?_⟩) ?_ ?_
    rotate_left
    · intro w'
      go_simp
      with_reducible rfl
    rotate_left
    · simp only [Act.put, List.setIfInBounds_toArray, List.set_cons_zero, List.set_cons_succ, i64_w, i32_w]
      rfl
    refine take_ (i := 7) (N := some 46) (v := ?_) (a' := ?_) #[true, true, true, true, true, true, true, true, false, false, false, false, false, false, false, false, false, false, false, false, false] rfl rfl (by kernel_rfl) (fun _ _ _ h => h) (Or.inl ⟨by rfl, ?_⟩) hHeld ?_ ?_
    rotate_left
    · intro w' s0
      refine (load_yields rfl rfl s0).trans ?_
      with_reducible rfl
    rotate_left
    · simp only [Act.put, List.setIfInBounds_toArray, List.set_cons_zero, List.set_cons_succ, i64_w, i32_w]
      rfl
    refine take_ (i := 9) (N := some 48) (v := ?_) (a' := ?_) #[true, true, true, true, true, true, true, true, false, true, false, false, false, false, false, false, false, false, false, false, false] rfl rfl (by kernel_rfl) (fun _ _ _ h => h) (Or.inl ⟨by rfl, ?_⟩) hHeld ?_ ?_
    rotate_left
    · intro w' s0
      refine (load_yields rfl rfl s0).trans ?_
      with_reducible rfl
    rotate_left
    · simp only [Act.put, List.setIfInBounds_toArray, List.set_cons_zero, List.set_cons_succ, i64_w, i32_w]
      rfl
    refine one_ (i := 8) (N := some 47) #[true, true, true, true, true, true, true, true, true, true, false, false, false, false, false, false, false, false, false, false, false] rfl rfl (by kernel_rfl) (by decide) (fun K hK => ?_)
    refine goes_ Try.func32 (by kernel_rfl) rfl #[.pointer none, .agg (cellsOf .u8 (ib b))] (by rfl) rfl rfl (by simp only [List.map_toArray, List.map_cons, List.map_nil]; rfl) ?_
    with_reducible refine (CU0.out _).mono ?_
    rintro e w41 ⟨rfl, hb41⟩
    refine ⟨_, rfl, ?_⟩
    have M1 := Aside0.mk (Mem.below M1.out hb41)
    have HB := Aside0.mk (below_step HB.out hb41); have HX := Aside0.mk (HX.out.below hb41); have HC := Aside0.mk (Ch.step HC.out hb41)
    clear hb41
    refine hK.out _ _ ((mem_loads16 M1.out LB.out)) (fun hHeld => ?_)
    clear hK K
    refine norm_ (a' := ?_) ?_ ?_
    rotate_left
    · show Act.put _ (some 47) _ = _
      simp only [Act.put, List.setIfInBounds_toArray, List.set_cons_zero, List.set_cons_succ, i64_w, i32_w]
      rfl
    refine pure_ (i := 10) (N := some 49) (v := ?_) (a' := ?_) #[true, true, true, true, true, true, true, true, true, true, true, false, false, false, false, false, false, false, false, false, false] rfl rfl (by kernel_rfl) (fun _ _ _ h => h) (Or.inl ⟨by rfl, ?_⟩) ?_ ?_
    rotate_left
    · intro w'
      refine (eql_yields rfl rfl rfl guard16 (EN.out w')).trans ?_
      with_reducible rfl
    rotate_left
    · simp only [Act.put, List.setIfInBounds_toArray, List.set_cons_zero, List.set_cons_succ, i64_w, i32_w]
      rfl
    refine pure_ (i := 11) (N := some 50) (v := ?_) (a' := ?_) #[true, true, true, true, true, true, true, true, true, true, true, true, false, false, false, false, false, false, false, false, false] rfl rfl (by kernel_rfl) (fun _ _ _ h => h) (Or.inl ⟨by rfl, ?_⟩) ?_ ?_
    rotate_left
    · intro w'
      go_simp
      with_reducible rfl
    rotate_left
    · simp only [Act.put, List.setIfInBounds_toArray, List.set_cons_zero, List.set_cons_succ, i64_w, i32_w]
      rfl
    refine pure_ (i := 12) (N := some 51) (v := ?_) (a' := ?_) #[true, true, true, true, true, true, true, true, true, true, true, true, true, false, false, false, false, false, false, false, false] rfl rfl (by kernel_rfl) (fun _ _ _ h => h) (Or.inl ⟨by rfl, ?_⟩) ?_ ?_
    rotate_left
    · intro w'
      go_simp
      with_reducible rfl
    rotate_left
    · simp only [Act.put, List.setIfInBounds_toArray, List.set_cons_zero, List.set_cons_succ, i64_w, i32_w]
      rfl
    refine pure_ (i := 13) (N := some 52) (v := ?_) (a' := ?_) #[true, true, true, true, true, true, true, true, true, true, true, true, true, true, false, false, false, false, false, false, false] rfl rfl (by kernel_rfl) (fun _ _ _ h => h) (Or.inl ⟨by rfl, ?_⟩) ?_ ?_
    rotate_left
    · intro w'
      go_simp
      with_reducible rfl
    rotate_left
    · simp only [Act.put, List.setIfInBounds_toArray, List.set_cons_zero, List.set_cons_succ, i64_w, i32_w]
      rfl
    refine pure_ (i := 14) (N := some 53) (v := ?_) (a' := ?_) #[true, true, true, true, true, true, true, true, true, true, true, true, true, true, true, false, false, false, false, false, false] rfl rfl (by kernel_rfl) (fun _ _ _ h => h) (Or.inl ⟨by rfl, ?_⟩) ?_ ?_
    rotate_left
    · intro w'
      go_simp
      with_reducible rfl
    rotate_left
    · simp only [Act.put, List.setIfInBounds_toArray, List.set_cons_zero, List.set_cons_succ, i64_w, i32_w]
      rfl
    refine pure_ (i := 15) (N := some 54) (v := ?_) (a' := ?_) #[true, true, true, true, true, true, true, true, true, true, true, true, true, true, true, true, false, false, false, false, false] rfl rfl (by kernel_rfl) (fun _ _ _ h => h) (Or.inl ⟨by rfl, ?_⟩) ?_ ?_
    rotate_left
    · intro w'
      go_simp
      with_reducible rfl
    rotate_left
    · simp only [Act.put, List.setIfInBounds_toArray, List.set_cons_zero, List.set_cons_succ, i64_w, i32_w]
      rfl
    refine pure_ (i := 16) (N := some 55) (v := ?_) (a' := ?_) #[true, true, true, true, true, true, true, true, true, true, true, true, true, true, true, true, true, false, false, false, false] rfl rfl (by kernel_rfl) (fun _ _ _ h => h) (Or.inl ⟨by rfl, ?_⟩) ?_ ?_
    rotate_left
    · intro w'
      go_simp
      with_reducible rfl
    rotate_left
    · simp only [Act.put, List.setIfInBounds_toArray, List.set_cons_zero, List.set_cons_succ, i64_w, i32_w]
      rfl
    refine one_ (i := 17) (N := some 56) #[true, true, true, true, true, true, true, true, true, true, true, true, true, true, true, true, true, true, false, false, false] rfl rfl (by kernel_rfl) (by decide) (fun K hK => ?_)
    refine goes_ Try.func15 (by kernel_rfl) rfl #[.int .i64 (N : Int)] (by rfl) rfl rfl (by simp only [List.map_toArray, List.map_cons, List.map_nil]; rfl) ?_
    with_reducible refine (CRO.out.q _).mono ?_
    rintro e w42 ⟨rfl, hb42⟩
    refine ⟨_, rfl, ?_⟩
    have M1 := Aside0.mk (Mem.below M1.out hb42)
    have HB := Aside0.mk (below_step HB.out hb42); have HX := Aside0.mk (HX.out.below hb42); have HC := Aside0.mk (Ch.step HC.out hb42)
    clear hb42
    refine hK.out _ _ ((mem_loads16 M1.out LB.out)) (fun hHeld => ?_)
    clear hK K
    refine norm_ (a' := ?_) ?_ ?_
    rotate_left
    · show Act.put _ (some 56) _ = _
      simp only [Act.put, List.setIfInBounds_toArray, List.set_cons_zero, List.set_cons_succ, i64_w, i32_w]
      rfl
    refine pure_ (i := 18) (N := some 57) (v := ?_) (a' := ?_) #[true, true, true, true, true, true, true, true, true, true, true, true, true, true, true, true, true, true, true, false, false] rfl rfl (by kernel_rfl) (fun _ _ _ h => h) (Or.inl ⟨by rfl, ?_⟩) ?_ ?_
    rotate_left
    · intro w'
      go_simp
      with_reducible rfl
    rotate_left
    · simp only [Act.put, List.setIfInBounds_toArray, List.set_cons_zero, List.set_cons_succ, i64_w, i32_w]
      rfl
    refine pure_ (i := 19) (N := some 58) (v := ?_) (a' := ?_) #[true, true, true, true, true, true, true, true, true, true, true, true, true, true, true, true, true, true, true, true, false] rfl rfl (by kernel_rfl) (fun _ _ _ h => h) (Or.inl ⟨by rfl, ?_⟩) ?_ ?_
    rotate_left
    · intro w'
      go_simp
      with_reducible rfl
    rotate_left
    · simp only [Act.put, List.setIfInBounds_toArray, List.set_cons_zero, List.set_cons_succ, i64_w, i32_w]
      rfl
    refine pure_ (i := 20) (N := some 59) (v := ?_) (a' := ?_) #[true, true, true, true, true, true, true, true, true, true, true, true, true, true, true, true, true, true, true, true, true] rfl rfl (by kernel_rfl) (fun _ _ _ h => h) (Or.inl ⟨by rfl, ?_⟩) ?_ ?_
    rotate_left
    · intro w'
      go_simp
      with_reducible rfl
    rotate_left
    · simp only [Act.put, List.setIfInBounds_toArray, List.set_cons_zero, List.set_cons_succ, i64_w, i32_w]
      rfl
    refine done_ (by kernel_rfl) ?_
    clear hl0 HB
    go_upto_region 9 with (fail)
    have NE1 := Aside0.mk (show w.heap.size ≠ bx by have := HBX.out; omega)
    have HBX2 := Aside0.mk (Nat.le_of_lt HBX.out)
    have hl0 := mem_loads16 (Mem.drew M1.out) LB.out
    refine start_ (n := 20) (S := fun w' => (loadVar 31 ⟨w.heap.size, 0, none⟩).run Try.prog w' = .ok (.agg (cellsOf .u8 (ib b))) w') (ds := []) #[false, false, false, false, false, false, false, false, false, false, false, false, false, false, false, false, false, false, false, false] (by kernel_rfl) rfl rfl (hl0) (fun hHeld => ?_)
    refine pure_ (i := 0) (N := some 71) (v := ?_) (a' := ?_) #[true, false, false, false, false, false, false, false, false, false, false, false, false, false, false, false, false, false, false, false] rfl rfl (by kernel_rfl) (fun _ _ _ h => h) (Or.inl ⟨by rfl, ?_⟩) ?_ ?_
    rotate_left
    · intro w'
      go_simp
      with_reducible rfl
    rotate_left
    · simp only [Act.put, List.setIfInBounds_toArray, List.set_cons_zero, List.set_cons_succ, i64_w, i32_w]
      rfl
    refine pure_ (i := 3) (N := some 74) (v := ?_) (a' := ?_) #[true, false, false, true, false, false, false, false, false, false, false, false, false, false, false, false, false, false, false, false] rfl rfl (by kernel_rfl) (fun _ _ _ h => h) (Or.inl ⟨by rfl, ?_⟩) ?_ ?_
    rotate_left
    · intro w'
      go_simp
      with_reducible rfl
    rotate_left
    · simp only [Act.put, List.setIfInBounds_toArray, List.set_cons_zero, List.set_cons_succ, i64_w, i32_w]
      rfl
    refine take_ (i := 1) (N := some 72) (v := ?_) (a' := ?_) #[true, true, false, true, false, false, false, false, false, false, false, false, false, false, false, false, false, false, false, false] rfl rfl (by kernel_rfl) (fun _ _ _ h => h) (Or.inl ⟨by rfl, ?_⟩) hHeld ?_ ?_
    rotate_left
    · intro w' s0
      refine (load_yields rfl rfl s0).trans ?_
      with_reducible rfl
    rotate_left
    · simp only [Act.put, List.setIfInBounds_toArray, List.set_cons_zero, List.set_cons_succ, i64_w, i32_w]
      rfl
    refine take_ (i := 4) (N := some 75) (v := ?_) (a' := ?_) #[true, true, false, true, true, false, false, false, false, false, false, false, false, false, false, false, false, false, false, false] rfl rfl (by kernel_rfl) (fun _ _ _ h => h) (Or.inl ⟨by rfl, ?_⟩) hHeld ?_ ?_
    rotate_left
    · intro w' s0
      refine (load_yields rfl rfl s0).trans ?_
      with_reducible rfl
    rotate_left
    · simp only [Act.put, List.setIfInBounds_toArray, List.set_cons_zero, List.set_cons_succ, i64_w, i32_w]
      rfl
    refine one_ (i := 2) (N := some 73) #[true, true, true, true, true, false, false, false, false, false, false, false, false, false, false, false, false, false, false, false] rfl rfl (by kernel_rfl) (by decide) (fun K hK => ?_)
    refine goes_ Try.func31 (by kernel_rfl) rfl #[.pointer (some ⟨g, 0, none⟩), .agg (cellsOf .u8 (ib b))] (by rfl) rfl rfl (by simp only [List.map_toArray, List.map_cons, List.map_nil]; rfl) ?_
    have M1 := Aside0.mk (Mem.drew M1.out)
    have HX := Aside0.mk (HX.out.below (below_drew (Below.refl _ _)))
    have HC := Aside0.mk (Ch.step HC.out (below_drew (Below.refl _ _)))
    with_reducible refine (CB1.out g bx _ HX.out.all).mono ?_
    rintro e w70 ⟨rfl, hx70, hc70⟩
    refine ⟨_, rfl, ?_⟩
    have M1 := Aside0.mk (mem_ch M1.out hc70 NE1.out)
    have HX := Aside0.mk (HX.out.ch hc70 hx70.box)
    have HC := Aside0.mk (HC.out.trans hc70)
    clear hc70 hx70
    refine hK.out _ _ ((mem_loads16 M1.out LB.out)) (fun hHeld => ?_)
    clear hK K
    refine norm_ (a' := ?_) ?_ ?_
    rotate_left
    · show Act.put _ (some 73) _ = _
      simp only [Act.put, List.setIfInBounds_toArray, List.set_cons_zero, List.set_cons_succ, i64_w, i32_w]
      rfl
    refine one_ (i := 5) (N := some 76) #[true, true, true, true, true, true, false, false, false, false, false, false, false, false, false, false, false, false, false, false] rfl rfl (by kernel_rfl) (by decide) (fun K hK => ?_)
    refine goes_ Try.func34 (by kernel_rfl) rfl #[.slice A N c, .agg (cellsOf .u8 (ib b))] (by rfl) rfl rfl (by simp only [List.map_toArray, List.map_cons, List.map_nil]; rfl) ?_
    with_reducible refine (CRB.out _ (Kd.C_below HCK.out (HC.out.below HB1.out HB1.out.size HBX2.out))).mono ?_
    rintro e w71 ⟨rfl, hb71⟩
    refine ⟨_, rfl, ?_⟩
    have M1 := Aside0.mk (Mem.below M1.out hb71)
    have HX := Aside0.mk (HX.out.below hb71)
    have HC := Aside0.mk (Ch.step HC.out hb71)
    clear hb71
    refine hK.out _ _ ((mem_loads16 M1.out LB.out)) (fun hHeld => ?_)
    clear hK K
    refine norm_ (a' := ?_) ?_ ?_
    rotate_left
    · show Act.put _ (some 76) _ = _
      simp only [Act.put, List.setIfInBounds_toArray, List.set_cons_zero, List.set_cons_succ, i64_w, i32_w]
      rfl
    refine pure_ (i := 6) (N := some 77) (v := ?_) (a' := ?_) #[true, true, true, true, true, true, true, false, false, false, false, false, false, false, false, false, false, false, false, false] rfl rfl (by kernel_rfl) (fun _ _ _ h => h) (Or.inl ⟨by rfl, ?_⟩) ?_ ?_
    rotate_left
    · intro w'
      refine (eql_yields rfl rfl rfl guard16 (EQ1.out w')).trans ?_
      with_reducible rfl
    rotate_left
    · simp only [Act.put, List.setIfInBounds_toArray, List.set_cons_zero, List.set_cons_succ, i64_w, i32_w]
      rfl
    refine pure_ (i := 7) (N := some 78) (v := ?_) (a' := ?_) #[true, true, true, true, true, true, true, true, false, false, false, false, false, false, false, false, false, false, false, false] rfl rfl (by kernel_rfl) (fun _ _ _ h => h) (Or.inl ⟨by rfl, ?_⟩) ?_ ?_
    rotate_left
    · intro w'
      go_simp
      with_reducible rfl
    rotate_left
    · simp only [Act.put, List.setIfInBounds_toArray, List.set_cons_zero, List.set_cons_succ, i64_w, i32_w]
      rfl
    refine pure_ (i := 8) (N := some 79) (v := ?_) (a' := ?_) #[true, true, true, true, true, true, true, true, true, false, false, false, false, false, false, false, false, false, false, false] rfl rfl (by kernel_rfl) (fun _ _ _ h => h) (Or.inl ⟨by rfl, ?_⟩) ?_ ?_
    rotate_left
    · intro w'
      go_simp
      with_reducible rfl
    rotate_left
    · simp only [Act.put, List.setIfInBounds_toArray, List.set_cons_zero, List.set_cons_succ, i64_w, i32_w]
      rfl
    refine pure_ (i := 11) (N := some 82) (v := ?_) (a' := ?_) #[true, true, true, true, true, true, true, true, true, false, false, true, false, false, false, false, false, false, false, false] rfl rfl (by kernel_rfl) (fun _ _ _ h => h) (Or.inl ⟨by rfl, ?_⟩) ?_ ?_
    rotate_left
    · intro w'
      go_simp
      with_reducible rfl
    rotate_left
    · simp only [Act.put, List.setIfInBounds_toArray, List.set_cons_zero, List.set_cons_succ, i64_w, i32_w]
      rfl
    refine take_ (i := 9) (N := some 80) (v := ?_) (a' := ?_) #[true, true, true, true, true, true, true, true, true, true, false, true, false, false, false, false, false, false, false, false] rfl rfl (by kernel_rfl) (fun _ _ _ h => h) (Or.inl ⟨by rfl, ?_⟩) hHeld ?_ ?_
    rotate_left
    · intro w' s0
      refine (load_yields rfl rfl s0).trans ?_
      with_reducible rfl
    rotate_left
    · simp only [Act.put, List.setIfInBounds_toArray, List.set_cons_zero, List.set_cons_succ, i64_w, i32_w]
      rfl
    refine take_ (i := 12) (N := some 83) (v := ?_) (a' := ?_) #[true, true, true, true, true, true, true, true, true, true, false, true, true, false, false, false, false, false, false, false] rfl rfl (by kernel_rfl) (fun _ _ _ h => h) (Or.inl ⟨by rfl, ?_⟩) hHeld ?_ ?_
    rotate_left
    · intro w' s0
      refine (load_yields rfl rfl s0).trans ?_
      with_reducible rfl
    rotate_left
    · simp only [Act.put, List.setIfInBounds_toArray, List.set_cons_zero, List.set_cons_succ, i64_w, i32_w]
      rfl
    refine one_ (i := 10) (N := some 81) #[true, true, true, true, true, true, true, true, true, true, true, true, true, false, false, false, false, false, false, false] rfl rfl (by kernel_rfl) (by decide) (fun K hK => ?_)
    refine goes_ Try.func32 (by kernel_rfl) rfl #[.pointer (some ⟨g, 0, none⟩), .agg (cellsOf .u8 (ib b))] (by rfl) rfl rfl (by simp only [List.map_toArray, List.map_cons, List.map_nil]; rfl) ?_
    with_reducible refine (CU1.out g bx _ HX.out.all).mono ?_
    rintro e w72 ⟨rfl, hx72, hc72⟩
    refine ⟨_, rfl, ?_⟩
    have M1 := Aside0.mk (mem_ch M1.out hc72 NE1.out)
    have HX := Aside0.mk (HX.out.ch hc72 hx72.box)
    have HC := Aside0.mk (HC.out.trans hc72)
    clear hc72 hx72
    refine hK.out _ _ ((mem_loads16 M1.out LB.out)) (fun hHeld => ?_)
    clear hK K
    refine norm_ (a' := ?_) ?_ ?_
    rotate_left
    · show Act.put _ (some 81) _ = _
      simp only [Act.put, List.setIfInBounds_toArray, List.set_cons_zero, List.set_cons_succ, i64_w, i32_w]
      rfl
    refine one_ (i := 13) (N := some 84) #[true, true, true, true, true, true, true, true, true, true, true, true, true, true, false, false, false, false, false, false] rfl rfl (by kernel_rfl) (by decide) (fun K hK => ?_)
    refine goes_ Try.func35 (by kernel_rfl) rfl #[.slice A N c, .agg (cellsOf .u8 (ib b))] (by rfl) rfl rfl (by simp only [List.map_toArray, List.map_cons, List.map_nil]; rfl) ?_
    with_reducible refine (CRU.out _ (Kd.C_below HCK.out (HC.out.below HB1.out HB1.out.size HBX2.out))).mono ?_
    rintro e w73 ⟨rfl, hb73⟩
    refine ⟨_, rfl, ?_⟩
    have M1 := Aside0.mk (Mem.below M1.out hb73)
    have HX := Aside0.mk (HX.out.below hb73)
    have HC := Aside0.mk (Ch.step HC.out hb73)
    clear hb73
    refine hK.out _ _ ((mem_loads16 M1.out LB.out)) (fun hHeld => ?_)
    clear hK K
    refine norm_ (a' := ?_) ?_ ?_
    rotate_left
    · show Act.put _ (some 84) _ = _
      simp only [Act.put, List.setIfInBounds_toArray, List.set_cons_zero, List.set_cons_succ, i64_w, i32_w]
      rfl
    refine pure_ (i := 14) (N := some 85) (v := ?_) (a' := ?_) #[true, true, true, true, true, true, true, true, true, true, true, true, true, true, true, false, false, false, false, false] rfl rfl (by kernel_rfl) (fun _ _ _ h => h) (Or.inl ⟨by rfl, ?_⟩) ?_ ?_
    rotate_left
    · intro w'
      refine (eql_yields rfl rfl rfl guard16 (EQ2.out w')).trans ?_
      with_reducible rfl
    rotate_left
    · simp only [Act.put, List.setIfInBounds_toArray, List.set_cons_zero, List.set_cons_succ, i64_w, i32_w]
      rfl
    refine pure_ (i := 15) (N := some 86) (v := ?_) (a' := ?_) #[true, true, true, true, true, true, true, true, true, true, true, true, true, true, true, true, false, false, false, false] rfl rfl (by kernel_rfl) (fun _ _ _ h => h) (Or.inl ⟨by rfl, ?_⟩) ?_ ?_
    rotate_left
    · intro w'
      go_simp
      with_reducible rfl
    rotate_left
    · simp only [Act.put, List.setIfInBounds_toArray, List.set_cons_zero, List.set_cons_succ, i64_w, i32_w]
      rfl
    refine pure_ (i := 16) (N := some 87) (v := ?_) (a' := ?_) #[true, true, true, true, true, true, true, true, true, true, true, true, true, true, true, true, true, false, false, false] rfl rfl (by kernel_rfl) (fun _ _ _ h => h) (Or.inl ⟨by rfl, ?_⟩) ?_ ?_
    rotate_left
    · intro w'
      go_simp
      with_reducible rfl
    rotate_left
    · simp only [Act.put, List.setIfInBounds_toArray, List.set_cons_zero, List.set_cons_succ, i64_w, i32_w]
      rfl
    refine one_ (i := 17) (N := some 88) #[true, true, true, true, true, true, true, true, true, true, true, true, true, true, true, true, true, true, false, false] rfl rfl (by kernel_rfl) (by decide) (fun K hK => ?_)
    refine goes_ Try.func33 (by kernel_rfl) rfl #[] (by rfl) rfl rfl (by simp only [List.map_toArray, List.map_cons, List.map_nil]) ?_
    with_reducible refine (CAW.out _).mono ?_
    rintro e w74 ⟨rfl, hb74⟩
    refine ⟨_, rfl, ?_⟩
    have M1 := Aside0.mk (Mem.below M1.out hb74)
    have HX := Aside0.mk (HX.out.below hb74)
    have HC := Aside0.mk (Ch.step HC.out hb74)
    clear hb74
    refine hK.out _ _ ((mem_loads16 M1.out LB.out)) (fun hHeld => ?_)
    clear hK K
    refine norm_ (a' := ?_) ?_ ?_
    rotate_left
    · show Act.put _ (some 88) _ = _
      simp only [Act.put, List.setIfInBounds_toArray, List.set_cons_zero, List.set_cons_succ, i64_w, i32_w]
      rfl
    refine pure_ (i := 18) (N := some 89) (v := ?_) (a' := ?_) #[true, true, true, true, true, true, true, true, true, true, true, true, true, true, true, true, true, true, true, false] rfl rfl (by kernel_rfl) (fun _ _ _ h => h) (Or.inl ⟨by rfl, ?_⟩) ?_ ?_
    rotate_left
    · intro w'
      go_simp
      with_reducible rfl
    rotate_left
    · simp only [Act.put, List.setIfInBounds_toArray, List.set_cons_zero, List.set_cons_succ, i64_w, i32_w]
      rfl
    refine pure_ (i := 19) (N := some 4) (v := ?_) (a' := ?_) #[true, true, true, true, true, true, true, true, true, true, true, true, true, true, true, true, true, true, true, true] rfl rfl (by kernel_rfl) (fun _ _ _ h => h) (Or.inl ⟨by rfl, ?_⟩) ?_ ?_
    rotate_left
    · intro w'
      go_simp
      with_reducible rfl
    rotate_left
    · simp only [Act.put, List.setIfInBounds_toArray, List.set_cons_zero, List.set_cons_succ, i64_w, i32_w]
      rfl
    refine done_ (by kernel_rfl) ?_
    clear hl0
    go_wp2
    go_ret
    exact ⟨rfl, HC.out.below HB1.out HB1.out.size HBX2.out⟩
theorem atell_walk (a0 : Option Addr) (len0 cap0 : Nat) (z0 l1 : List Int) (w : World) (w0 : Slices.IsRow .u8 w a0 len0 cap0 z0) (y0 : len0 * 1 ≤ 140737488351232) (n1 : l1.length = 16) (w1 : ∀ x ∈ l1, (Lit.int .u8 x).wf = true) :
    Calls Try.prog 5 #[.slice a0 len0 cap0, arrV .u8 l1] w fun e w' => e = .returned (.bool true) ∧ Below w.heap.size w w' := by
  obtain ⟨hsl, hlen, hwf⟩ := w0.sl
  obtain ⟨A, c, hv, hc, hC⟩ := hsl
  injection hv with e1 e2 e3
  subst e1
  subst e3
  obtain ⟨k, hk⟩ := ib_of (fun x hx => wf_u8 (hwf x hx))
  obtain ⟨q, rfl⟩ := ib_of (fun x hx => wf_u8 (w1 x hx))
  rw [ib_length] at n1
  rw [hk, ib_length] at hlen
  rw [hk, ib_length] at hC hc
  rw [arrV_eq]
  subst hlen
  exact atell_c k q n1 a0 cap0 hc w hC
end Go.Proofs.Ytpdikfmdnlhllaa.Aes
