/-
  Merged texts, what is reached of them: KeyMade, Append, KeyExp, AesNew, AesAwk, CmMath, CmEval, CmKnown, Cmac1, Cmac2, Cmac3, Cmac4, Cmac5, Cmac6, Cmac7, Cmac8, CmRow: walks and plain lemmas; no condition.
-/
import Derived.Test.YtpdikfmdnlhllaaCgA
import Derived.Test.YtpdikfmdnlhllaaAesMath
import Derived.Test.YtpdikfmdnlhllaaOctet
import Derived.Test.YtpdikfmdnlhllaaPNibx3
import Derived.Lib.Bytes
import Derived.Deep.MidRow
import Derived.Laws.Cover3
import Derived.Test.YtpdikfmdnlhllaaSlices
namespace Go.Proofs.Ytpdikfmdnlhllaa.Aes
open Go.RowKit Go.Proofs.Ytpdikfmdnlhllaa.PNib Go.Proofs.YtpdikfmdnlhllaaW.PrintWords Go.Proofs.YtpdikfmdnlhllaaW.PrintLast Go.Proofs.YtpdikfmdnlhllaaW.PrintMore Byte Sl Arr Mem Gives ArrEq Mat AesMath AesMov AesLin HandKit
set_option linter.unusedVariables false
set_option linter.unusedSimpArgs false
theorem mark_c (n : Int) (h : n < 9223372036854775808) (h0 : -9223372036854775808 ≤ n) : Gives 16 #[.int .i64 n] (.int .u8 (markI n)) := fun w => keys_Mark.calls 100 _ _ w (mark_i n h h0)
theorem Ch.belowB {bx : Nat} {w W w1 : World} (h : Ch bx w W) (hb : Below w.heap.size W w1) : Ch bx w w1 :=
  ⟨hb.os.trans h.os, hb.tape.trans h.tape, hb.output.trans h.output, Nat.le_trans h.size hb.size, fun i hi hne => (hb.block i hi).trans (h.block i hi hne)⟩
theorem BoxS.belowB {bx n : Nat} {W w1 : World} (h : BoxS W bx) (hb : Below n W w1) (hn : bx < n) : BoxS w1 bx := by
  rcases h with h | ⟨F, h, r⟩
  · exact Or.inl ((hb.block _ hn).trans h)
  · exact Or.inr ⟨F, (hb.block _ hn).trans h, r⟩
theorem q_small {q : Nat} (h : q < 100) : -9223372036854775808 ≤ (q : Int) ∧ (q : Int) < 9223372036854775808 ∧ q < 9223372036854775808 := by omega
set_option maxHeartbeats 4000000 in
set_option maxRecDepth 100000 in
theorem made_c (w4 : List B) (hw4 : w4.length = 4) (i k : Nat) (hk0 : 0 < k) (hk8 : k ≤ 8) (hi : i < 100) (bx : Nat) (A : Option Addr) (c : Nat) (hc : 4 ≤ c) (w : World) (hC : Kd.C (Kd.int .u8) w A 4 (ib w4)) (hX : BoxS w bx) : Calls Try.prog 67 #[.pointer (some ⟨bx, 0, none⟩), .slice A 4 c, .int .i64 (i : Int), .int .i64 (k : Int)] w fun e w' => ∃ v, e = .returned v ∧ Ow w' w.heap.size v (ib (madeB w4 i k)) ∧ BoxS w' bx ∧ Ch bx w w' := by
  have HL := Aside0.mk (show (ib w4).length = 4 by rw [ib_length, hw4])
  have HCC := Aside0.mk hC
  have HX := Aside0.mk hX
  have HXL := Aside0.mk hX.lt
  have HB := Aside0.mk (Below.refl w.heap.size w)
  obtain ⟨m, hm⟩ : ∃ m, m = i % k := ⟨_, rfl⟩
  obtain ⟨q, hq⟩ : ∃ q, q = i / k := ⟨_, rfl⟩
  have ht1 : Int.tmod (i : Int) (k : Int) = (m : Int) := by rw [Int.tmod_eq_emod_of_nonneg (by omega), hm]; rfl
  have ht2 : (i : Int) % (k : Int) = (m : Int) := by rw [hm]; rfl
  have hd1 : Int.tdiv (i : Int) (k : Int) = (q : Int) := by rw [Int.tdiv_eq_ediv_of_nonneg (by omega), hq]; rfl
  have hd2 : (i : Int) / (k : Int) = (q : Int) := by rw [hq]; rfl
  have hkz : ((k : Int) = 0) = False := by apply eq_false; omega
  have hkz2 : ((k : Int) == 0) = false := by rw [beq_eq_false_iff_ne]; omega
  have hkz3 : (k = 0) = False := by apply eq_false; omega
  clear hC hX
  have hmk : m < k := by rw [hm]; exact Nat.mod_lt _ hk0
  by_cases hz : m = 0
  · have hres : madeB w4 i k = (([w4.getD 1 0#8, w4.getD 2 0#8, w4.getD 3 0#8, w4.getD 0 0#8] : List B).map subB).set 0 (subB (w4.getD 1 0#8) ^^^ AesMath.mark q) := by
      unfold madeB
      rw [if_pos (by rw [← hm]; exact hz), hq]
      rfl
    rw [hres]
    obtain ⟨xt, hxt⟩ : ∃ z, z = ([w4.getD 1 0#8, w4.getD 2 0#8, w4.getD 3 0#8, w4.getD 0 0#8] : List B) := ⟨_, rfl⟩
    have HXT := Aside0.mk (show (ib w4).drop 1 ++ [I8 (w4.getD 0 0#8)] = ib xt by
      rw [hxt]
      match w4, hw4 with
      | [p0, p1, p2, p3], _ => rfl)
    have HLX := Aside0.mk (show xt.length = 4 by rw [hxt]; rfl)
    have HYT := Aside0.mk (show subB (w4.getD 1 0#8) = (xt.map subB).getD 0 0#8 by rw [hxt]; rfl)
    rw [← hxt, HYT.out]
    clear hxt HYT
    obtain ⟨a0, rfl, hx0⟩ := Kd.at_int HCC.out (0 : Int) (by decide) (by decide)
    have HX0 := Aside0.mk (show w.cell? a0 = some (.int .u8 (I8 (w4.getD 0 0#8))) from by
      have h := hx0.trans (show some (Value.int .u8 ((ib w4).getD 0 0)) = some (.int .u8 (I8 (w4.getD 0 0#8))) by rw [ib_getD])
      rwa [show a0.add (Int.toNat 0) = a0 by simp [Addr.add]] at h)
    have HQ := Aside0.mk (show -9223372036854775808 ≤ (q : Int) ∧ (q : Int) < 9223372036854775808 ∧ q < 9223372036854775808 from q_small (by rw [hq]; exact Nat.lt_of_le_of_lt (Nat.div_le_self i k) hi))
    clear hx0 hres hm hq
    subst hz
    go_enter Try.func67, Try.ntmps67
    go_wp2_with (first
      | ((with_reducible refine gate_dst (N := 13) rfl ?_); refine Kd.R_lit (Kd.int .u8) w.heap.size 5 ?hg (N := 13) ?hd (w0 := w) (xs := ([] : List Int)) (inner := []) (ok := fun k => w.heap.size ≤ k) (okp := fun _ => False) ?hr ?hp (fun _ hk => hk.elim) HB.out.size HB.out HB.out.size (by simp) ?_; (case hd => rfl); (case hg => rfl); (case hr => first | (go_simp; done) | (go_simp; rfl)); (case hp => exact (Reps.none _ _)); intro v1 w3 ho4 hb hg_ hnew_; have HB := Aside0.mk hb; obtain ⟨Av, cv, rfl, hcv, hrd⟩ := Kd.R_reads ho4; have HO := Aside0.mk ho4; clear hb ho4 hg_ hnew_ hrd hcv)
      | ((with_reducible refine gate_builtin (b := .append) (xs := #[.tmp 13, .tmp 14]) rfl ?_); refine Kd.R_append_rows (Kd.int .u8) (w0 := w) w.heap.size rfl (.tmp 13) (.tmp 14) 22 5 (.int .u8 0) 1 rfl Try.underlying22 info_u8 rfl (by decide) (by omega) _ [] (ib w4) (some a0) _ _ (fun k => w.heap.size ≤ k) (fun _ => False) rfl rfl HO.out (show ReadsRow _ _ _ _ _ _ from Kd.C_below HCC.out HB.out) (fun _ _ h => h) (fun _ h => h.elim) (fun k hk => Nat.le_trans HB.out.size hk) HB.out HB.out.size ?aL ?_; (case aL => exact (by simp only [List.length_nil]; omega)); intro v2 w5 ho hb hg hat; have HB := Aside0.mk hb; have ho' : Ow w5 w.heap.size v2 (ib w4) := Ow.of_R ho (Nat.le_refl _); obtain ⟨go, oo, co, hv, _⟩ := Kd.Q_form ho' (by rw [HL.out]; decide); rw [HL.out] at hv; subst hv; have HO2 := Aside0.mk ho'; clear HO ho ho' hb hg hat))
    have HCO := Aside0.mk (Kd.Q_reads' HO2.out).2.1
    have hco1 : (co = 1) = False := by apply eq_false; have := HCO.out; omega
    have hx := show _ = some (Value.int .u8 (I8 (w4.getD 0 0#8))) from pw_cell_below (below_drew HB.out) HX0.out
    go_wp2
    generalize w4.getD 0 0#8 = x0 at *
    refine start_ (n := 8) (S := fun w' => w'.cell? a0 = some (.int .u8 (I8 x0))) (ds := []) #[false, false, false, false, false, false, false, false] (by kernel_rfl) rfl rfl (hx) (fun hHeld => ?_)
    refine pure_ (i := 0) (N := some 21) (v := ?_) (a' := ?_) #[true, false, false, false, false, false, false, false] rfl rfl (by kernel_rfl) (fun _ _ _ h => h) (Or.inl ⟨by rfl, ?_⟩) ?_ ?_
    rotate_left
    · intro w'
      go_simp
      with_reducible rfl
    rotate_left
    · simp only [Act.put, List.setIfInBounds_toArray, List.set_cons_zero, List.set_cons_succ, i64_w, i32_w]
      rfl
    refine pure_ (i := 1) (N := some 22) (v := ?_) (a' := ?_) #[true, true, false, false, false, false, false, false] rfl rfl (by kernel_rfl) (fun _ _ _ h => h) (Or.inl ⟨by rfl, ?_⟩) ?_ ?_
    rotate_left
    · intro w'
      go_simp
      with_reducible rfl
    rotate_left
    · simp only [Act.put, List.setIfInBounds_toArray, List.set_cons_zero, List.set_cons_succ, i64_w, i32_w]
      rfl
    refine pure_ (i := 2) (N := some 23) (v := ?_) (a' := ?_) #[true, true, true, false, false, false, false, false] rfl rfl (by kernel_rfl) (fun _ _ _ h => h) (Or.inl ⟨by rfl, ?_⟩) ?_ ?_
    rotate_left
    · intro w'
      go_simp
      with_reducible rfl
    rotate_left
    · simp only [Act.put, List.setIfInBounds_toArray, List.set_cons_zero, List.set_cons_succ, i64_w, i32_w]
      rfl
    refine pure_ (i := 3) (N := some 24) (v := ?_) (a' := ?_) #[true, true, true, true, false, false, false, false] rfl rfl (by kernel_rfl) (fun _ _ _ h => h) (Or.inl ⟨by rfl, ?_⟩) ?_ ?_
    rotate_left
    · intro w'
      go_simp
      with_reducible rfl
    rotate_left
    · simp only [Act.put, List.setIfInBounds_toArray, List.set_cons_zero, List.set_cons_succ, i64_w, i32_w]
      rfl
    refine take_ (i := 4) (N := some 25) (v := ?_) (a' := ?_) #[true, true, true, true, true, false, false, false] rfl rfl (by kernel_rfl) (fun _ _ _ h => h) (Or.inl ⟨by rfl, ?_⟩) hHeld ?_ ?_
    rotate_left
    · intro w' s0
      go_simp
      with_reducible rfl
    rotate_left
    · simp only [Act.put, List.setIfInBounds_toArray, List.set_cons_zero, List.set_cons_succ, i64_w, i32_w]
      rfl
    refine one_ (i := 5) (N := some 26) #[true, true, true, true, true, true, false, false] rfl rfl (by kernel_rfl) (by decide) (fun K hK => ?_)
    refine value_ (w1 := ?_) (v := ?_) (by rfl) rfl ?_ ?_
    rotate_left 2
    · go_simp
      constructor
      · rfl
      · rfl
    refine hK.out _ _ ((pw_cell_below (below_alloc (below_drew HB.out) _) HX0.out)) (fun hHeld => ?_)
    clear hK K
    refine norm_ (a' := ?_) ?_ ?_
    rotate_left
    · show Act.put _ (some 26) _ = _
      simp only [Act.put, List.setIfInBounds_toArray, List.set_cons_zero, List.set_cons_succ, i64_w, i32_w]
      rfl
    refine one_ (i := 6) (N := some 27) #[true, true, true, true, true, true, true, false] rfl rfl (by kernel_rfl) (by decide) (fun K hK => ?_)
    rw [show (w5.alloc (.cells #[.int .u8 (I8 x0)] 5)).drew = (w5.drew).alloc (.cells [Value.int .u8 (I8 x0)].toArray 5) from rfl]
    refine Kd.Q_append_step (Kd.int .u8) (w0 := w) w.heap.size (by rfl) (.tmp 22) (.tmp 26) 22 5 (.int .u8 0) 1 rfl Try.underlying22 info_u8 rfl (by decide) (by omega) (.slice (some ⟨go, oo + 1, none⟩) 3 (co - 1)) ((ib w4).drop 1) (I8 x0) [.int .u8 (I8 x0)] (fun k => w.heap.size ≤ k) (fun _ => False) rfl rfl ?aP (fun _ hk => hk.elim) ?aF ?aO ?aB ?aS ?aL ?_
    (case aP => exact rfl)
    (case aF => exact (fun k hk => Nat.le_trans (below_drew HB.out).size hk))
    (case aO => exact (by have h := Kd.Q_drop (k := 1) HO2.out.drew (by rw [HL.out]; decide); rw [if_neg (by have := HCO.out; omega)] at h; exact h))
    (case aB => exact below_drew HB.out)
    (case aS => exact (below_drew HB.out).size)
    (case aL => rw [List.length_drop, HL.out]; decide)
    intro v7 w10 ho hb hg hat
    have ho := show Ow w10 w.heap.size v7 (ib xt) from by rw [← HXT.out]; exact ho
    obtain ⟨go, oo, co, hv, _⟩ := Kd.Q_form ho (by rw [ib_length, HLX.out]; decide)
    rw [ib_length, HLX.out] at hv
    subst hv
    have HO2 := Aside0.mk ho
    have HB := Aside0.mk hb
    clear ho hb hg hat hco1 HCO
    refine hK.out _ _ ((pw_cell_below HB.out HX0.out)) (fun hHeld => ?_)
    clear hK K
    refine norm_ (a' := ?_) ?_ ?_
    rotate_left
    · show Act.put _ (some 27) _ = _
      simp only [Act.put, List.setIfInBounds_toArray, List.set_cons_zero, List.set_cons_succ, i64_w, i32_w]
      rfl
    refine pure_ (i := 7) (N := some 9) (v := ?_) (a' := ?_) #[true, true, true, true, true, true, true, true] rfl rfl (by kernel_rfl) (fun _ _ _ h => h) (Or.inl ⟨by rfl, ?_⟩) ?_ ?_
    rotate_left
    · intro w'
      go_simp
      with_reducible rfl
    rotate_left
    · simp only [Act.put, List.setIfInBounds_toArray, List.set_cons_zero, List.set_cons_succ, i64_w, i32_w]
      rfl
    refine done_ (by kernel_rfl) ?_
    go_wp2
    have HC := Aside0.mk (Ch.of_below (g := bx) HB.out)
    have HX := Aside0.mk (HX.out.below HB.out)
    have HS := Aside0.mk (fun j (h : j < 4) => fillTo_set (ib (xt.map subB)) (ib xt) (by rw [ib_length, ib_length, List.length_map]) j (by rw [ib_length, HLX.out]; exact h) (I8 (subB (xt.getD j 0#8))) (by rw [ib_getD, map_getD _ _ _ (by rw [HLX.out]; exact h)]))
    have HFG := Aside0.mk (fun j (h : j < 4) => show (fillTo (ib (xt.map subB)) (ib xt) j).getD j 0 = I8 (xt.getD j 0#8) by rw [fillTo_ge _ _ (by rw [ib_length, ib_length, List.length_map]) j j (by rw [ib_length, HLX.out]; omega) (Nat.le_refl _)]; exact ib_getD xt j)
    have HE := Aside0.mk (show fillTo (ib (xt.map subB)) (ib xt) 4 = ib (xt.map subB) by rw [show 4 = (ib xt).length by rw [ib_length, HLX.out]]; exact fillTo_end _ _ (by rw [ib_length, ib_length, List.length_map]))
    have HFL := Aside0.mk (fun j => show (fillTo (ib (xt.map subB)) (ib xt) j).length = 4 by rw [fillTo_length _ _ (by rw [ib_length, ib_length, List.length_map]), ib_length, HLX.out])
    have HO := Aside0.mk (show Ow _ w.heap.size _ (fillTo (ib (xt.map subB)) (ib xt) 0) by rw [fillTo_zero]; exact HO2.out)
    generalize hre : ib (xt.map subB) = r at *
    have HRE := Aside0.mk hre
    clear hre
    clear HO2 HB
    go_loopg [42] 4 (fun kq iv w' => ∃ j : Nat, j + kq = 4 ∧ iv = .int .i64 (j : Int) ∧ Aside0 (Ow w' w.heap.size (.slice (some ⟨go, oo, none⟩) 4 co) (fillTo r (ib xt) j)) ∧ Aside0 (BoxS w' bx) ∧ Aside0 (Ch bx w w'))
    case atStart => exact ⟨0, by omega, rfl, HO, HX, HC⟩
    case round =>
      clear HO HX HC
      obtain ⟨j, hj, rfl, HO, HX, HC⟩ := hrel
      cases gk with
      | zero =>
        obtain rfl : j = 4 := by omega
        have HO := Aside0.mk (show Ow _ w.heap.size _ r by rw [← HE.out]; exact HO.out)
        clear HS HFL HFG HE
        have CM := Aside0.mk (show Gives 16 #[.int .i64 (q : Int)] (.int .u8 (I8 (AesMath.mark q))) from mark_c q HQ.out.2.1 HQ.out.1)
        have HRL := Aside0.mk (show (ib (xt.map subB)).getD 0 0 = I8 ((xt.map subB).getD 0 0#8) from ib_getD _ _)
        rw [HRE.out] at HRL
        have HP := Aside0.mk (fun (z : B) (W : World) (h : Ow W w.heap.size (.slice (some ⟨go, oo, none⟩) 4 co) r) => show Ow (W.setCell ⟨go, oo, none⟩ (.int .u8 (I8 z))) w.heap.size _ (ib ((xt.map subB).set 0 z)) ∧ W.grownBy (W.setCell ⟨go, oo, none⟩ (.int .u8 (I8 z))) (some go) from by
          have := Kd.Q_putg h (0 : Int) (by decide) (by decide) (I8 z)
          rw [← HRE.out, show (0 : Int).toNat = 0 from rfl, ib_set] at this
          exact this)
        have hq6 : wrap64 (q : Int) = (q : Int) := w64 HQ.out.1 HQ.out.2.1
        have hq7 : IntKind.i64.wrap (q : Int) = (q : Int) := wrap_i64_nat q HQ.out.2.2
        obtain ⟨hx0, hf⟩ := Kd.Q_cell (0 : Int) HO.out (0 : Int) (by decide) (by decide)
        have hx := show _ = some (Value.int .u8 (r.getD 0 0)) from hx0
        clear hx0
        rw [HRL.out] at hx
        have hx := show World.cell? _ ⟨go, oo, none⟩ = _ from hx
        have hf := show World.frozen? _ ⟨go, oo, none⟩ = _ from hf
        have z1 := xor8 ((xt.map subB).getD 0 0#8) (AesMath.mark q)
        generalize hmq : AesMath.mark q = mq at *
        generalize hy0 : (xt.map subB).getD 0 0#8 = y0 at *
        have HMY := Aside0.mk (And.intro hmq hy0)
        clear hmq hy0
        go_wp2
        refine start_ (n := 10) (S := fun w' => w'.cell? ⟨go, oo, none⟩ = some (.int .u8 (I8 y0))) (ds := [9]) #[false, false, false, false, false, false, false, false, false, false] (by kernel_rfl) rfl rfl (hx) (fun hHeld => ?_)
        refine pure_ (i := 0) (N := some 55) (v := ?_) (a' := ?_) #[true, false, false, false, false, false, false, false, false, false] rfl rfl (by kernel_rfl) (fun _ _ _ h => h) (Or.inl ⟨by rfl, ?_⟩) ?_ ?_
        rotate_left
        · intro w'
          go_simp
          with_reducible rfl
        rotate_left
        · simp only [Act.put, List.setIfInBounds_toArray, List.set_cons_zero, List.set_cons_succ, i64_w, i32_w]
          rfl
        refine pure_ (i := 1) (N := some 56) (v := ?_) (a' := ?_) #[true, true, false, false, false, false, false, false, false, false] rfl rfl (by kernel_rfl) (fun _ _ _ h => h) (Or.inl ⟨by rfl, ?_⟩) ?_ ?_
        rotate_left
        · intro w'
          go_simp
          with_reducible rfl
        rotate_left
        · simp only [Act.put, List.setIfInBounds_toArray, List.set_cons_zero, List.set_cons_succ, i64_w, i32_w]
          rfl
        refine pure_ (i := 3) (N := some 58) (v := ?_) (a' := ?_) #[true, true, false, true, false, false, false, false, false, false] rfl rfl (by kernel_rfl) (fun _ _ _ h => h) (Or.inl ⟨by rfl, ?_⟩) ?_ ?_
        rotate_left
        · intro w'
          go_simp
          with_reducible rfl
        rotate_left
        · simp only [Act.put, List.setIfInBounds_toArray, List.set_cons_zero, List.set_cons_succ, i64_w, i32_w]
          rfl
        refine pure_ (i := 4) (N := some 59) (v := ?_) (a' := ?_) #[true, true, false, true, true, false, false, false, false, false] rfl rfl (by kernel_rfl) (fun _ _ _ h => h) (Or.inl ⟨by rfl, ?_⟩) ?_ ?_
        rotate_left
        · intro w'
          go_simp
          with_reducible rfl
        rotate_left
        · simp only [Act.put, List.setIfInBounds_toArray, List.set_cons_zero, List.set_cons_succ, i64_w, i32_w]
          rfl
        refine pure_ (i := 5) (N := some 60) (v := ?_) (a' := ?_) #[true, true, false, true, true, true, false, false, false, false] rfl rfl (by kernel_rfl) (fun _ _ _ h => h) (Or.inl ⟨by rfl, ?_⟩) ?_ ?_
        rotate_left
        · intro w'
          go_simp
          with_reducible rfl
        rotate_left
        · simp only [Act.put, List.setIfInBounds_toArray, List.set_cons_zero, List.set_cons_succ, i64_w, i32_w]
          rfl
        refine take_ (i := 2) (N := some 57) (v := ?_) (a' := ?_) #[true, true, true, true, true, true, false, false, false, false] rfl rfl (by kernel_rfl) (fun _ _ _ h => h) (Or.inl ⟨by rfl, ?_⟩) hHeld ?_ ?_
        rotate_left
        · intro w' s0
          go_simp
          with_reducible rfl
        rotate_left
        · simp only [Act.put, List.setIfInBounds_toArray, List.set_cons_zero, List.set_cons_succ, i64_w, i32_w]
          rfl
        refine one_ (i := 6) (N := some 61) #[true, true, true, true, true, true, true, false, false, false] rfl rfl (by kernel_rfl) (by decide) (fun K hK => ?_)
        refine goes_ Try.func16 (by kernel_rfl) rfl #[.int .i64 (q : Int)] (by rfl) rfl rfl (by simp only [List.map_toArray, List.map_cons, List.map_nil]; rfl) ?_
        with_reducible refine (CM.out.q _).mono ?_
        rintro e w7 ⟨rfl, ⟨⟨n7, rfl⟩⟩⟩
        refine ⟨_, rfl, ?_⟩
        refine hK.out _ _ (hHeld) (fun hHeld => ?_)
        clear hK K
        refine norm_ (a' := ?_) ?_ ?_
        rotate_left
        · show Act.put _ (some 61) _ = _
          simp only [Act.put, List.setIfInBounds_toArray, List.set_cons_zero, List.set_cons_succ, i64_w, i32_w]
          rfl
        refine pure_ (i := 7) (N := some 62) (v := ?_) (a' := ?_) #[true, true, true, true, true, true, true, true, false, false] rfl rfl (by kernel_rfl) (fun _ _ _ h => h) (Or.inl ⟨by rfl, ?_⟩) ?_ ?_
        rotate_left
        · intro w'
          go_simp
          with_reducible rfl
        rotate_left
        · simp only [Act.put, List.setIfInBounds_toArray, List.set_cons_zero, List.set_cons_succ, i64_w, i32_w]
          rfl
        refine pure_ (i := 8) (N := some 63) (v := ?_) (a' := ?_) #[true, true, true, true, true, true, true, true, true, false] rfl rfl (by kernel_rfl) (fun _ _ _ h => h) (Or.inl ⟨by rfl, ?_⟩) ?_ ?_
        rotate_left
        · intro w'
          go_simp
          with_reducible rfl
        rotate_left
        · simp only [Act.put, List.setIfInBounds_toArray, List.set_cons_zero, List.set_cons_succ, i64_w, i32_w]
          rfl
        refine last_ (i := 9) (N := none) #[true, true, true, true, true, true, true, true, true, true] rfl rfl (by kernel_rfl) (by decide) (fun K hK => ?_)
        refine skip_ (w1 := ?_) (by rfl) rfl ?_ ?_
        rotate_left
        · go_simp
          rfl
        refine hK.out _ _ ?_
        clear hK K
        refine done_ (by kernel_rfl) ?_
        go_wp2
        go_ret
        have hp := HP.out (y0 ^^^ mq) _ (HO.out.drewN (1 + n7))
        exact ⟨_, rfl, by rw [HMY.out.1, HMY.out.2]; exact hp.1, (HX.out.below (pw_below_drewN (Below.refl _ _) (1 + n7))).grown hp.2 (fun e => by have := Kd.Q_base HO.out go rfl; have := Option.some.inj e; have := HXL.out; omega), Ch.far (Ch.step HC.out (pw_below_drewN (Below.refl _ _) (1 + n7))) (Kd.Q_base HO.out go rfl) hp.2⟩
      | succ k1 =>
        have hlt : j < 4 := by omega
        have h0 : (0 : Int) ≤ (j : Int) := by omega
        have h1 : (j : Int) < 4 := by omega
        obtain ⟨hx0, hf⟩ := Kd.Q_cell (0 : Int) HO.out (j : Int) h0 h1
        rw [Int.toNat_natCast] at hx0 hf
        have hx := show _ = some (Value.int .u8 ((fillTo r (ib xt) j).getD (j : Int).toNat 0)) from hx0
        clear hx0
        rw [Int.toNat_natCast, HFG.out j hlt] at hx
        have C1 := Aside0.mk (fun (W : World) (h : BoxS W bx) => subS_c h (xt.getD j 0#8))
        have HV := Aside0.mk (HS.out j hlt)
        have HFX := Aside0.mk (HFG.out j hlt)
        generalize hss : fillTo r (ib xt) j = s at *
        generalize subB (xt.getD j 0#8) = y at *
        generalize xt.getD j 0#8 = x at *
        have HJ := Aside0.mk hj
        clear hj HS HFL HFG HE hss
        go_wp2_with (first
          | (go_at_call 75; (refine (C1.out _ HX.out).mono ?_); rintro e w6 ⟨rfl, hx6, hc6⟩; have HO := Aside0.mk (HO.out.ch hc6 HXL.out); have HX := Aside0.mk hx6; have HC := Aside0.mk (HC.out.trans hc6); clear hx hf; obtain ⟨hx, hf⟩ := Kd.Q_cell (0 : Int) HO.out (j : Int) h0 h1; rw [Int.toNat_natCast] at hx hf; have HQP := Aside0.mk (Kd.Q_putg HO.out (j : Int) h0 h1 (I8 y)); clear hx6 hc6))
        go_roundg k1
        case measure => omega
        case rel =>
          have hp := HQP.out
          rw [Int.toNat_natCast, HV.out] at hp
          exact ⟨j + 1, by have := HJ.out; omega, by go_num, ⟨hp.1⟩, ⟨HX.out.grown hp.2 (fun e => by have := Kd.Q_base HO.out go rfl; have := Option.some.inj e; have := HXL.out; omega)⟩, ⟨Ch.far HC.out (Kd.Q_base HO.out go rfl) hp.2⟩⟩
  · have hz1 : ((m : Int) = 0) = False := by apply eq_false; omega
    have hz2 : ((m : Int) == 0) = false := by rw [beq_eq_false_iff_ne]; omega
    have hz3 : (m = 0) = False := by apply eq_false; omega
    by_cases h8 : k = 8 ∧ i % 8 = 4
    · have hres : madeB w4 i k = w4.map subB := by unfold madeB; rw [if_neg (by rw [← hm]; exact hz), if_pos h8]
      rw [hres]
      obtain ⟨rfl, h84⟩ := h8
      obtain rfl : m = 4 := by omega
      have e8 : (i : Int) % 8 = 4 := by omega
      clear hm hq hz hk0
      go_enter Try.func67, Try.ntmps67
      go_wp2_with (first
        | ((with_reducible refine gate_dst (N := 13) rfl ?_); refine Kd.R_lit (Kd.int .u8) w.heap.size 5 ?hg (N := 13) ?hd (w0 := w) (xs := ([] : List Int)) (inner := []) (ok := fun k => w.heap.size ≤ k) (okp := fun _ => False) ?hr ?hp (fun _ hk => hk.elim) HB.out.size HB.out HB.out.size (by simp) ?_; (case hd => rfl); (case hg => rfl); (case hr => first | (go_simp; done) | (go_simp; rfl)); (case hp => exact (Reps.none _ _)); intro v1 w3 ho4 hb hg_ hnew_; have HB := Aside0.mk hb; obtain ⟨Av, cv, rfl, hcv, hrd⟩ := Kd.R_reads ho4; have HO := Aside0.mk ho4; clear hb ho4 hg_ hnew_ hrd hcv)
        | ((with_reducible refine gate_builtin (b := .append) (xs := #[.tmp 13, .tmp 14]) rfl ?_); refine Kd.R_append_rows (Kd.int .u8) (w0 := w) w.heap.size rfl (.tmp 13) (.tmp 14) 22 5 (.int .u8 0) 1 rfl Try.underlying22 info_u8 rfl (by decide) (by omega) _ [] (ib w4) A _ _ (fun k => w.heap.size ≤ k) (fun _ => False) rfl rfl HO.out (show ReadsRow _ _ _ _ _ _ from Kd.C_below HCC.out HB.out) (fun _ _ h => h) (fun _ h => h.elim) (fun k hk => Nat.le_trans HB.out.size hk) HB.out HB.out.size ?aL ?_; (case aL => exact (by simp only [List.length_nil]; omega)); intro v2 w5 ho hb hg hat; have HB := Aside0.mk hb; have ho' : Ow w5 w.heap.size v2 (ib w4) := Ow.of_R ho (Nat.le_refl _); obtain ⟨go, oo, co, hv, _⟩ := Kd.Q_form ho' (by rw [HL.out]; decide); rw [HL.out] at hv; subst hv; have HO2 := Aside0.mk ho'; clear HO ho ho' hb hg hat))
      clear e8 ht1 ht2 hd1 hd2
      have HLX := Aside0.mk hw4
      clear hw4
      have HC := Aside0.mk (Ch.of_below (g := bx) HB.out)
      have HX := Aside0.mk (HX.out.below HB.out)
      have HS := Aside0.mk (fun j (h : j < 4) => fillTo_set (ib (w4.map subB)) (ib w4) (by rw [ib_length, ib_length, List.length_map]) j (by rw [ib_length, HLX.out]; exact h) (I8 (subB (w4.getD j 0#8))) (by rw [ib_getD, map_getD _ _ _ (by rw [HLX.out]; exact h)]))
      have HFG := Aside0.mk (fun j (h : j < 4) => show (fillTo (ib (w4.map subB)) (ib w4) j).getD j 0 = I8 (w4.getD j 0#8) by rw [fillTo_ge _ _ (by rw [ib_length, ib_length, List.length_map]) j j (by rw [ib_length, HLX.out]; omega) (Nat.le_refl _)]; exact ib_getD w4 j)
      have HE := Aside0.mk (show fillTo (ib (w4.map subB)) (ib w4) 4 = ib (w4.map subB) by rw [show 4 = (ib w4).length by rw [ib_length, HLX.out]]; exact fillTo_end _ _ (by rw [ib_length, ib_length, List.length_map]))
      have HFL := Aside0.mk (fun j => show (fillTo (ib (w4.map subB)) (ib w4) j).length = 4 by rw [fillTo_length _ _ (by rw [ib_length, ib_length, List.length_map]), ib_length, HLX.out])
      have HO := Aside0.mk (show Ow _ w.heap.size _ (fillTo (ib (w4.map subB)) (ib w4) 0) by rw [fillTo_zero]; exact HO2.out)
      generalize hre : ib (w4.map subB) = r at *
      have HRE := Aside0.mk hre
      clear hre
      clear HO2 HB
      go_loopg [42] 4 (fun kq iv w' => ∃ j : Nat, j + kq = 4 ∧ iv = .int .i64 (j : Int) ∧ Aside0 (Ow w' w.heap.size (.slice (some ⟨go, oo, none⟩) 4 co) (fillTo r (ib w4) j)) ∧ Aside0 (BoxS w' bx) ∧ Aside0 (Ch bx w w'))
      case atStart => exact ⟨0, by omega, rfl, HO, HX, HC⟩
      case round =>
        clear HO HX HC
        obtain ⟨j, hj, rfl, HO, HX, HC⟩ := hrel
        cases gk with
        | zero =>
          obtain rfl : j = 4 := by omega
          have HO := Aside0.mk (show Ow _ w.heap.size _ r by rw [← HE.out]; exact HO.out)
          clear HS HFL HFG HE
          go_wp2
          go_ret
          exact ⟨_, rfl, by rw [HRE.out]; exact HO.out, HX.out, HC.out⟩
        | succ k1 =>
          have hlt : j < 4 := by omega
          have h0 : (0 : Int) ≤ (j : Int) := by omega
          have h1 : (j : Int) < 4 := by omega
          obtain ⟨hx0, hf⟩ := Kd.Q_cell (0 : Int) HO.out (j : Int) h0 h1
          rw [Int.toNat_natCast] at hx0 hf
          have hx := show _ = some (Value.int .u8 ((fillTo r (ib w4) j).getD (j : Int).toNat 0)) from hx0
          clear hx0
          rw [Int.toNat_natCast, HFG.out j hlt] at hx
          have C1 := Aside0.mk (fun (W : World) (h : BoxS W bx) => subS_c h (w4.getD j 0#8))
          have HV := Aside0.mk (HS.out j hlt)
          have HFX := Aside0.mk (HFG.out j hlt)
          generalize hss : fillTo r (ib w4) j = s at *
          generalize subB (w4.getD j 0#8) = y at *
          generalize w4.getD j 0#8 = x at *
          have HJ := Aside0.mk hj
          clear hj HS HFL HFG HE hss
          go_wp2_with (first
            | (go_at_call 75; (refine (C1.out _ HX.out).mono ?_); rintro e w6 ⟨rfl, hx6, hc6⟩; have HO := Aside0.mk (HO.out.ch hc6 HXL.out); have HX := Aside0.mk hx6; have HC := Aside0.mk (HC.out.trans hc6); clear hx hf; obtain ⟨hx, hf⟩ := Kd.Q_cell (0 : Int) HO.out (j : Int) h0 h1; rw [Int.toNat_natCast] at hx hf; have HQP := Aside0.mk (Kd.Q_putg HO.out (j : Int) h0 h1 (I8 y)); clear hx6 hc6))
          go_roundg k1
          case measure => omega
          case rel =>
            have hp := HQP.out
            rw [Int.toNat_natCast, HV.out] at hp
            exact ⟨j + 1, by have := HJ.out; omega, by go_num, ⟨hp.1⟩, ⟨HX.out.grown hp.2 (fun e => by have := Kd.Q_base HO.out go rfl; have := Option.some.inj e; have := HXL.out; omega)⟩, ⟨Ch.far HC.out (Kd.Q_base HO.out go rfl) hp.2⟩⟩
    · have hres : madeB w4 i k = w4 := by unfold madeB; rw [if_neg (by rw [← hm]; exact hz), if_neg h8]
      rw [hres]
      by_cases hk8' : k = 8
      · subst hk8'
        have hm4 : m ≠ 4 := fun e => h8 ⟨rfl, by omega⟩
        have hm1 : ((m : Int) == 4) = false := by rw [beq_eq_false_iff_ne]; omega
        have hm2 : ((m : Int) != 4) = true := by simp only [bne, hm1]; rfl
        have hm3 : ((m : Int) = 4) = False := by apply eq_false; omega
        clear hm hq hw4 h8 hz hm4
        go_enter Try.func67, Try.ntmps67
        go_wp2_with (first
          | ((with_reducible refine gate_dst (N := 13) rfl ?_); refine Kd.R_lit (Kd.int .u8) w.heap.size 5 ?hg (N := 13) ?hd (w0 := w) (xs := ([] : List Int)) (inner := []) (ok := fun k => w.heap.size ≤ k) (okp := fun _ => False) ?hr ?hp (fun _ hk => hk.elim) HB.out.size HB.out HB.out.size (by simp) ?_; (case hd => rfl); (case hg => rfl); (case hr => first | (go_simp; done) | (go_simp; rfl)); (case hp => exact (Reps.none _ _)); intro v1 w3 ho4 hb hg_ hnew_; have HB := Aside0.mk hb; obtain ⟨Av, cv, rfl, hcv, hrd⟩ := Kd.R_reads ho4; have HO := Aside0.mk ho4; clear hb ho4 hg_ hnew_ hrd hcv)
          | ((with_reducible refine gate_builtin (b := .append) (xs := #[.tmp 13, .tmp 14]) rfl ?_); refine Kd.R_append_rows (Kd.int .u8) (w0 := w) w.heap.size rfl (.tmp 13) (.tmp 14) 22 5 (.int .u8 0) 1 rfl Try.underlying22 info_u8 rfl (by decide) (by omega) _ [] (ib w4) A _ _ (fun k => w.heap.size ≤ k) (fun _ => False) rfl rfl HO.out (show ReadsRow _ _ _ _ _ _ from Kd.C_below HCC.out HB.out) (fun _ _ h => h) (fun _ h => h.elim) (fun k hk => Nat.le_trans HB.out.size hk) HB.out HB.out.size ?aL ?_; (case aL => exact (by simp only [List.length_nil]; omega)); intro v2 w5 ho hb hg hat; have HB := Aside0.mk hb; have ho' : Ow w5 w.heap.size v2 (ib w4) := Ow.of_R ho (Nat.le_refl _); obtain ⟨go, oo, co, hv, _⟩ := Kd.Q_form ho' (by rw [HL.out]; decide); rw [HL.out] at hv; subst hv; have HO2 := Aside0.mk ho'; clear HO ho ho' hb hg hat))
        go_ret
        exact ⟨_, rfl, HO2.out, HX.out.below HB.out, Ch.of_below HB.out⟩
      · have hk1 : ((k : Int) == 8) = false := by rw [beq_eq_false_iff_ne]; omega
        have hk2 : ((k : Int) != 8) = true := by simp only [bne, hk1]; rfl
        have hk3 : ((k : Int) = 8) = False := by apply eq_false; omega
        clear hm hq hw4 h8 hz hk8'
        go_enter Try.func67, Try.ntmps67
        go_wp2_with (first
          | ((with_reducible refine gate_dst (N := 13) rfl ?_); refine Kd.R_lit (Kd.int .u8) w.heap.size 5 ?hg (N := 13) ?hd (w0 := w) (xs := ([] : List Int)) (inner := []) (ok := fun k => w.heap.size ≤ k) (okp := fun _ => False) ?hr ?hp (fun _ hk => hk.elim) HB.out.size HB.out HB.out.size (by simp) ?_; (case hd => rfl); (case hg => rfl); (case hr => first | (go_simp; done) | (go_simp; rfl)); (case hp => exact (Reps.none _ _)); intro v1 w3 ho4 hb hg_ hnew_; have HB := Aside0.mk hb; obtain ⟨Av, cv, rfl, hcv, hrd⟩ := Kd.R_reads ho4; have HO := Aside0.mk ho4; clear hb ho4 hg_ hnew_ hrd hcv)
          | ((with_reducible refine gate_builtin (b := .append) (xs := #[.tmp 13, .tmp 14]) rfl ?_); refine Kd.R_append_rows (Kd.int .u8) (w0 := w) w.heap.size rfl (.tmp 13) (.tmp 14) 22 5 (.int .u8 0) 1 rfl Try.underlying22 info_u8 rfl (by decide) (by omega) _ [] (ib w4) A _ _ (fun k => w.heap.size ≤ k) (fun _ => False) rfl rfl HO.out (show ReadsRow _ _ _ _ _ _ from Kd.C_below HCC.out HB.out) (fun _ _ h => h) (fun _ h => h.elim) (fun k hk => Nat.le_trans HB.out.size hk) HB.out HB.out.size ?aL ?_; (case aL => exact (by simp only [List.length_nil]; omega)); intro v2 w5 ho hb hg hat; have HB := Aside0.mk hb; have ho' : Ow w5 w.heap.size v2 (ib w4) := Ow.of_R ho (Nat.le_refl _); obtain ⟨go, oo, co, hv, _⟩ := Kd.Q_form ho' (by rw [HL.out]; decide); rw [HL.out] at hv; subst hv; have HO2 := Aside0.mk ho'; clear HO ho ho' hb hg hat))
        go_ret
        exact ⟨_, rfl, HO2.out, HX.out.below HB.out, Ch.of_below HB.out⟩
end Go.Proofs.Ytpdikfmdnlhllaa.Aes
namespace Go.Proofs.Ytpdikfmdnlhllaa.Aes
open Go.RowKit Go.Proofs.Ytpdikfmdnlhllaa.PNib Go.Proofs.YtpdikfmdnlhllaaW.PrintWords Go.Proofs.YtpdikfmdnlhllaaW.PrintLast Go.Proofs.YtpdikfmdnlhllaaW.PrintMore Byte Sl Arr Mem Gives ArrEq Mat AesMath AesMov AesLin HandKit
set_option linter.unusedVariables false
set_option maxRecDepth 100000
theorem app_keeps {W w1 : World} {base g o n cap : Nat} {ok : Nat → Prop} {l : List Int} {x : Int} {v1 : Value} {ty : TypeId} (HO : Kd.Q (Kd.int .u8) 5 W base ok (.slice (some ⟨g, o, none⟩) n cap) l) (hn : l.length = n) (h0 : 0 < n) (hl : n + 1 ≤ 140737488355328)
    (hr : (Builtin.append_ #[22, 22] ty #[.slice (some ⟨g, o, none⟩) n cap, .slice (some ⟨W.heap.size, 0, none⟩) 1 1]).run Try.prog (W.alloc (.cells [Value.int .u8 x].toArray 5)) = .ok v1 w1) : (v1 = .slice (some ⟨g, o, none⟩) (n + 1) cap ∨ ∃ b, v1.ownBlock = some b ∧ W.heap.size ≤ b) ∧ ∀ j, j < n → w1.cell? ⟨g, o + j, none⟩ = W.cell? ⟨g, o + j, none⟩ := by
  obtain ⟨_, inner, ⟨hil, hform⟩, hreps⟩ := HO
  have hsz : (Kd.int .u8).sz = 1 := rfl
  rcases hform with ⟨hz, _⟩ | ⟨g', off, cap', cur, hv, hbg, hg, hnc, hcm, hcs, htake⟩
  · omega
  · rw [hsz, Nat.mul_one] at hv hcs
    injection hv with hv1 hv2 hv3
    injection hv1 with hv1
    injection hv1 with hv1 hv4 hv5
    subst hv1; subst hv4; subst hv3
    have hi0 : ∃ i0, Try.prog.info? 5 = some i0 ∧ i0.zero = some (.int .u8 0) ∧ i0.size = 1 ∧ i0.bytes = 1 := by
      have h := info_u8
      cases hq : Try.prog.info? 5 with
      | none => simp [hq] at h
      | some i0 =>
        rw [hq] at h
        simp only [Option.map_some, Option.some.injEq, Prod.mk.injEq] at h
        exact ⟨i0, rfl, h.1, h.2.1, h.2.2⟩
    obtain ⟨i0, hi, hz0, hz1, hz2⟩ := hi0
    have hgl : g < W.heap.size := blk_lt hg
    have hgA : (W.alloc (.cells [Value.int .u8 x].toArray 5)).heap[g]? = some (.cells cur 5 (0, 0)) := blk_alloc hg _
    have hnews : ∀ (j : Nat) u, ([Value.int .u8 x] : List Value)[j]? = some u → (W.alloc (.cells [Value.int .u8 x].toArray 5)).cell? ((⟨W.heap.size, 0, none⟩ : Addr).add j) = some u := by
      simpa using World.news_of_block (cs := [Value.int .u8 x].toArray) (t := 5) (fr := (0, 0)) (heap_alloc_new W (.cells [Value.int .u8 x].toArray 5))
    by_cases hroom : n + 1 ≤ cap
    · have hrun := run_append_room_cells (P := Try.prog) (W.alloc (.cells [Value.int .u8 x].toArray 5)) 22 ty 5 i0 Try.underlying22 hi g o n cap ⟨W.heap.size, 0, none⟩ 1 1 [.int .u8 x] (by rw [hz1]; rfl) hnews (by simp [Value.oneCell']) hroom
        (fun q hq => by
          rw [List.length_singleton] at hq
          rw [blk_cell hgA, hz1]
          simp; omega) (fun q _ => blk_frozen hgA _)
      rw [hrun] at hr
      injection hr with h1 h2
      refine ⟨.inl h1.symm, fun j hj => ?_⟩
      rw [← h2, hz1, Nat.mul_one]
      show World.cell? ((W.alloc _).setCell ⟨g, o + n, none⟩ _) _ = _
      rw [blk_cell (blk_set hgA (o + n) _), blk_cell hg, Array.getElem?_setIfInBounds_ne (by omega)]
    · obtain ⟨v', w', hrun, hown, hgrow⟩ := run_append_arg_grows (P := Try.prog) (W.alloc (.cells [Value.int .u8 x].toArray 5)) 22 ty 5 i0 (.int .u8 0) 1 1 Try.underlying22 hi hz0 hz1 hz2 rfl (by decide) ⟨g, o, none⟩ n cap inner (by rw [hil, hsz, hn])
        (fun q u hu => by
          have hql : q < inner.length := (List.getElem?_eq_some_iff.1 hu).1
          rw [hil, hsz, hn, Nat.mul_one] at hql
          rw [add_at, blk_cell hgA]
          rw [← htake, List.getElem?_take, hsz, hn, Nat.mul_one, if_pos hql, List.getElem?_drop] at hu
          rw [← hu]
          simp) ⟨W.heap.size, 0, none⟩ 1 1 [.int .u8 x] rfl hnews (by omega) (by simp only [maxLen]; omega) (by omega)
      rw [hrun] at hr
      injection hr with h1 h2
      refine ⟨.inr ?_, fun j hj => ?_⟩
      · obtain ⟨g', cap', he, hb, _⟩ := hown.form (by omega)
        refine ⟨g', by rw [← h1, he]; simp [Value.ownBlock], ?_⟩
        rw [World.size_alloc] at hb
        omega
      rw [← h2, blk_cell ((hgrow.block g (blk_lt hgA) (by simp)).trans hgA), blk_cell hg]
theorem wp_app {ops : Array Oper} {rest : List Oper} {op : Oper} {a : Act} {Q' : Exit → Act → World → Prop} {W : World} (w0 : World) (base : Nat) (hgd : op.guard = none) (s x : Operand)
    (ho : op.op = .call { callee := .builtin .append, args := #[s, x], argTypes := #[22, 22] }) {g o n cap : Nat} {l : List Int} (p : Int) (hs : a.eval s = .slice (some ⟨g, o, none⟩) n cap) (hx : a.eval x = .slice (some ⟨W.heap.size, 0, none⟩) 1 1)
    (HO : Ow W base (.slice (some ⟨g, o, none⟩) n cap) l) (hn : l.length = n) (hn0 : 0 < n) (hl : n + 1 ≤ 140737488355328) (HB : Below base w0 W) (hbase : base ≤ W.heap.size)
    (h : ∀ v1 w1, Ow w1 base v1 (l ++ [p]) → Below base w0 w1 → W.grownBy w1 (some g) → (v1 = .slice (some ⟨g, o, none⟩) (n + 1) cap ∨ ∃ b, v1.ownBlock = some b ∧ W.heap.size ≤ b) → (∀ j, j < n → w1.cell? ⟨g, o + j, none⟩ = W.cell? ⟨g, o + j, none⟩) → wpList Try.prog ops Q' rest (a.put op.dst v1) w1) :
    wpList Try.prog ops Q' (op :: rest) a (W.alloc (.cells [Value.int .u8 p].toArray 5)) := by
  obtain ⟨v1, w1, hr, h1, h2, h3, h4⟩ := Kd.Q_run (P := Try.prog) (Kd.int .u8) (w0 := w0) base 22 op.type 5 (.int .u8 0) 1 Try.underlying22 info_u8 rfl (by decide) (by decide) (.slice (some ⟨g, o, none⟩) n cap) l p [.int .u8 p] (fun k => base ≤ k) (fun _ => False) rfl (fun _ hk => hk.elim) (fun k hk => Nat.le_trans hbase hk) HO HB hbase (by omega)
  refine wpList_plain hgd fun K hK => ?_
  unfold Oper.wp execOp
  simp only [ho, resolve, invoke, builtin, Sem.run_bind, Sem.run_pure, Result.andThen_ok, List.map_toArray, List.map_cons, List.map_nil, hs, hx, hr]
  exact hK _ _ (h v1 w1 h1 h2 h3 (app_keeps HO hn hn0 hl hr).1 (app_keeps HO hn hn0 hl hr).2)
theorem wp_make0 {P : Program} {ops : Array Oper} {rest : List Oper} {op : Oper} {a : Act} {Q' : Exit → Act → World → Prop} {α : Type} (d : Kd α) {W : World} (w0 : World) (base e : Nat) (hgd : op.guard = none) (t : TypeId) (x y : Operand) (ho : op.op = .makeSlice t x y) (c : Nat) (hx : a.eval x = .int .i64 0) (hy : a.eval y = .int .i64 (c : Int))
    (ht : P.underlying t = some (.slice e)) (z : Value) (bytes : Nat) (hinfo : (P.info? e).map (fun i => (i.zero, i.size, i.bytes)) = some (some z, d.sz, bytes)) (hb0 : 0 < bytes) (hl : bytes * c ≤ 281474976710656) (ok : Nat → Prop) (hfresh : ok W.heap.size) (HB : Below base w0 W) (hbase : base ≤ W.heap.size)
    (h : ∀ w1, d.R e w1 base ok (.slice (some ⟨W.heap.size, 0, none⟩) 0 c) [] → Below base w0 w1 → W.grownBy w1 none → wpList P ops Q' rest (a.put op.dst (.slice (some ⟨W.heap.size, 0, none⟩) 0 c)) w1) : wpList P ops Q' (op :: rest) a W := by
  obtain ⟨i0, hi, hzz⟩ := Option.map_eq_some_iff.1 hinfo
  simp only [Prod.mk.injEq] at hzz
  obtain ⟨hz0, hz1, hz2⟩ := hzz
  have hc : c ≤ 281474976710656 := Nat.le_trans (Nat.le_mul_of_pos_left c hb0) hl
  obtain ⟨w', hr, hown, hg⟩ := run_make_own (P := P) W base t e i0 z d.sz ht hi hz0 hz1 .i64 .i64 c (by rw [hz2]; exact hl) (by simp only [maxLen]; omega) hbase
  refine wpList_plain hgd fun K hK => ?_
  unfold Oper.wp execOp
  simp only [ho, hx, hy, Sem.run_bind, Sem.run_pure, hr, Result.andThen_ok]
  refine hK _ _ (h w' ⟨fun k hk => ?_, [], hown, Reps.none _ _⟩ (HB.grown hg hbase (fun k e => by cases e)) hg)
  have := Option.some.inj (show some W.heap.size = some k from hk)
  rw [← this]; exact hfresh
/-- A slice's head as a value. -/
def encH (p : Addr × Nat × Nat) : Value := .slice (some p.1) p.2.1 p.2.2
theorem encH1 (p : Addr × Nat × Nat) : (encH p).oneCell' = true := rfl
abbrev kH : Kd (Addr × Nat × Nat) := Kd.scalar encH encH1
theorem info_sl : (Try.prog.info? 22).map (fun i => (i.zero, i.size, i.bytes)) = some (some (.slice none 0 0), 1, 24) := by kernel_rfl
/-- Rows of sixteen bytes, that lie one behind the other in one row. -/
theorem rows_of {W : World} {A : Option Addr} {n N g o : Nat} {H : List (Addr × Nat × Nat)} {L : List B} (hs : kH.C W A n H) (ha : (Kd.int .u8).C W (some ⟨g, o, none⟩) N (ib L)) (hH : ∀ r, r < n → H[r]? = some (⟨g, o + 16 * r, none⟩, 16, 16)) (hN : 16 * n ≤ N) :
    (Kd.slice 5 (Kd.int .u8)).C W A n (((List.range n).map fun r => (L.drop (16 * r)).take 16).map ib) := by
  obtain ⟨h1, h2, h3⟩ := hs
  have hLN : L.length = N := by rw [← ib_length]; exact ha.1
  refine ⟨by simp, h2, fun hp => ?_⟩
  obtain ⟨ad, hA, hx⟩ := h3 hp
  refine ⟨ad, hA, fun j p hj => ?_⟩
  have hjn : j < n := by
    have := (List.getElem?_eq_some_iff.1 hj).1
    simpa using this
  obtain ⟨cs, hcl, hK, hcc⟩ := hx j _ (hH j hjn)
  refine ⟨cs, hcl, ?_, hcc⟩
  rw [List.getElem?_map, List.getElem?_map, List.getElem?_range hjn] at hj
  obtain rfl := Option.some.inj hj
  have hlen : (ib ((L.drop (16 * j)).take 16)).length = 16 := by rw [ib_length, List.length_take, List.length_drop]; omega
  refine ⟨some ⟨g, o + 16 * j, none⟩, 16, ?_, by rw [hlen]; exact Nat.le_refl _, ?_⟩
  · rw [hlen]; exact hK
  · have hm := Kd.C_mid (c := N + 1) (lo := 16 * j) (hi := 16 * j + 16) (by rw [ib_length, hLN]; exact ha) (by omega) (by rw [ib_length, hLN]; omega) (by rw [ib_length, hLN]; omega)
    rw [if_neg (by omega)] at hm
    have e : ((ib L).take (16 * j + 16)).drop (16 * j) = ib ((L.drop (16 * j)).take 16) := by
      rw [List.drop_take, ib_take, ib_drop]
      congr 1
      omega
    have e2 : (some (⟨g, o, none⟩ : Addr)).map (·.add (16 * j * (Kd.int .u8).sz)) = some ⟨g, o + 16 * j, none⟩ := by
      show some ((⟨g, o, none⟩ : Addr).add (16 * j * 1)) = _
      rw [Nat.mul_one, add_at]
    rw [e, e2] at hm
    exact hm
end Go.Proofs.Ytpdikfmdnlhllaa.Aes
namespace Go.Proofs.Ytpdikfmdnlhllaa.Aes
open Go.RowKit Go.Proofs.Ytpdikfmdnlhllaa.PNib Go.Proofs.YtpdikfmdnlhllaaW.PrintWords Go.Proofs.YtpdikfmdnlhllaaW.PrintLast Go.Proofs.YtpdikfmdnlhllaaW.PrintMore Byte Sl Arr Mem Gives ArrEq Mat AesMath AesMov AesLin HandKit
set_option linter.unusedVariables false
set_option linter.unusedSimpArgs false
theorem rounds_c (n : Int) (r : Int) (h : roundsI n = r) : Gives 14 #[.int .i64 n] (.int .i64 r) := fun w => keys_Rounds.calls n r w (by rw [rounds_i, h])
/-- The bytes of the first k + m words. -/
def allL (key : List B) (k m : Nat) : List B := (wordsTo key k m).flatten
theorem allL_length (key : List B) (k m : Nat) (h : key.length = 4 * k) (hk : 0 < k) : (allL key k m).length = 4 * (k + m) := by
  unfold allL
  rw [flat_length (wordsTo_four key k h hk m), wordsTo_length]
theorem allL_zero (key : List B) (k : Nat) (h : key.length = 4 * k) : allL key k 0 = key := keyWords_flat key k h
theorem allL_succ (key : List B) (k m : Nat) : allL key k (m + 1) = allL key k m ++ wordB (wordsTo key k m) (k + m) k := by
  unfold allL
  rw [wordsTo, List.flatten_append, List.flatten_cons, List.flatten_nil, List.append_nil]
theorem allL_four (key : List B) (k m i : Nat) (h : key.length = 4 * k) (hk : 0 < k) (hi : i < k + m) : four (allL key k m) i = wordAt (wordsTo key k m) i := by
  unfold allL
  exact flat_four (wordsTo_four key k h hk m) i (by rw [wordsTo_length]; exact hi)
theorem wordB_take (l : List (List B)) (i k j : Nat) (hj : j < 4) (h4 : (wordAt l (i - 1)).length = 4) : (wordB l i k).take (j + 1) = (wordB l i k).take j ++ [(wordAt l (i - k)).getD j 0#8 ^^^ (madeB (wordAt l (i - 1)) i k).getD j 0#8] := by
  have hl := wordB_length l i k h4
  rw [List.take_add_one, List.getElem?_eq_getElem (by omega)]
  congr 1
  have e : (wordB l i k).getD j 0#8 = (wordAt l (i - k)).getD j 0#8 ^^^ (madeB (wordAt l (i - 1)) i k).getD j 0#8 := by
    unfold wordB
    rw [xorL_get _ _ _ (by rw [madeB_length _ _ _ h4]; exact hj), BitVec.xor_comm]
  rw [← e, List.getD_eq_getElem?_getD, List.getElem?_eq_getElem (by omega)]
  rfl
theorem ch_cell {g : Nat} {w w' : World} (h : w.grownBy w' (some g)) {a : Addr} {x : Value} (hc : w.cell? a = some x) (hne : a.block ≠ g) : w'.cell? a = some x := by
  have hlt := World.block_lt_of_cell? w a hc
  unfold World.cell? at hc ⊢
  rw [h.block a.block hlt (fun e => hne (Option.some.inj e))]
  exact hc
theorem sub_c {W : World} {b g o n c : Nat} {L : List B} (h : Ow W b (.slice (some ⟨g, o, none⟩) n c) (ib L)) (i lo : Nat) (hlo : lo = 4 * i) (hi : 4 * i + 4 ≤ n) : Kd.C (Kd.int .u8) W (some ⟨g, o + lo, none⟩) 4 (ib (four L i)) ∧ ∀ q, q < 4 → W.cell? ⟨g, o + lo + q, none⟩ = some (.int .u8 (I8 ((four L i).getD q 0#8))) := by
  obtain ⟨hn, hc, hC⟩ := Kd.Q_reads' h
  rw [ib_length] at hn hC
  have h2 := Kd.C_mid (lo := lo) (hi := lo + 4) (by rw [ib_length]; exact hC) (by omega) (by rw [ib_length]; omega) (by rw [ib_length]; omega : (ib L).length ≤ c)
  rw [if_neg (by omega)] at h2
  have e : ((ib L).take (lo + 4)).drop lo = ib (four L i) := by
    unfold four
    rw [List.drop_take, ib_take, ib_drop, hlo]
    congr 1
    omega
  rw [e] at h2
  have e2 : (some (⟨g, o, none⟩ : Addr)).map (·.add (lo * (Kd.int .u8).sz)) = some ⟨g, o + lo, none⟩ := by
    show some ((⟨g, o, none⟩ : Addr).add (lo * 1)) = _
    rw [Nat.mul_one, add_at]
  rw [e2, ib_length, four_length _ _ (by omega)] at h2
  refine ⟨h2, fun q hq => ?_⟩
  obtain ⟨ad, e3, hx⟩ := Kd.at_int h2 (q : Int) (by omega) (by omega)
  obtain rfl := Option.some.inj e3
  rw [Int.toNat_natCast, add_at] at hx
  rw [hx]
  show some (Value.int .u8 ((ib (four L i)).getD (q : Int).toNat 0)) = _
  rw [Int.toNat_natCast, ib_getD]
theorem w64n (n : Nat) (h : n + 1 < 9223372036854775808) : wrap64 ((n : Int) + 1) = ((n + 1 : Nat) : Int) := by unfold wrap64; omega
theorem ej (rd k M : Nat) (hrd : rd ≤ 14) (h : k + M = 4 * (rd + 1)) : wrap64 ((rd : Int) + 1) = ((rd + 1 : Nat) : Int) ∧ wrap64 (4 * ((rd + 1 : Nat) : Int)) = ((k + M : Nat) : Int) ∧ (rd : Int) + 1 = ((rd + 1 : Nat) : Int) ∧ 4 * ((rd + 1 : Nat) : Int) = ((k + M : Nat) : Int) := by
  unfold wrap64; omega
theorem ntot {k m tot ii : Nat} (h : tot = k + m) (hi : ii = k + m) : ¬ (ii : Int) < (tot : Int) := by omega
theorem ltot {k m M tot ii : Nat} (h : tot = k + M) (hi : ii = k + m) (hm : m < M) : (ii : Int) < (tot : Int) := by omega
theorem ei (k m n : Nat) (hk : 0 < k) (hm : k + m < 1000) (hn : n = 4 * (k + m)) : wrap64 (((k + m : Nat) : Int) - 1) = ((k + m - 1 : Nat) : Int) ∧ wrap64 (4 * ((k + m - 1 : Nat) : Int)) = ((4 * (k + m - 1) : Nat) : Int) ∧ wrap64 (4 * ((k + m : Nat) : Int)) = (n : Int) ∧ wrap64 (((k + m : Nat) : Int) - (k : Int)) = (m : Int) ∧ wrap64 (4 * (m : Int)) = ((4 * m : Nat) : Int) ∧ wrap64 (((4 * m : Nat) : Int) + 4) = ((4 * m + 4 : Nat) : Int) ∧ ((k + m : Nat) : Int) - 1 = ((k + m - 1 : Nat) : Int) ∧ 4 * ((k + m - 1 : Nat) : Int) = ((4 * (k + m - 1) : Nat) : Int) ∧ 4 * ((k + m : Nat) : Int) = (n : Int) ∧ ((k + m : Nat) : Int) - (k : Int) = (m : Int) ∧ 4 * (m : Int) = ((4 * m : Nat) : Int) ∧ ((4 * m : Nat) : Int) + 4 = ((4 * m + 4 : Nat) : Int) := by
  unfold wrap64; omega
/-- Within a word's making: the row of all bytes, and what is read beside it. -/
def Inn (wn w' : World) (bx go oo gw ow cw m4 : Nat) (md od : List B) (l : List Int) (g1 o1 nn c1 : Nat) : Prop := Ow w' wn.heap.size (.slice (some ⟨g1, o1, none⟩) nn c1) l ∧ ((g1 = go ∧ o1 = oo) ∨ g1 ≠ go) ∧ g1 ≠ gw ∧ Ow w' wn.heap.size (.slice (some ⟨gw, ow, none⟩) 4 cw) (ib md) ∧ (∀ q, q < 4 → w'.cell? ⟨go, oo + m4 + q, none⟩ = some (.int .u8 (I8 (od.getD q 0#8)))) ∧ BoxS w' bx ∧ Ch bx wn w' ∧ go < w'.heap.size
theorem Inn.step {wn W w7 : World} {bx go oo gw ow cw m4 : Nat} {md od : List B} {l : List Int} {g1 o1 nn c1 : Nat} {p : Int} {v2 : Value} (h : Inn wn W bx go oo gw ow cw m4 md od l g1 o1 nn c1) (hbx : bx < wn.heap.size) (hm : m4 + 4 ≤ nn) (hl : l.length = nn)
    (ho : Ow w7 wn.heap.size v2 (l ++ [p])) (hb : Below wn.heap.size W w7) (hg : W.grownBy w7 (some g1)) (hf : v2 = .slice (some ⟨g1, o1, none⟩) (nn + 1) c1 ∨ ∃ b, v2.ownBlock = some b ∧ W.heap.size ≤ b) (hk : ∀ j, j < nn → w7.cell? ⟨g1, o1 + j, none⟩ = W.cell? ⟨g1, o1 + j, none⟩) :
    ∃ g2 o2 c2, v2 = .slice (some ⟨g2, o2, none⟩) (nn + 1) c2 ∧ Inn wn w7 bx go oo gw ow cw m4 md od (l ++ [p]) g2 o2 (nn + 1) c2 := by
  obtain ⟨h1, h2, h3, h4, h5, h6, h7, h8⟩ := h
  have hgw := Kd.Q_lt h4 gw rfl
  have hg1 := Kd.Q_base h1 g1 rfl
  obtain ⟨g2, o2, c2, hv, hr⟩ : ∃ g2 o2 c2, v2 = .slice (some ⟨g2, o2, none⟩) (nn + 1) c2 ∧ ((g2 = g1 ∧ o2 = o1) ∨ W.heap.size ≤ g2) := by
    rcases hf with hf | ⟨b, hb1, hb2⟩
    · exact ⟨g1, o1, c1, hf, .inl ⟨rfl, rfl⟩⟩
    · obtain ⟨g2, o2, c2, hv, _⟩ := Kd.Q_form ho (by rw [List.length_append, List.length_singleton]; omega)
      rw [List.length_append, List.length_singleton, hl] at hv
      refine ⟨g2, o2, c2, hv, .inr ?_⟩
      rw [hv] at hb1
      have := Option.some.inj (show some g2 = some b from hb1)
      omega
  subst hv
  refine ⟨g2, o2, c2, rfl, ho, ?_, ?_, Kd.Q_grown2 h4 rfl hg (fun k e e2 => h3 ?_), fun q hq => ?_, h6.grown hg (fun e => by have := Option.some.inj e; omega), Ch.belowB h7 hb, Nat.lt_of_lt_of_le h8 hg.size⟩
  · rcases hr with ⟨rfl, rfl⟩ | hr
    · exact h2
    · exact .inr (by omega)
  · rcases hr with ⟨rfl, rfl⟩ | hr
    · exact h3
    · omega
  · have a1 := Option.some.inj e
    have a2 := Option.some.inj (show some k = some gw from e2)
    omega
  · rcases h2 with ⟨rfl, rfl⟩ | h2
    · rw [Nat.add_assoc, hk (m4 + q) (by omega), ← Nat.add_assoc]
      exact h5 q hq
    · exact ch_cell hg (h5 q hq) (Ne.symm h2)
/-- In this world v is a row of round keys, that lies from block b on. -/
def RK (w' : World) (b : Nat) (v : Value) (ks : List (List B)) : Prop := ∃ A c, v = .slice A ks.length c ∧ ks.length ≤ c ∧ Kd.F (Kd.slice 5 (Kd.int .u8)) w' (fun k => b ≤ k) A ks.length (ks.map ib)
def heads (go oo : Nat) (r : Nat) : List (Addr × Nat × Nat) := (List.range r).map fun q => (⟨go, oo + 16 * q, none⟩, 16, 16)
theorem heads_length (go oo r : Nat) : (heads go oo r).length = r := by simp [heads]
theorem heads_get (go oo r q : Nat) (h : q < r) : (heads go oo r)[q]? = some (⟨go, oo + 16 * q, none⟩, 16, 16) := by simp [heads, h]
theorem heads_succ (go oo r : Nat) : heads go oo r ++ [(⟨go, oo + 16 * r, none⟩, 16, 16)] = heads go oo (r + 1) := by simp [heads, List.range_succ]
theorem roundKeys_all (key : List B) (k rd M : Nat) (hkl : key.length = 4 * k) (hrN : roundsN key.length = rd) (hM : k + M = 4 * (rd + 1)) : roundKeys key = (List.range (rd + 1)).map fun r => ((allL key k M).drop (16 * r)).take 16 := by
  unfold roundKeys allB allL
  rw [hrN, hkl, Nat.mul_div_cancel_left k (by decide), show 4 * (rd + 1) - k = M by omega]
theorem hnr (k m n rd rd1 : Nat) (h1 : k + m = 4 * (rd + 1)) (h2 : rd1 = rd + 1) (hn : n = 4 * (k + m)) (hrd : rd ≤ 14) : n = 16 * rd1 ∧ n < 10000 ∧ 24 * rd1 ≤ 281474976710656 := by omega
theorem el (r rd1 n co : Nat) (h : n = 16 * rd1) (hr : r < rd1) (hn : n < 10000) (hc : n ≤ co) : (r : Int) < (rd1 : Int) ∧ ((16 * r : Nat) : Int) ≤ ((16 * (r + 1) : Nat) : Int) ∧ ((16 * (r + 1) : Nat) : Int) ≤ (co : Int) ∧ (0 : Int) ≤ ((16 * r : Nat) : Int) ∧ 16 * (r + 1) - 16 * r = 16 ∧ (r + 1) * 24 ≤ 140737488355328 ∧ 16 * (r + 1) ≤ n := by omega
theorem ek (r n : Nat) (h : 16 * (r + 1) ≤ n) (hn : n < 10000) : wrap64 (16 * (r : Int)) = ((16 * r : Nat) : Int) ∧ wrap64 ((r : Int) + 1) = ((r + 1 : Nat) : Int) ∧ wrap64 (16 * ((r + 1 : Nat) : Int)) = ((16 * (r + 1) : Nat) : Int) ∧ 16 * (r : Int) = ((16 * r : Nat) : Int) ∧ (r : Int) + 1 = ((r + 1 : Nat) : Int) ∧ 16 * ((r + 1 : Nat) : Int) = ((16 * (r + 1) : Nat) : Int) := by
  unfold wrap64; omega
set_option maxHeartbeats 4000000 in
set_option maxRecDepth 100000 in
theorem expand_c (key : List B) (k rd : Nat) (hkl : key.length = 4 * k) (hk0 : 0 < k) (hk8 : k ≤ 8) (hrd0 : 0 < rd) (hrd : rd ≤ 14) (hkr : k ≤ 4 * (rd + 1)) (hrI : roundsI ((4 * k : Nat) : Int) = (rd : Int)) (hrN : roundsN key.length = rd) (A : Option Addr) (c : Nat) (hc : 4 * k ≤ c) (w : World) (hC : Kd.C (Kd.int .u8) w A (4 * k) (ib key)) : Calls Try.prog 18 #[.slice A (4 * k) c] w fun e w' => ∃ v, e = .returned (.tuple #[v, .int .i64 0]) ∧ Below w.heap.size w w' ∧ RK w' w.heap.size v (roundKeys key) := by
  have HRN := Aside0.mk hrN
  clear hrN
  obtain ⟨L, hL⟩ : ∃ z, z = 4 * k := ⟨_, rfl⟩
  rw [← hL] at hrI hC hc ⊢
  have C1 := Aside0.mk (rounds_c (L : Int) (rd : Int) hrI)
  have CN := Aside0.mk newbox_c
  have HCK := Aside0.mk hC
  have hrz : ((rd : Int) = 0) = False := by apply eq_false; omega
  have hrz2 : ((rd : Int) == 0) = false := by rw [beq_eq_false_iff_ne]; omega
  have hrz3 : (rd = 0) = False := by apply eq_false; omega
  have hL4 : (L : Int) / 4 = (k : Int) := by omega
  have hL5 : Int.tdiv (L : Int) 4 = (k : Int) := by rw [Int.tdiv_eq_ediv_of_nonneg (by omega)]; omega
  have hk64 : wrap64 (k : Int) = (k : Int) := by unfold wrap64; omega
  have HLK := Aside0.mk hL
  clear hC hrI hL
  go_enter Try.func18, Try.ntmps18
  go_wp2_with (first
    | (go_at_call 14; (with_reducible refine (C1.out.q _).mono ?_); rintro e w1 ⟨rfl, ⟨⟨n1, rfl⟩⟩⟩)
    | (go_at_call 66; (with_reducible refine (CN.out _).mono ?_); rintro e wn ⟨bx, rfl, hg, hF, hb1⟩; have HBW := Aside0.mk (show Below w.heap.size w wn from below_then (pw_below_drewN (Below.refl _ _) n1) (Nat.le_refl _) hb1); have HBX := Aside0.mk (show w.heap.size ≤ bx from hg); have HXN := Aside0.mk (show BoxS wn bx from Or.inl hF); have HXL := Aside0.mk HXN.out.lt; clear hg hF hb1)
    | ((with_reducible refine gate_dst (N := 23) rfl ?_); refine Kd.R_lit (Kd.int .u8) wn.heap.size 5 ?hg (N := 23) ?hd (w0 := wn) (xs := ([] : List Int)) (inner := []) (ok := fun k => wn.heap.size ≤ k) (okp := fun _ => False) ?hr ?hp (fun _ hk => hk.elim) (Nat.le_refl _) (Below.refl _ _) (Nat.le_refl _) (by simp) ?_; (case hd => rfl); (case hg => rfl); (case hr => first | (go_simp; done) | (go_simp; rfl)); (case hp => exact (Reps.none _ _)); intro v1 w3 ho4 hb hg_ hnew_; have HN := Aside0.mk hb; obtain ⟨Av, cv, rfl, hcv, hrd⟩ := Kd.R_reads ho4; have HO := Aside0.mk ho4; clear hb ho4 hg_ hnew_ hrd hcv)
    | ((with_reducible refine gate_builtin (b := .append) (xs := #[.tmp 23, .tmp 24]) rfl ?_); refine Kd.R_append_rows (Kd.int .u8) (w0 := wn) wn.heap.size rfl (.tmp 23) (.tmp 24) 22 5 (.int .u8 0) 1 rfl Try.underlying22 info_u8 rfl (by decide) (by omega) _ [] (ib key) A _ _ (fun k => wn.heap.size ≤ k) (fun _ => False) rfl rfl HO.out (show ReadsRow _ _ _ _ _ _ from Kd.C_below HCK.out (below_then HBW.out HBW.out.size HN.out)) (fun _ _ h => h) (fun _ h => h.elim) (fun k hk => Nat.le_trans HN.out.size hk) HN.out HN.out.size ?aL ?_; (case aL => (have := HLK.out; simp only [List.length_nil]; omega)); intro v2 w5 ho hb hg hat; have HN := Aside0.mk hb; have ho' : Ow w5 wn.heap.size v2 (ib key) := Ow.of_R ho (Nat.le_refl _); obtain ⟨go, oo, co, hv, _⟩ := Kd.Q_form ho' (by rw [ib_length]; have := HLK.out; omega); rw [ib_length, hkl, ← HLK.out] at hv; subst hv; have HO := Aside0.mk ho'; clear ho ho' hb hg hat))
  have HC := Aside0.mk (Ch.of_below (g := bx) HN.out)
  have HX := Aside0.mk (HXN.out.below HN.out)
  clear HN HXN
  have HO := Aside0.mk (show Ow _ wn.heap.size _ (ib (allL key k 0)) by rw [allL_zero key k hkl]; exact HO.out)
  obtain ⟨M, hM⟩ : ∃ z, z = 4 * (rd + 1) - k := ⟨_, rfl⟩
  have HM := Aside0.mk (show k + M = 4 * (rd + 1) by omega)
  obtain ⟨ht1, ht2, ht3, ht4⟩ := ej rd k M hrd HM.out
  obtain ⟨rd1, hrd1⟩ : ∃ z, z = rd + 1 := ⟨_, rfl⟩
  rw [← hrd1] at ht1 ht2 ht3 ht4
  have HR1 := Aside0.mk hrd1
  obtain ⟨tot, htot⟩ : ∃ z, z = k + M := ⟨_, rfl⟩
  rw [← htot] at ht2 ht4
  have HTOT := Aside0.mk htot
  clear hM hrd1 htot hrz hrz2 hrz3 hL4 hL5 hk64
  go_loopg [7, 8] M (fun kq av iv w' => ∃ m go oo co n ii : Nat, m + kq = M ∧ ii = k + m ∧ n = 4 * (k + m) ∧ av = .slice (some ⟨go, oo, none⟩) n co ∧ iv = .int .i64 (ii : Int) ∧ Aside0 (Ow w' wn.heap.size (.slice (some ⟨go, oo, none⟩) n co) (ib (allL key k m))) ∧ Aside0 (BoxS w' bx) ∧ Aside0 (Ch bx wn w'))
  case atStart => exact ⟨0, go, oo, co, L, k, by omega, by omega, by have := HLK.out; omega, rfl, rfl, HO, HX, HC⟩
  case round =>
    clear HO HX HC
    obtain ⟨m, go, oo, co, n, ii, hm, hii, hn, rfl, rfl, HO, HX, HC⟩ := hrel
    cases gk with
    | zero =>
      obtain rfl : m = M := by omega
      have HIDX := Aside0.mk (And.intro hii hn)
      have htn : ¬ (ii : Int) < (tot : Int) := ntot HTOT.out hii
      have HALL := Aside0.mk (show (ib (allL key k m)).length = n by rw [ib_length, allL_length key k m hkl hk0, hn])
      have HRK := Aside0.mk (roundKeys_all key k rd m hkl HRN.out HM.out)
      have HNR := Aside0.mk (hnr k m n rd rd1 HM.out HR1.out hn hrd)
      clear hm hii hn
      have HCN := Aside0.mk HC.out.size
      go_wp2_with (first
        | ((with_reducible refine gate_dst (N := 81) rfl ?_); refine wp_make0 kH (W := wr) wr wn.heap.size 22 rfl 25 (.const (.int .i64 0)) (.tmp 80) rfl rd1 rfl rfl Try.underlying25 (.slice none 0 0) 24 info_sl (by decide) HNR.out.2.2 (fun k => wn.heap.size ≤ k) HCN.out (Below.refl _ _) HCN.out ?_; intro w7 ho hb hg; have HOUT := Aside0.mk (show Kd.Q kH 22 w7 wn.heap.size (fun k => wn.heap.size ≤ k) (.slice (some ⟨wr.heap.size, 0, none⟩) 0 rd1) (heads go oo 0) from Kd.Q_of_R ho); have HO := Aside0.mk (show Ow w7 wn.heap.size _ _ from Kd.Q_grown HO.out hg (fun _ _ e => by cases e)); have HX := Aside0.mk (show BoxS w7 bx from HX.out.grown hg (by simp)); have HC := Aside0.mk (Ch.belowB HC.out hb); clear ho hb hg))
      go_loopg [12, 84] rd1 (fun kq av jv w' => ∃ (r c2 : Nat) (A2 : Option Addr), r + kq = rd1 ∧ av = .slice A2 r c2 ∧ jv = .int .i64 (r : Int) ∧ Aside0 (Kd.Q kH 22 w' wn.heap.size (fun k => wn.heap.size ≤ k) (.slice A2 r c2) (heads go oo r)) ∧ Aside0 (Ow w' wn.heap.size (.slice (some ⟨go, oo, none⟩) n co) (ib (allL key k m))) ∧ Aside0 (BoxS w' bx) ∧ Aside0 (Ch bx wn w'))
      case atStart => exact ⟨0, rd1, _, by omega, rfl, rfl, HOUT, HO, HX, HC⟩
      case round =>
        clear HOUT HO HX HC
        obtain ⟨r, c2, A2, hr, rfl, rfl, HOUT, HO, HX, HC⟩ := hrel
        cases gk with
        | zero =>
          obtain rfl : r = rd1 := by omega
          have hnl : ¬ (r : Int) < (r : Int) := by omega
          have HQ := Aside0.mk (Kd.Q_reads' HOUT.out)
          go_wp2
          refine bodyPost_ret (results_tmp2 rfl _ _ _) rfl ⟨_, rfl, Ch.below HC.out HBW.out HBW.out.size HBX.out, A2, c2, ?_, ?_, ?_⟩
          · rw [HRK.out, List.length_map, List.length_range, ← HR1.out]; rfl
          · rw [HRK.out, List.length_map, List.length_range, ← HR1.out]; exact HQ.out.2.1
          · rw [HRK.out, List.length_map, List.length_range, ← HR1.out]
            exact fun W'' hW => rows_of ((Kd.Q_F HOUT.out) W'' (fun k hk hlt => hW k (Nat.le_trans HBW.out.size hk) hlt)) ((Kd.Q_F HO.out) W'' (fun k hk hlt => hW k (Nat.le_trans HBW.out.size hk) hlt)) (fun q hq => heads_get go oo r q hq) (Nat.le_of_eq HNR.out.1.symm)
        | succ k2 =>
          have hrl : r < rd1 := by omega
          have HJ3 := Aside0.mk (show r + 1 + k2 = rd1 by omega)
          obtain ⟨hrl2, i1, i2, i3, i4, hsm, h16⟩ := el r rd1 n co HNR.out.1 hrl HNR.out.2.1 (Kd.Q_reads' HO.out).2.1
          have HSM := Aside0.mk hsm
          obtain ⟨e1, e2, e3, p1, p2, p3⟩ := ek r n h16 HNR.out.2.1
          clear hsm h16
          have HHS := Aside0.mk (heads_succ go oo r)
          have HHL := Aside0.mk (heads_length go oo r)
          obtain ⟨r16, hr16⟩ : ∃ z, z = 16 * r := ⟨_, rfl⟩
          obtain ⟨r17, hr17⟩ : ∃ z, z = 16 * (r + 1) := ⟨_, rfl⟩
          rw [← hr16] at e1 p1 i1 i3 i4 HHS
          rw [← hr17] at e3 p3 i1 i2 i4
          have HNX := Aside0.mk (And.intro e2 p2)
          obtain ⟨rp, hrp⟩ : ∃ z, z = r + 1 := ⟨_, rfl⟩
          rw [← hrp] at e2 p2 e3 p3 HHS HJ3 HNX
          have HRB := Aside0.mk HC.out.size
          have HRP := Aside0.mk hrp
          clear hr16 hr17 hrp hr hrl e1 e2 e3
          generalize heads go oo r = hl at *
          go_wp2_with (first
            | ((with_reducible refine gate_builtin (b := .append) (xs := #[.tmp 87, .tmp 98]) rfl ?_); refine Kd.Q_append kH (W := wr) (w0 := wr) wn.heap.size rfl (.tmp 87) (.tmp 98) 25 22 (.slice none 0 0) 24 rfl Try.underlying25 info_sl rfl (by decide) (by decide) _ hl (⟨go, oo + r16, none⟩, 16, 16) [.slice (some ⟨go, oo + r16, none⟩) 16 16] (fun k => wn.heap.size ≤ k) (fun _ => False) rfl rfl rfl (fun _ hk => hk.elim) (fun k hk => Nat.le_trans HRB.out hk) HOUT.out (Below.refl _ _) HRB.out (by rw [HHL.out]; exact HSM.out) ?_; intro v2 w7 ho hb hg hat; obtain ⟨A3, c3, hv3⟩ := Kd.Q_slice ho; have ho2 := ho; rw [HHS.out] at ho2; rw [List.length_append, HHL.out, List.length_singleton, ← HRP.out] at hv3; obtain ⟨hv3, _⟩ := hv3; subst hv3; have HO := Aside0.mk (show Ow w7 wn.heap.size _ _ from Kd.Q_over' HO.out (Kd.Q_typed HOUT.out) (by intro q hq; simp [Kd.int, Kd.scalar] at hq; subst hq; decide) hg); have HX := Aside0.mk (HX.out.belowB hb HXL.out); have HC := Aside0.mk (Ch.belowB HC.out hb); have HOUT := Aside0.mk ho2; clear ho ho2 hb hg hat))
          go_roundg k2
          case measure => omega
          case rel => exact ⟨rp, c3, A3, HJ3.out, rfl, by first | rfl | rw [HNX.out.1] | rw [HNX.out.2], HOUT, HO, HX, HC⟩
    | succ k1 =>
      have hml : m < M := by omega
      have htl : (ii : Int) < (tot : Int) := ltot HTOT.out hii hml
      have hbig : k + m < 1000 := by have := HM.out; omega
      have HJ := Aside0.mk (show m + 1 + k1 = M by omega)
      obtain ⟨e1, e2, e3, e4, e5, e6, p1, p2, p3, p4, p5, p6⟩ := ei k m n hk0 hbig hn
      have hco := (Kd.Q_reads' HO.out).2.1
      have SP := Aside0.mk (sub_c HO.out (k + m - 1) (4 * (k + m - 1)) rfl (by omega))
      have SD := Aside0.mk (sub_c HO.out m (4 * m) rfl (by omega))
      rw [allL_four key k m _ hkl hk0 (by omega)] at SP SD
      have hpl : (wordAt (wordsTo key k m) (k + m - 1)).length = 4 := (wordsTo_four key k hkl hk0 m).at_ (by rw [wordsTo_length]; omega)
      have CM := Aside0.mk (fun W h h2 => made_c (wordAt (wordsTo key k m) (k + m - 1)) hpl (k + m) k hk0 hk8 (by have := HM.out; omega) bx (some ⟨go, oo + 4 * (k + m - 1), none⟩) 4 (Nat.le_refl _) W h h2)
      have i1 : ((4 * (k + m - 1) : Nat) : Int) ≤ (n : Int) := by omega
      have i2 : (n : Int) ≤ (co : Int) := by omega
      have i3 : (0 : Int) ≤ ((4 * (k + m - 1) : Nat) : Int) := by omega
      have i4 : ((4 * m : Nat) : Int) ≤ ((4 * m + 4 : Nat) : Int) := by omega
      have i5 : ((4 * m + 4 : Nat) : Int) ≤ (co : Int) := by omega
      have i6 : (0 : Int) ≤ ((4 * m : Nat) : Int) := by omega
      have i7 : n - 4 * (k + m - 1) = 4 := by omega
      have i8 : 4 * m + 4 - 4 * m = 4 := by omega
      obtain ⟨a, ha⟩ : ∃ z, z = 4 * (k + m - 1) := ⟨_, rfl⟩
      obtain ⟨ii1, hii1⟩ : ∃ z, z = k + m - 1 := ⟨_, rfl⟩
      obtain ⟨m4, hm4⟩ : ∃ z, z = 4 * m := ⟨_, rfl⟩
      obtain ⟨m5, hm5⟩ : ∃ z, z = m4 + 4 := ⟨_, rfl⟩
      rw [← ha] at e2 p2 SP CM i1 i3 i7
      rw [← hii1] at e1 e2 p1 p2 SP CM
      rw [← hii] at e1 e3 e4 p1 p3 p4 CM
      rw [← hm4] at e5 e6 p5 p6 SD i4 i5 i6 i8
      rw [← hm5] at e6 p6 i4 i5 i8
      have HIDX := Aside0.mk (show a = 4 * (k + m - 1) ∧ ii = k + m ∧ m4 = 4 * m ∧ n = 4 * (k + m) from ⟨ha, hii, hm4, hn⟩)
      have HN4 := Aside0.mk (show n + 8 ≤ 140737488355328 ∧ 0 < n by omega)
      have HWL := Aside0.mk (wordB_length (wordsTo key k m) (k + m) k hpl)
      have HWT := Aside0.mk (fun j (hj : j < 4) => wordB_take (wordsTo key k m) (k + m) k j hj hpl)
      have HML := Aside0.mk (show (madeB (wordAt (wordsTo key k m) (k + m - 1)) (k + m) k).length = 4 from madeB_length _ _ _ hpl)
      have HAS := Aside0.mk (allL_succ key k m)
      have HAL := Aside0.mk (show (ib (allL key k m)).length = n by rw [ib_length, allL_length key k m hkl hk0, hn])
      rw [show k + m - k = m by omega] at HWT
      rw [← hii1, ← hii] at HWT HML
      rw [← hii] at HWL HAS
      clear ha hii1 hii hm4 hm5 hn hbig hm hml hpl
      generalize wordAt (wordsTo key k m) m = od at *
      generalize madeB (wordAt (wordsTo key k m) ii1) ii k = md at *
      generalize wordB (wordsTo key k m) ii k = nw at *
      have hgo := Kd.Q_base HO.out go rfl
      have HGX := Aside0.mk (show go ≠ bx by have := HXL.out; omega)
      have HGN := Aside0.mk (show go < wr.heap.size from Kd.Q_lt HO.out go rfl)
      clear hgo
      go_wp2_with (first
        | (go_at_call 67; (refine (CM.out _ SP.out.1 HX.out).mono ?_); rintro e w6 ⟨vw, rfl, hw, hx6, hc6⟩; have HO := Aside0.mk (HO.out.ch hc6 HXL.out); have HX := Aside0.mk hx6; have SD := Aside0.mk (fun (q : Nat) (hq : q < 4) => ch_cell hc6 (SD.out.2 q hq) HGX.out); have HCS := Aside0.mk HC.out.size; have HC := Aside0.mk (HC.out.trans hc6); obtain ⟨gw, ow, cw, hv, hbw, _⟩ := Kd.Q_form hw (by rw [ib_length, HML.out]; decide); rw [ib_length, HML.out] at hv; subst hv; have HGW := Aside0.mk (show go ≠ gw by have := HGN.out; omega); have HW := Aside0.mk (show Ow w6 wn.heap.size _ _ from Ow.of_Q hw HCS.out); clear hw hx6 hc6 hbw))
      have HI := Aside0.mk (show Inn wn w6 bx go oo gw ow cw m4 md od (ib (allL key k m) ++ ib (nw.take 0)) go oo n co from ⟨by rw [List.take_zero, ib_nil, List.append_nil]; exact HO.out, .inl ⟨rfl, rfl⟩, HGW.out, HW.out, SD.out, HX.out, HC.out, Kd.Q_lt HO.out go rfl⟩)
      clear HO HX HC SD HW HGW CM SP e1 e2 e3 e4 e5 e6 p1 p2 p3 p4 p5 p6 i1 i2 i3 i4 i5 i6 i7 i8 htl hco
      go_loopg [7, 64] 4 (fun kq av jv w' => ∃ j g1 o1 c1 nn : Nat, j + kq = 4 ∧ nn = n + j ∧ av = .slice (some ⟨g1, o1, none⟩) nn c1 ∧ jv = .int .i64 (j : Int) ∧ Aside0 (Inn wn w' bx go oo gw ow cw m4 md od (ib (allL key k m) ++ ib (nw.take j)) g1 o1 nn c1))
      case atStart => exact ⟨0, go, oo, co, n, by omega, rfl, rfl, rfl, HI⟩
      case round =>
        clear HI
        obtain ⟨j, g1, o1, c1, nn, hj, hnn, rfl, rfl, HI⟩ := hrel
        have HNN := Aside0.mk hnn
        clear hnn
        cases gk with
        | zero =>
          obtain rfl : j = 4 := by omega
          have HII := Aside0.mk (show wrap64 ((ii : Int) + 1) = ((ii + 1 : Nat) : Int) from w64n _ (by have := HIDX.out; have := HN4.out; omega))
          go_wp2
          go_roundg k1
          case measure => omega
          case rel =>
            refine ⟨m + 1, g1, o1, c1, nn, ii + 1, HJ.out, by have := HIDX.out; omega, by have := HIDX.out; have := HNN.out; omega, rfl, by rw [HII.out], ⟨?_⟩, ⟨HI.out.2.2.2.2.2.1⟩, ⟨HI.out.2.2.2.2.2.2.1⟩⟩
            rw [HAS.out, ib_append]
            have := HI.out.1
            rwa [List.take_of_length_le (by rw [HWL.out]; decide)] at this
        | succ k2 =>
          have hjl : j < 4 := by omega
          have h0 : (0 : Int) ≤ (j : Int) := by omega
          have h1 : (j : Int) < 4 := by omega
          have HJ2 := Aside0.mk (show j + 1 + k2 = 4 by omega)
          obtain ⟨hi1, hi2, hi3, hi4, hi5, hi6, hi7, hi8⟩ := HI.out
          have hx := hi5 j hjl
          obtain ⟨hy0, hf⟩ := Kd.Q_cell (0 : Int) hi4 (j : Int) h0 h1
          rw [Int.toNat_natCast] at hy0 hf
          have hy := show _ = some (Value.int .u8 ((ib md).getD (j : Int).toNat 0)) from hy0
          rw [Int.toNat_natCast, ib_getD] at hy
          have z1 := xor8 (od.getD j 0#8) (md.getD j 0#8)
          have HT := Aside0.mk (show ib (allL key k m) ++ ib (nw.take (j + 1)) = (ib (allL key k m) ++ ib (nw.take j)) ++ [I8 (od.getD j 0#8 ^^^ md.getD j 0#8)] by rw [HWT.out j hjl, ib_append, List.append_assoc]; rfl)
          have HLN := Aside0.mk (show (ib (allL key k m) ++ ib (nw.take j)).length = nn by rw [List.length_append, HAL.out, ib_length, List.length_take, HWL.out, HNN.out]; omega)
          have HBN := Aside0.mk (show wn.heap.size ≤ wr.heap.size from hi7.size)
          have HOI := Aside0.mk hi1
          clear hi1 hi2 hi3 hi4 hi5 hi6 hi7 hi8 hy0 hj hf
          generalize od.getD j 0#8 ^^^ md.getD j 0#8 = pz at *
          generalize od.getD j 0#8 = xz at *
          generalize md.getD j 0#8 = yz at *
          generalize ib (allL key k m) ++ ib (nw.take j) = ll at *
          go_wp2_with (first
            | ((with_reducible refine gate_builtin (b := .append) (xs := #[.tmp 69, .tmp 76]) rfl ?_); refine wp_app (W := wr) wr wn.heap.size rfl (.tmp 69) (.tmp 76) rfl (I8 pz) rfl rfl HOI.out HLN.out (by have := HNN.out; have := HN4.out; omega) (by have := HNN.out; have := HN4.out; omega) (Below.refl _ _) HBN.out ?_; intro v2 w7 ho hb hg hform hkeep; obtain ⟨g2, o2, c2, hv2, hI2⟩ := HI.out.step HXL.out (by have := HNN.out; have := HIDX.out; have := HN4.out; omega) HLN.out ho hb hg hform hkeep; subst hv2; have HI2 := Aside0.mk hI2; clear ho hb hg hform hkeep hI2))
          go_roundg k2
          case measure => omega
          case rel => exact ⟨j + 1, g2, o2, c2, nn + 1, HJ2.out, by have := HNN.out; omega, rfl, by go_num, ⟨by rw [HT.out]; exact HI2.out⟩⟩
end Go.Proofs.Ytpdikfmdnlhllaa.Aes
namespace Go.Proofs.Ytpdikfmdnlhllaa.Aes
open Go.RowKit Go.Proofs.Ytpdikfmdnlhllaa.PNib Go.Proofs.YtpdikfmdnlhllaaW.PrintWords Go.Proofs.YtpdikfmdnlhllaaW.PrintLast Go.Proofs.YtpdikfmdnlhllaaW.PrintMore Byte Sl Arr Mem Gives ArrEq Mat AesMath AesMov AesLin HandKit
set_option linter.unusedVariables false
set_option linter.unusedSimpArgs false
theorem expand_ok (key : List B) (hr : roundsN key.length ≠ 0) (A : Option Addr) (c : Nat) (hc : key.length ≤ c) (w : World) (hC : Kd.C (Kd.int .u8) w A key.length (ib key)) : Calls Try.prog 18 #[.slice A key.length c] w fun e w' => ∃ v, e = .returned (.tuple #[v, .int .i64 0]) ∧ Below w.heap.size w w' ∧ RK w' w.heap.size v (roundKeys key) := by
  rcases roundsN_pos hr with ⟨h, h2⟩ | ⟨h, h2⟩ | ⟨h, h2⟩
  · have := expand_c key 4 10 h (by decide) (by decide) (by decide) (by decide) (by decide) (by decide) h2 A c (by omega) w (by rw [h] at hC; exact hC)
    rw [h]; exact this
  · have := expand_c key 6 12 h (by decide) (by decide) (by decide) (by decide) (by decide) (by decide) h2 A c (by omega) w (by rw [h] at hC; exact hC)
    rw [h]; exact this
  · have := expand_c key 8 14 h (by decide) (by decide) (by decide) (by decide) (by decide) (by decide) h2 A c (by omega) w (by rw [h] at hC; exact hC)
    rw [h]; exact this
set_option maxHeartbeats 4000000 in
set_option maxRecDepth 100000 in
theorem new_c (key : List B) (hr : roundsN key.length ≠ 0) (A : Option Addr) (c : Nat) (hc : key.length ≤ c) (w : World) (hC : Kd.C (Kd.int .u8) w A key.length (ib key)) : Calls Try.prog 30 #[.slice A key.length c] w fun e w' => ∃ g bx, e = .returned (.tuple #[.pointer (some ⟨g, 0, none⟩), .int .i64 0]) ∧ Cph w' g bx (roundKeys key) ∧ w.heap.size ≤ g ∧ w.heap.size ≤ bx ∧ Below w.heap.size w w' := by
  have CE := Aside0.mk (expand_ok key hr A c hc w hC)
  have CN := Aside0.mk newbox_c
  clear hC hr hc
  go_enter Try.func30, Try.ntmps30
  go_wp2_with (first
    | (go_at_call 18; (refine (CE.out).mono ?_); rintro e w1 ⟨v, rfl, hb, Ak, ck, rfl, hck, hF⟩; have HB := Aside0.mk hb; have HS1 := Aside0.mk hb.size; have HF := Aside0.mk hF; have HCK := Aside0.mk hck; clear hb hF hck)
    | (go_at_call 66; (with_reducible refine (CN.out _).mono ?_); rintro e wn ⟨bx, rfl, hg, hF2, hb1⟩; have HBX := Aside0.mk hg; have HX := Aside0.mk (show BoxS wn bx from Or.inl hF2); have HF := Aside0.mk (Kd.F_below (Kd.F_bound HF.out) hb1); have HBS := Aside0.mk hb1.size; have HB := Aside0.mk (below_step HB.out hb1); clear hg hF2 hb1))
  refine bodyPost_ret (results_tmp2 rfl _ _ _) rfl ⟨wn.heap.size, bx, rfl, ⟨⟨Ak, ck, blk_new _ _, HCK.out, ?_⟩, HX.out.below (below_alloc (Below.refl _ _) _)⟩, HB.out.size, Nat.le_trans HS1.out HBX.out, below_alloc HB.out _⟩
  · exact Kd.F_mono (Kd.F_alloc HF.out _) (fun k hk e => by have := HBX.out; have := hk.2; omega)
end Go.Proofs.Ytpdikfmdnlhllaa.Aes
namespace Go.Proofs.Ytpdikfmdnlhllaa.Aes
open Go.RowKit Go.Proofs.Ytpdikfmdnlhllaa.PNib Go.Proofs.YtpdikfmdnlhllaaW.PrintWords Go.Proofs.YtpdikfmdnlhllaaW.PrintLast Go.Proofs.YtpdikfmdnlhllaaW.PrintMore Byte Sl Arr Mem Gives ArrEq Mat AesMath AesMov AesLin HandKit
set_option linter.unusedVariables false
set_option linter.unusedSimpArgs false
theorem mem_C {w : World} {g : Nat} {t : TypeId} {l : List Int} (h : Mem .u8 w g t l) (n : Nat) (hn : n ≤ l.length) (hs : n < 4611686018427387904) : Kd.C (Kd.int .u8) w (some ⟨g, 0, none⟩) n (l.take n) := by
  have hl : (l.take n).length = n := by rw [List.length_take]; omega
  have h1 : Sl .u8 w (.slice (some ⟨g, 0, none⟩) (l.take n).length n) (l.take n) := Sl.of_cells (by omega) (by omega) (fun j x hj => by
    have hj2 : j < n := by
      have := (List.getElem?_eq_some_iff.1 hj).1
      omega
    have := h.cell j (by omega)
    rw [show (⟨g, 0, none⟩ : Addr).add j = ⟨g, j, none⟩ by rw [add_at, Nat.zero_add], this]
    rw [List.getElem?_take_of_lt hj2] at hj
    rw [List.getD_eq_getElem?_getD, hj]
    rfl)
  obtain ⟨A, c, hv, _, hC⟩ := h1
  rw [hl] at hC hv
  injection hv with hA
  rw [hA]
  exact hC
theorem round_keys_len (key : List B) (hr : roundsN key.length ≠ 0) : ∃ n, (roundKeys key).length = n + 2 ∧ n + 1 = roundsN key.length ∧ n ≤ 100 ∧ ∀ r, r < n + 2 → (keyAt (roundKeys key) r).length = 16 := by
  obtain ⟨k, rd, M, h1, h2, h3, h4, h5⟩ : ∃ k rd M, key.length = 4 * k ∧ 0 < k ∧ roundsN key.length = rd + 1 ∧ k + M = 4 * (rd + 2) ∧ rd ≤ 100 := by
    rcases roundsN_pos hr with ⟨h, h2⟩ | ⟨h, h2⟩ | ⟨h, h2⟩
    · exact ⟨4, 9, 40, h, by decide, h2, by decide, by decide⟩
    · exact ⟨6, 11, 46, h, by decide, h2, by decide, by decide⟩
    · exact ⟨8, 13, 52, h, by decide, h2, by decide, by decide⟩
  refine ⟨rd, ?_, h3.symm, h5, fun r hr => ?_⟩
  · rw [roundKeys_length, h3]
  · unfold keyAt
    rw [roundKeys_all key k (rd + 1) M h1 h3 (by omega)]
    rw [List.getD_eq_getElem?_getD, List.getElem?_map, List.getElem?_range (by omega)]
    show (((allL key k M).drop (16 * r)).take 16).length = 16
    rw [List.length_take, List.length_drop, allL_length key k M h1 h2]
    omega
end Go.Proofs.Ytpdikfmdnlhllaa.Aes
namespace Go.Proofs.Ytpdikfmdnlhllaa.Aes
open Byte AesMath
/-- Bytes, as whole numbers. -/
def Bytes (l : List Int) : Prop := ∀ x ∈ l, 0 ≤ x ∧ x < 256
theorem Bytes.rd {l : List Int} (h : Bytes l) (i : Nat) : 0 ≤ l.getD i 0 ∧ l.getD i 0 < 256 := by
  rw [List.getD_eq_getElem?_getD]
  cases e : l[i]? with
  | none => simp
  | some x => exact h x (List.mem_of_getElem? e)
theorem Bytes.set {l : List Int} (h : Bytes l) (i : Nat) (x : Int) (h0 : 0 ≤ x) (h1 : x < 256) : Bytes (l.set i x) := by
  intro y hy
  rcases List.mem_or_eq_of_mem_set hy with h' | h'
  · exact h y h'
  · omega
theorem bytes_ib (l : List B) : Bytes (ib l) := ib_b l
/-- Whole numbers, as bytes. -/
def unI (l : List Int) : List B := l.map (BitVec.ofInt 8)
theorem ib_unI {l : List Int} (h : Bytes l) : ib (unI l) = l := by
  obtain ⟨b, rfl⟩ := ib_of h
  unfold unI ib
  rw [List.map_map, List.map_map]
  exact List.map_congr_left fun x _ => by simp only [Function.comp]; rw [of8]
/-- A byte of doubled bytes, but for the last one's mark. -/
def dbB (b : List Int) (i : Nat) : Int := (b.getD i 0 * 2) % 256 + (if i < 15 then b.getD (i + 1) 0 / 128 else 0)
def dbL (b : List Int) : List Int := (List.range 16).map (dbB b)
theorem dbL_length (b : List Int) : (dbL b).length = 16 := by simp [dbL]
theorem dbL_get (b : List Int) (i : Nat) (h : i < 16) : (dbL b)[i]? = some (dbB b i) := by simp [dbL, h]
theorem dbL_getD (b : List Int) (i : Nat) (h : i < 16) : (dbL b).getD i 0 = dbB b i := by rw [List.getD_eq_getElem?_getD, dbL_get b i h]; rfl
def dbl (b : List Int) : List Int := if b.getD 0 0 / 128 = 1 then (dbL b).set 15 (Go.bits .xor .u8 (dbB b 15) 135) else dbL b
theorem dbl_length (b : List Int) : (dbl b).length = 16 := by
  unfold dbl; split
  · rw [List.length_set, dbL_length]
  · exact dbL_length b
theorem dbB_byte {b : List Int} (h : Bytes b) (i : Nat) : 0 ≤ dbB b i ∧ dbB b i < 256 := by
  unfold dbB
  have h1 := h.rd i
  have h2 := h.rd (i + 1)
  split <;> omega
theorem dbl_bytes {b : List Int} (h : Bytes b) : Bytes (dbl b) := by
  have h0 : Bytes (dbL b) := by
    intro x hx
    unfold dbL at hx
    obtain ⟨i, _, rfl⟩ := List.mem_map.1 hx
    exact dbB_byte h i
  unfold dbl; split
  · obtain ⟨c, hc⟩ := I8_of (dbB b 15) (dbB_byte h 15).1 (dbB_byte h 15).2
    rw [hc, show (135 : Int) = I8 135#8 from rfl, xor8]
    exact h0.set _ _ (I8_lo _) (I8_hi _)
  · exact h0
/-- Bytes, doubled. -/
def dblB (b : List B) : List B := unI (dbl (ib b))
theorem ib_dblB (b : List B) : ib (dblB b) = dbl (ib b) := ib_unI (dbl_bytes (bytes_ib b))
theorem dblB_length (b : List B) : (dblB b).length = 16 := by rw [← ib_length, ib_dblB, dbl_length]
/-- Put together, as far as both go. -/
def zipX (a b : List B) : List B := List.zipWith (· ^^^ ·) a b
theorem zipX_length (a b : List B) : (zipX a b).length = min a.length b.length := by simp [zipX]
theorem zipX_16 {a b : List B} (ha : a.length = 16) (hb : b.length = 16) : (zipX a b).length = 16 := by rw [zipX_length, ha, hb]; rfl
theorem zipX_ib (a b : List B) : List.zipWith (Go.bits .xor .u8) (ib a) (ib b) = ib (zipX a b) := by
  unfold zipX ib
  rw [List.zipWith_map, List.map_zipWith]
  congr 1
  funext x y
  exact xor8 x y
theorem zipX_assoc : ∀ a b c : List B, zipX (zipX a b) c = zipX a (zipX b c)
  | [], _, _ => by simp [zipX]
  | _ :: _, [], _ => by simp [zipX]
  | _ :: _, _ :: _, [] => by simp [zipX]
  | x :: a, y :: b, z :: c => by
    have := zipX_assoc a b c
    simp only [zipX, List.zipWith_cons_cons] at this ⊢
    rw [this, BitVec.xor_assoc]
theorem zipX_zero : ∀ (n : Nat) (a : List B), a.length ≤ n → zipX (List.replicate n 0#8) a = a
  | _, [], _ => by simp [zipX]
  | 0, _ :: _, h => by simp at h
  | n + 1, x :: a, h => by
    have := zipX_zero n a (by simpa using h)
    unfold zipX at this ⊢
    rw [List.replicate_succ, List.zipWith_cons_cons, this, BitVec.zero_xor]
theorem zipX_take (a b : List B) (n : Nat) : zipX (a.take n) (b.take n) = (zipX a b).take n := by unfold zipX; rw [List.take_zipWith]
theorem zipX_takeR (a b : List B) (n : Nat) (h : a.length ≤ n) : zipX a (b.take n) = zipX a b := by
  rw [← List.take_of_length_le h, zipX_take, List.take_of_length_le h, List.take_of_length_le (by rw [zipX_length]; omega)]
def zB : List B := List.replicate 16 0#8
theorem zipX_zB {a : List B} (h : a.length ≤ 16) : zipX zB a = a := zipX_zero 16 a h
/-- A part of a block, filled up. -/
def padB (l : List B) : List B := l ++ 128#8 :: List.replicate (15 - l.length) 0#8
theorem padB_length {l : List B} (h : l.length < 16) : (padB l).length = 16 := by unfold padB; simp; omega
/-- The last block, with its mask. -/
def lastX (a b l : List B) : List B := if l.length = 16 then zipX l a else zipX (padB l) b
theorem lastX_length {a b l : List B} (ha : a.length = 16) (hb : b.length = 16) (h : l.length ≤ 16) : (lastX a b l).length = 16 := by
  unfold lastX; split
  · exact zipX_16 (by assumption) ha
  · exact zipX_16 (padB_length (by omega)) hb
/-- From block to block: E enciphers, a and b are the masks. -/
def macB (E : List B → List B) (a b x m : List B) : List B :=
  if _h : 16 < m.length then macB E a b (E (zipX x (m.take 16))) (m.drop 16) else E (zipX x (lastX a b m))
termination_by m.length
decreasing_by simp; omega
theorem macB_step (E : List B → List B) (a b x m : List B) (h : 16 < m.length) : macB E a b x m = macB E a b (E (zipX x (m.take 16))) (m.drop 16) := by
  rw [macB, dif_pos h]
theorem macB_end (E : List B → List B) (a b x m : List B) (h : m.length ≤ 16) : macB E a b x m = E (zipX x (lastX a b m)) := by
  rw [macB, dif_neg (by omega)]
theorem macB_E (E : List B → List B) (a b x m : List B) (hE : ∀ y, (E y).length = 16) : (macB E a b x m).length = 16 := by
  induction h : m.length using Nat.strongRecOn generalizing x m with
  | ind n ih =>
    rcases Nat.lt_or_ge 16 m.length with h1 | h1
    · rw [macB_step _ _ _ _ _ h1]
      exact ih (m.drop 16).length (by rw [List.length_drop]; omega) _ _ rfl
    · rw [macB_end _ _ _ _ _ h1, hE]
/-- A tag: E of nothing but zeros, doubled, is the one mask, and doubled again the other. -/
def cmacB (E : List B → List B) (m : List B) : List B := macB E (dblB (E zB)) (dblB (dblB (E zB))) zB m
theorem cmacB_length (E : List B → List B) (m : List B) (hE : ∀ y, (E y).length = 16) : (cmacB E m).length = 16 := macB_E E _ _ _ _ hE
theorem cmac_one (E : List B → List B) (b : List B) (hb : b.length = 16) : cmacB E b = E (zipX b (dblB (E zB))) := by
  unfold cmacB
  rw [macB_end _ _ _ _ _ (by omega), lastX, if_pos hb, zipX_zB (by rw [zipX_16 hb (dblB_length _)]; omega)]
theorem cmac_goes (E : List B → List B) (b m : List B) (hE : ∀ y, (E y).length = 16) (hb : b.length = 16) (hm : 16 ≤ m.length) : cmacB E (b ++ m) = cmacB E (zipX (E b) m ++ m.drop 16) := by
  have h1 : cmacB E (b ++ m) = macB E (dblB (E zB)) (dblB (dblB (E zB))) (E b) m := by
    unfold cmacB
    rw [macB_step _ _ _ _ _ (by rw [List.length_append]; omega), List.take_left' hb, List.drop_left' hb, zipX_zB (by omega)]
  have hl : (zipX (E b) m).length = 16 := by rw [zipX_length, hE]; omega
  rw [h1]
  unfold cmacB
  rcases Nat.lt_or_ge 16 m.length with h | h
  · rw [macB_step _ _ _ _ m h, macB_step _ _ _ _ (zipX (E b) m ++ m.drop 16) (by rw [List.length_append, List.length_drop]; omega), List.take_left' hl, List.drop_left' hl, zipX_zB (by omega), zipX_takeR _ _ _ (by rw [hE]; omega)]
  · have hm16 : m.length = 16 := by omega
    rw [List.drop_eq_nil_of_le (by omega), List.append_nil, macB_end _ _ _ _ m (by omega), macB_end _ _ _ _ _ (by omega)]
    unfold lastX
    rw [if_pos hm16, if_pos hl, zipX_zB (by rw [zipX_16 hl (dblB_length _)]; omega), zipX_assoc]
end Go.Proofs.Ytpdikfmdnlhllaa.Aes
namespace Go.Proofs.Ytpdikfmdnlhllaa.CmEval
open Go.RowKit Go.Proofs.Ytpdikfmdnlhllaa.PNib Go.Proofs.YtpdikfmdnlhllaaW.PrintWords Go.Proofs.YtpdikfmdnlhllaaW.PrintLast Go.Proofs.YtpdikfmdnlhllaaW.PrintMore Byte Octet Aes
abbrev ib := @AesMath.ib
abbrev B := AesMath.B
theorem Bytes.rdw {l : List Int} (h : Bytes l) (i : Int) : 0 ≤ rd l i ∧ rd l i < 256 := by
  unfold Go.Proofs.YtpdikfmdnlhllaaW.PrintWords.rd
  exact h.rd i.toNat
theorem RXor_l0 (a b : List Int) (ha : a.length ≤ 140737488351232) : ∀ (d k i : Nat), i + d = min a.length b.length → d < k → visorref01_Xor.l0 k a b (xorL (a.take i) (b.take i)) (i : Int) = some (xorL a b) := by
  intro d
  induction d with
  | zero =>
    intro k i hi hk
    obtain ⟨k, rfl⟩ : ∃ m, k = m + 1 := ⟨k - 1, by omega⟩
    simp only [visorref01_Xor.l0]
    have e : xorL (a.take i) (b.take i) = xorL a b := by
      unfold xorL; rw [← List.take_zipWith, List.take_of_length_le (by simp; omega)]
    rw [e]
    by_cases c : (i : Int) < a.length
    · rw [if_pos c, if_neg (by omega)]
    · rw [if_neg c]
  | succ d ih =>
    intro k i hi hk
    obtain ⟨k, rfl⟩ : ∃ m, k = m + 1 := ⟨k - 1, by omega⟩
    simp only [visorref01_Xor.l0]
    have hl : (xorL (a.take i) (b.take i)).length < 140737488355328 := by unfold xorL; simp; omega
    rw [if_pos (by omega), if_pos (by omega), if_pos (by omega), if_pos hl, show wrap64 ((i : Int) + 1) = ((i + 1 : Nat) : Int) by unfold wrap64; omega, ← ih k (i + 1) (by omega) (by omega)]
    congr 1
    have h1 : i < a.length := by omega
    have h2 : i < b.length := by omega
    unfold rd xorL
    rw [Int.toNat_natCast, List.take_succ_eq_append_getElem h1, List.take_succ_eq_append_getElem h2, List.zipWith_append (by simp; omega)]
    simp [List.getD_eq_getElem?_getD, List.getElem?_eq_getElem h1, List.getElem?_eq_getElem h2]
theorem RXor_eq (a b : List Int) (ha : a.length ≤ 140737488351232) (k : Nat) (hk : a.length + 1 ≤ k) : visorref01_Xor.f k a b = some (xorL a b) := by
  unfold visorref01_Xor.f
  have := RXor_l0 a b ha (min a.length b.length) k 0 (by omega) (by omega)
  simpa [xorL] using this
theorem or_low (x y : Int) (hx0 : 0 ≤ x) (hx : x % 2 = 0) (hx1 : x < 256) (hy0 : 0 ≤ y) (hy : y < 2) : Go.bits .or .u8 x y = x + y := bits_join .u8 8 (by decide) wraps_u8 1 x y hx0 hx hx1 hy0 hy (by omega)
theorem Double_l0 (b : List Int) (hb : Bytes b) (hl : b.length = 16) : ∀ (d k : Nat), d ≤ 16 → d < k → octet_Double.l0 k b (List.replicate d 0 ++ (dbL b).drop d) (if d < 16 then b.getD d 0 / 128 else 0) ((d : Int) - 1) = some (dbl b) := by
  intro d
  induction d with
  | zero =>
    intro k hd hk
    obtain ⟨k, rfl⟩ : ∃ m, k = m + 1 := ⟨k - 1, by omega⟩
    simp only [octet_Double.l0]
    rw [if_neg (by omega), if_pos (show (0 : Nat) < 16 by decide)]
    unfold dbl
    have hr : rd (dbL b) 15 = dbB b 15 := by unfold rd; exact dbL_getD b 15 (by decide)
    simp only [List.replicate_zero, List.nil_append, List.drop_zero, dbL_length]
    by_cases c : b.getD 0 0 / 128 = 1
    · rw [if_pos c, if_pos c, if_pos (by decide), hr]; rfl
    · rw [if_neg c, if_neg c]
  | succ d ih =>
    intro k hd hk
    obtain ⟨k, rfl⟩ : ∃ m, k = m + 1 := ⟨k - 1, by omega⟩
    simp only [octet_Double.l0]
    have e1 : ((d + 1 : Nat) : Int) - 1 = (d : Int) := by omega
    have er : rd b (d : Int) = b.getD d 0 := by unfold rd; rw [Int.toNat_natCast]
    have hr := Bytes.rdw hb (d : Int)
    have hlen : (List.replicate (d + 1) (0 : Int) ++ (dbL b).drop (d + 1)).length = 16 := by simp [dbL_length]; omega
    rw [e1, if_pos (by omega), if_pos (by omega), if_pos (by omega), if_pos (by rw [hlen]; omega), Int.toNat_natCast, show wrap64 ((d : Int) - 1) = (d : Int) - 1 by unfold wrap64; omega]
    rw [er] at hr ⊢
    have hc : 0 ≤ (if d + 1 < 16 then b.getD (d + 1) 0 / 128 else 0) ∧ (if d + 1 < 16 then b.getD (d + 1) 0 / 128 else (0 : Int)) < 2 := by
      have h2 := Bytes.rdw hb ((d + 1 : Nat) : Int)
      have er2 : rd b ((d + 1 : Nat) : Int) = b.getD (d + 1) 0 := by unfold rd; rw [Int.toNat_natCast]
      rw [er2] at h2
      split <;> omega
    have es : (List.replicate (d + 1) (0 : Int) ++ (dbL b).drop (d + 1)).set d (dbB b d) = List.replicate d 0 ++ (dbL b).drop d := by
      rw [List.replicate_succ', List.append_assoc, List.set_append_right _ _ (by simp)]
      simp only [List.length_replicate, Nat.sub_self, List.singleton_append, List.set_cons_zero]
      have hlt : d < (dbL b).length := by rw [dbL_length]; omega
      rw [List.drop_eq_getElem_cons hlt]
      have := dbL_get b d (by omega)
      rw [List.getElem?_eq_getElem hlt] at this
      rw [Option.some.inj this]
    have ev : Go.bits .or .u8 (b.getD d 0 * 2 % 256) (if d + 1 < 16 then b.getD (d + 1) 0 / 128 else 0) = dbB b d := by
      rw [or_low _ _ (by omega) (by omega) (by omega) hc.1 hc.2]
      unfold dbB
      congr 1
      by_cases c : d < 15
      · rw [if_pos c, if_pos (by omega)]
      · rw [if_neg c, if_neg (by omega)]
    rw [ev, es]
    have := ih k (by omega) (by omega)
    rw [if_pos (show d < 16 by omega)] at this
    exact this
theorem Double_eq (b : List Int) (hb : Bytes b) (k : Nat) (hk : 17 ≤ k) : octet_Double.f k b = some (if b.length = 16 then dbl b else []) := by
  unfold octet_Double.f
  by_cases c : b.length = 16
  · rw [if_pos (by omega), if_pos c, if_pos (by decide)]
    have := Double_l0 b hb c 16 k (by decide) (by omega)
    rw [if_neg (by decide), List.drop_eq_nil_of_le (by rw [dbL_length]; decide), List.append_nil] at this
    exact this
  · rw [if_neg (by omega), if_neg c]
theorem str_eq (a b : List Int) (ha : Bytes a) (hb : Bytes b) : ((strOfNums a).toList = (strOfNums b).toList) ↔ a = b := by
  constructor
  · intro h
    rw [Go.Lib.strOfNums_toList, Go.Lib.strOfNums_toList] at h
    unfold Go.Lib.bytesOf at h
    have hlen : a.length = b.length := by have := congrArg List.length h; simpa using this
    refine List.ext_getElem hlen fun i h1 h2 => ?_
    have := congrArg (fun l => l[i]?) h
    simp only [List.getElem?_map, List.getElem?_eq_getElem h1, List.getElem?_eq_getElem h2, Option.map_some, Option.some.injEq] at this
    have h3 := congrArg UInt8.toNat this
    have ka := ha _ (List.getElem_mem h1)
    have kb := hb _ (List.getElem_mem h2)
    simp only [UInt8.toNat_ofNat'] at h3
    omega
  · rintro rfl; rfl
theorem str_beq (a b : List B) : ((strOfNums (ib a)).toList == (strOfNums (ib b)).toList) = decide (a = b) := by
  by_cases h : a = b
  · subst h; simp
  · rw [decide_eq_false h, beq_eq_false_iff_ne]
    intro h2
    exact h (AesMath.ib_inj ((str_eq _ _ (bytes_ib a) (bytes_ib b)).1 h2))
theorem RSame_eq (a b : List B) : visorref01_Same.f (ib a) (ib b) = some (decide (a = b)) := by
  unfold visorref01_Same.f; rw [str_beq]
/-- Does the one begin with the other, that is not nothing? -/
def begins (l s : List B) : Bool := decide (1 ≤ s.length ∧ s.length ≤ l.length ∧ l.take s.length = s)
theorem Begins_eq (l s : List B) : visorref11_Begins.f (ib l) (ib s) = some (begins l s) := by
  unfold visorref11_Begins.f begins
  rw [show (ib l).length = l.length from AesMath.ib_length l, show (ib s).length = s.length from AesMath.ib_length s]
  by_cases h1 : s.length < 1
  · rw [if_pos (by omega), decide_eq_false (by omega)]
  · rw [if_neg (by omega)]
    by_cases h2 : l.length < s.length
    · rw [if_pos (by omega), decide_eq_false (by omega)]
    · rw [if_neg (by omega), if_pos (by omega), if_pos (by omega), Int.toNat_natCast, show (ib l).take s.length = ib (l.take s.length) from (AesMath.ib_take l _).symm, RSame_eq]
      simp only [Option.bind_some]
      congr 1
      by_cases h3 : l.take s.length = s
      · rw [decide_eq_true h3, decide_eq_true ⟨by omega, by omega, h3⟩]
      · rw [decide_eq_false h3, decide_eq_false (fun h => h3 h.2.2)]
end Go.Proofs.Ytpdikfmdnlhllaa.CmEval
namespace Go.Proofs.Ytpdikfmdnlhllaa.AesMath
open Mat GfMath
set_option maxRecDepth 100000
theorem subB_funC : (subB : B → B) = subR := funext subB_R
def cmK : List B := [43#8, 126#8, 21#8, 22#8, 40#8, 174#8, 210#8, 166#8, 171#8, 247#8, 21#8, 136#8, 9#8, 207#8, 79#8, 60#8]
def cmKW : List (List B) := [[43#8, 126#8, 21#8, 22#8], [40#8, 174#8, 210#8, 166#8], [171#8, 247#8, 21#8, 136#8], [9#8, 207#8, 79#8, 60#8], [160#8, 250#8, 254#8, 23#8], [136#8, 84#8, 44#8, 177#8], [35#8, 163#8, 57#8, 57#8], [42#8, 108#8, 118#8, 5#8], [242#8, 194#8, 149#8, 242#8], [122#8, 150#8, 185#8, 67#8], [89#8, 53#8, 128#8, 122#8], [115#8, 89#8, 246#8, 127#8], [61#8, 128#8, 71#8, 125#8], [71#8, 22#8, 254#8, 62#8], [30#8, 35#8, 126#8, 68#8], [109#8, 122#8, 136#8, 59#8], [239#8, 68#8, 165#8, 65#8], [168#8, 82#8, 91#8, 127#8], [182#8, 113#8, 37#8, 59#8], [219#8, 11#8, 173#8, 0#8], [212#8, 209#8, 198#8, 248#8], [124#8, 131#8, 157#8, 135#8], [202#8, 242#8, 184#8, 188#8], [17#8, 249#8, 21#8, 188#8], [109#8, 136#8, 163#8, 122#8], [17#8, 11#8, 62#8, 253#8], [219#8, 249#8, 134#8, 65#8], [202#8, 0#8, 147#8, 253#8], [78#8, 84#8, 247#8, 14#8], [95#8, 95#8, 201#8, 243#8], [132#8, 166#8, 79#8, 178#8], [78#8, 166#8, 220#8, 79#8], [234#8, 210#8, 115#8, 33#8], [181#8, 141#8, 186#8, 210#8], [49#8, 43#8, 245#8, 96#8], [127#8, 141#8, 41#8, 47#8], [172#8, 119#8, 102#8, 243#8], [25#8, 250#8, 220#8, 33#8], [40#8, 209#8, 41#8, 65#8], [87#8, 92#8, 0#8, 110#8], [208#8, 20#8, 249#8, 168#8], [201#8, 238#8, 37#8, 137#8], [225#8, 63#8, 12#8, 200#8], [182#8, 99#8, 12#8, 166#8]]
theorem cmK_w0 : wordsTo cmK 4 0 = cmKW.take 4 := by decide +kernel
theorem cmK_w1 : wordsTo cmK 4 1 = cmKW.take 5 := by rw [wordsTo, cmK_w0]; unfold wordB madeB; rw [subB_funC]; decide +kernel
theorem cmK_w2 : wordsTo cmK 4 2 = cmKW.take 6 := by rw [wordsTo, cmK_w1]; unfold wordB madeB; rw [subB_funC]; decide +kernel
theorem cmK_w3 : wordsTo cmK 4 3 = cmKW.take 7 := by rw [wordsTo, cmK_w2]; unfold wordB madeB; rw [subB_funC]; decide +kernel
theorem cmK_w4 : wordsTo cmK 4 4 = cmKW.take 8 := by rw [wordsTo, cmK_w3]; unfold wordB madeB; rw [subB_funC]; decide +kernel
theorem cmK_w5 : wordsTo cmK 4 5 = cmKW.take 9 := by rw [wordsTo, cmK_w4]; unfold wordB madeB; rw [subB_funC]; decide +kernel
theorem cmK_w6 : wordsTo cmK 4 6 = cmKW.take 10 := by rw [wordsTo, cmK_w5]; unfold wordB madeB; rw [subB_funC]; decide +kernel
theorem cmK_w7 : wordsTo cmK 4 7 = cmKW.take 11 := by rw [wordsTo, cmK_w6]; unfold wordB madeB; rw [subB_funC]; decide +kernel
theorem cmK_w8 : wordsTo cmK 4 8 = cmKW.take 12 := by rw [wordsTo, cmK_w7]; unfold wordB madeB; rw [subB_funC]; decide +kernel
theorem cmK_w9 : wordsTo cmK 4 9 = cmKW.take 13 := by rw [wordsTo, cmK_w8]; unfold wordB madeB; rw [subB_funC]; decide +kernel
theorem cmK_w10 : wordsTo cmK 4 10 = cmKW.take 14 := by rw [wordsTo, cmK_w9]; unfold wordB madeB; rw [subB_funC]; decide +kernel
theorem cmK_w11 : wordsTo cmK 4 11 = cmKW.take 15 := by rw [wordsTo, cmK_w10]; unfold wordB madeB; rw [subB_funC]; decide +kernel
theorem cmK_w12 : wordsTo cmK 4 12 = cmKW.take 16 := by rw [wordsTo, cmK_w11]; unfold wordB madeB; rw [subB_funC]; decide +kernel
theorem cmK_w13 : wordsTo cmK 4 13 = cmKW.take 17 := by rw [wordsTo, cmK_w12]; unfold wordB madeB; rw [subB_funC]; decide +kernel
theorem cmK_w14 : wordsTo cmK 4 14 = cmKW.take 18 := by rw [wordsTo, cmK_w13]; unfold wordB madeB; rw [subB_funC]; decide +kernel
theorem cmK_w15 : wordsTo cmK 4 15 = cmKW.take 19 := by rw [wordsTo, cmK_w14]; unfold wordB madeB; rw [subB_funC]; decide +kernel
theorem cmK_w16 : wordsTo cmK 4 16 = cmKW.take 20 := by rw [wordsTo, cmK_w15]; unfold wordB madeB; rw [subB_funC]; decide +kernel
theorem cmK_w17 : wordsTo cmK 4 17 = cmKW.take 21 := by rw [wordsTo, cmK_w16]; unfold wordB madeB; rw [subB_funC]; decide +kernel
theorem cmK_w18 : wordsTo cmK 4 18 = cmKW.take 22 := by rw [wordsTo, cmK_w17]; unfold wordB madeB; rw [subB_funC]; decide +kernel
theorem cmK_w19 : wordsTo cmK 4 19 = cmKW.take 23 := by rw [wordsTo, cmK_w18]; unfold wordB madeB; rw [subB_funC]; decide +kernel
theorem cmK_w20 : wordsTo cmK 4 20 = cmKW.take 24 := by rw [wordsTo, cmK_w19]; unfold wordB madeB; rw [subB_funC]; decide +kernel
theorem cmK_w21 : wordsTo cmK 4 21 = cmKW.take 25 := by rw [wordsTo, cmK_w20]; unfold wordB madeB; rw [subB_funC]; decide +kernel
theorem cmK_w22 : wordsTo cmK 4 22 = cmKW.take 26 := by rw [wordsTo, cmK_w21]; unfold wordB madeB; rw [subB_funC]; decide +kernel
theorem cmK_w23 : wordsTo cmK 4 23 = cmKW.take 27 := by rw [wordsTo, cmK_w22]; unfold wordB madeB; rw [subB_funC]; decide +kernel
theorem cmK_w24 : wordsTo cmK 4 24 = cmKW.take 28 := by rw [wordsTo, cmK_w23]; unfold wordB madeB; rw [subB_funC]; decide +kernel
theorem cmK_w25 : wordsTo cmK 4 25 = cmKW.take 29 := by rw [wordsTo, cmK_w24]; unfold wordB madeB; rw [subB_funC]; decide +kernel
theorem cmK_w26 : wordsTo cmK 4 26 = cmKW.take 30 := by rw [wordsTo, cmK_w25]; unfold wordB madeB; rw [subB_funC]; decide +kernel
theorem cmK_w27 : wordsTo cmK 4 27 = cmKW.take 31 := by rw [wordsTo, cmK_w26]; unfold wordB madeB; rw [subB_funC]; decide +kernel
theorem cmK_w28 : wordsTo cmK 4 28 = cmKW.take 32 := by rw [wordsTo, cmK_w27]; unfold wordB madeB; rw [subB_funC]; decide +kernel
theorem cmK_w29 : wordsTo cmK 4 29 = cmKW.take 33 := by rw [wordsTo, cmK_w28]; unfold wordB madeB; rw [subB_funC]; decide +kernel
theorem cmK_w30 : wordsTo cmK 4 30 = cmKW.take 34 := by rw [wordsTo, cmK_w29]; unfold wordB madeB; rw [subB_funC]; decide +kernel
theorem cmK_w31 : wordsTo cmK 4 31 = cmKW.take 35 := by rw [wordsTo, cmK_w30]; unfold wordB madeB; rw [subB_funC]; decide +kernel
theorem cmK_w32 : wordsTo cmK 4 32 = cmKW.take 36 := by rw [wordsTo, cmK_w31]; unfold wordB madeB; rw [subB_funC]; decide +kernel
theorem cmK_w33 : wordsTo cmK 4 33 = cmKW.take 37 := by rw [wordsTo, cmK_w32]; unfold wordB madeB; rw [subB_funC]; decide +kernel
theorem cmK_w34 : wordsTo cmK 4 34 = cmKW.take 38 := by rw [wordsTo, cmK_w33]; unfold wordB madeB; rw [subB_funC]; decide +kernel
theorem cmK_w35 : wordsTo cmK 4 35 = cmKW.take 39 := by rw [wordsTo, cmK_w34]; unfold wordB madeB; rw [subB_funC]; decide +kernel
theorem cmK_w36 : wordsTo cmK 4 36 = cmKW.take 40 := by rw [wordsTo, cmK_w35]; unfold wordB madeB; rw [subB_funC]; decide +kernel
theorem cmK_w37 : wordsTo cmK 4 37 = cmKW.take 41 := by rw [wordsTo, cmK_w36]; unfold wordB madeB; rw [subB_funC]; decide +kernel
theorem cmK_w38 : wordsTo cmK 4 38 = cmKW.take 42 := by rw [wordsTo, cmK_w37]; unfold wordB madeB; rw [subB_funC]; decide +kernel
theorem cmK_w39 : wordsTo cmK 4 39 = cmKW.take 43 := by rw [wordsTo, cmK_w38]; unfold wordB madeB; rw [subB_funC]; decide +kernel
theorem cmK_w40 : wordsTo cmK 4 40 = cmKW.take 44 := by rw [wordsTo, cmK_w39]; unfold wordB madeB; rw [subB_funC]; decide +kernel
theorem cmK_keys : roundKeys cmK = [[43#8, 126#8, 21#8, 22#8, 40#8, 174#8, 210#8, 166#8, 171#8, 247#8, 21#8, 136#8, 9#8, 207#8, 79#8, 60#8], [160#8, 250#8, 254#8, 23#8, 136#8, 84#8, 44#8, 177#8, 35#8, 163#8, 57#8, 57#8, 42#8, 108#8, 118#8, 5#8], [242#8, 194#8, 149#8, 242#8, 122#8, 150#8, 185#8, 67#8, 89#8, 53#8, 128#8, 122#8, 115#8, 89#8, 246#8, 127#8], [61#8, 128#8, 71#8, 125#8, 71#8, 22#8, 254#8, 62#8, 30#8, 35#8, 126#8, 68#8, 109#8, 122#8, 136#8, 59#8], [239#8, 68#8, 165#8, 65#8, 168#8, 82#8, 91#8, 127#8, 182#8, 113#8, 37#8, 59#8, 219#8, 11#8, 173#8, 0#8], [212#8, 209#8, 198#8, 248#8, 124#8, 131#8, 157#8, 135#8, 202#8, 242#8, 184#8, 188#8, 17#8, 249#8, 21#8, 188#8], [109#8, 136#8, 163#8, 122#8, 17#8, 11#8, 62#8, 253#8, 219#8, 249#8, 134#8, 65#8, 202#8, 0#8, 147#8, 253#8], [78#8, 84#8, 247#8, 14#8, 95#8, 95#8, 201#8, 243#8, 132#8, 166#8, 79#8, 178#8, 78#8, 166#8, 220#8, 79#8], [234#8, 210#8, 115#8, 33#8, 181#8, 141#8, 186#8, 210#8, 49#8, 43#8, 245#8, 96#8, 127#8, 141#8, 41#8, 47#8], [172#8, 119#8, 102#8, 243#8, 25#8, 250#8, 220#8, 33#8, 40#8, 209#8, 41#8, 65#8, 87#8, 92#8, 0#8, 110#8], [208#8, 20#8, 249#8, 168#8, 201#8, 238#8, 37#8, 137#8, 225#8, 63#8, 12#8, 200#8, 182#8, 99#8, 12#8, 166#8]] := by
  unfold roundKeys allB; rw [show cmK.length / 4 = 4 from rfl, show 4 * (roundsN cmK.length + 1) - 4 = 40 from by decide +kernel, cmK_w40]; decide +kernel
def cmKs : List (List B) := [[43#8, 126#8, 21#8, 22#8, 40#8, 174#8, 210#8, 166#8, 171#8, 247#8, 21#8, 136#8, 9#8, 207#8, 79#8, 60#8], [160#8, 250#8, 254#8, 23#8, 136#8, 84#8, 44#8, 177#8, 35#8, 163#8, 57#8, 57#8, 42#8, 108#8, 118#8, 5#8], [242#8, 194#8, 149#8, 242#8, 122#8, 150#8, 185#8, 67#8, 89#8, 53#8, 128#8, 122#8, 115#8, 89#8, 246#8, 127#8], [61#8, 128#8, 71#8, 125#8, 71#8, 22#8, 254#8, 62#8, 30#8, 35#8, 126#8, 68#8, 109#8, 122#8, 136#8, 59#8], [239#8, 68#8, 165#8, 65#8, 168#8, 82#8, 91#8, 127#8, 182#8, 113#8, 37#8, 59#8, 219#8, 11#8, 173#8, 0#8], [212#8, 209#8, 198#8, 248#8, 124#8, 131#8, 157#8, 135#8, 202#8, 242#8, 184#8, 188#8, 17#8, 249#8, 21#8, 188#8], [109#8, 136#8, 163#8, 122#8, 17#8, 11#8, 62#8, 253#8, 219#8, 249#8, 134#8, 65#8, 202#8, 0#8, 147#8, 253#8], [78#8, 84#8, 247#8, 14#8, 95#8, 95#8, 201#8, 243#8, 132#8, 166#8, 79#8, 178#8, 78#8, 166#8, 220#8, 79#8], [234#8, 210#8, 115#8, 33#8, 181#8, 141#8, 186#8, 210#8, 49#8, 43#8, 245#8, 96#8, 127#8, 141#8, 41#8, 47#8], [172#8, 119#8, 102#8, 243#8, 25#8, 250#8, 220#8, 33#8, 40#8, 209#8, 41#8, 65#8, 87#8, 92#8, 0#8, 110#8], [208#8, 20#8, 249#8, 168#8, 201#8, 238#8, 37#8, 137#8, 225#8, 63#8, 12#8, 200#8, 182#8, 99#8, 12#8, 166#8]]
def cm0P : List B := [0#8, 0#8, 0#8, 0#8, 0#8, 0#8, 0#8, 0#8, 0#8, 0#8, 0#8, 0#8, 0#8, 0#8, 0#8, 0#8]
theorem cm0_0 : encTo cmKs cm0P 0 = [43#8, 126#8, 21#8, 22#8, 40#8, 174#8, 210#8, 166#8, 171#8, 247#8, 21#8, 136#8, 9#8, 207#8, 79#8, 60#8] := by decide +kernel
theorem cm0_1 : encTo cmKs cm0P 1 = [220#8, 216#8, 127#8, 111#8, 155#8, 96#8, 170#8, 143#8, 31#8, 1#8, 15#8, 4#8, 87#8, 144#8, 162#8, 211#8] := by rw [encTo, cm0_0, subB_funC]; decide +kernel
theorem cm0_2 : encTo cmKs cm0P 2 = [158#8, 3#8, 133#8, 9#8, 68#8, 156#8, 70#8, 114#8, 195#8, 43#8, 10#8, 117#8, 56#8, 221#8, 130#8, 160#8] := by rw [encTo, cm0_1, subB_funC]; decide +kernel
theorem cm0_3 : encTo cmKs cm0P 3 = [213#8, 101#8, 103#8, 2#8, 107#8, 192#8, 49#8, 243#8, 205#8, 118#8, 100#8, 224#8, 41#8, 248#8, 252#8, 50#8] := by rw [encTo, cm0_2, subB_funC]; decide +kernel
theorem cm0_4 : encTo cmKs cm0P 4 = [92#8, 206#8, 255#8, 251#8, 217#8, 225#8, 254#8, 152#8, 156#8, 215#8, 223#8, 57#8, 123#8, 135#8, 232#8, 167#8] := by rw [encTo, cm0_3, subB_funC]; decide +kernel
theorem cm0_5 : encTo cmKs cm0P 5 = [145#8, 149#8, 183#8, 248#8, 144#8, 19#8, 154#8, 83#8, 4#8, 126#8, 151#8, 72#8, 124#8, 17#8, 228#8, 203#8] := by rw [encTo, cm0_4, subB_funC]; decide +kernel
theorem cm0_6 : encTo cmKs cm0P 6 = [100#8, 111#8, 117#8, 41#8, 247#8, 108#8, 188#8, 69#8, 253#8, 25#8, 147#8, 166#8, 126#8, 197#8, 52#8, 251#8] := by rw [encTo, cm0_5, subB_funC]; decide +kernel
theorem cm0_7 : encTo cmKs cm0P 7 = [235#8, 199#8, 86#8, 89#8, 85#8, 9#8, 177#8, 214#8, 46#8, 119#8, 46#8, 169#8, 17#8, 149#8, 33#8, 196#8] := by rw [encTo, cm0_6, subB_funC]; decide +kernel
theorem cm0_8 : encTo cmKs cm0P 8 = [13#8, 118#8, 221#8, 9#8, 100#8, 87#8, 20#8, 72#8, 106#8, 112#8, 150#8, 95#8, 42#8, 8#8, 136#8, 1#8] := by rw [encTo, cm0_7, subB_funC]; decide +kernel
theorem cm0_9 : encTo cmKs cm0P 9 = [24#8, 193#8, 85#8, 162#8, 169#8, 77#8, 94#8, 115#8, 239#8, 185#8, 116#8, 18#8, 251#8, 19#8, 120#8, 29#8] := by rw [encTo, cm0_8, subB_funC]; decide +kernel
def cm0C : List B := [125#8, 247#8, 107#8, 12#8, 26#8, 184#8, 153#8, 179#8, 62#8, 66#8, 240#8, 71#8, 185#8, 27#8, 84#8, 111#8]
theorem cm0_known : encB (roundKeys cmK) 9 cm0P = cm0C := by
  rw [cmK_keys]; show encB cmKs 9 cm0P = _; rw [encB, cm0_9, subB_funC]; decide +kernel
def cm1P : List B := [119#8, 221#8, 172#8, 48#8, 106#8, 226#8, 102#8, 204#8, 249#8, 11#8, 193#8, 30#8, 228#8, 109#8, 81#8, 59#8]
theorem cm1_0 : encTo cmKs cm1P 0 = [92#8, 163#8, 185#8, 38#8, 66#8, 76#8, 180#8, 106#8, 82#8, 252#8, 212#8, 150#8, 237#8, 162#8, 30#8, 7#8] := by decide +kernel
theorem cm1_1 : encTo cmKs cm1P 1 = [194#8, 255#8, 89#8, 57#8, 158#8, 98#8, 86#8, 242#8, 57#8, 47#8, 169#8, 81#8, 131#8, 49#8, 131#8, 70#8] := by rw [encTo, cm1_0, subB_funC]; decide +kernel
theorem cm1_2 : encTo cmKs cm1P 2 = [212#8, 156#8, 73#8, 80#8, 173#8, 138#8, 82#8, 131#8, 109#8, 125#8, 88#8, 73#8, 234#8, 128#8, 29#8, 78#8] := by rw [encTo, cm1_1, subB_funC]; decide +kernel
theorem cm1_3 : encTo cmKs cm1P 3 = [106#8, 165#8, 212#8, 239#8, 155#8, 194#8, 50#8, 103#8, 253#8, 63#8, 214#8, 53#8, 58#8, 97#8, 156#8, 1#8] := by rw [encTo, cm1_2, subB_funC]; decide +kernel
theorem cm1_4 : encTo cmKs cm1P 4 = [14#8, 113#8, 241#8, 108#8, 30#8, 10#8, 231#8, 77#8, 249#8, 189#8, 154#8, 113#8, 127#8, 116#8, 204#8, 137#8] := by rw [encTo, cm1_3, subB_funC]; decide +kernel
theorem cm1_5 : encTo cmKs cm1P 5 = [47#8, 192#8, 147#8, 148#8, 13#8, 136#8, 243#8, 128#8, 12#8, 79#8, 212#8, 226#8, 103#8, 114#8, 169#8, 187#8] := by rw [encTo, cm1_4, subB_funC]; decide +kernel
theorem cm1_6 : encTo cmKs cm1P 6 = [178#8, 60#8, 199#8, 6#8, 194#8, 131#8, 182#8, 140#8, 237#8, 53#8, 215#8, 69#8, 155#8, 101#8, 5#8, 245#8] := by rw [encTo, cm1_5, subB_funC]; decide +kernel
theorem cm1_7 : encTo cmKs cm1P 7 = [231#8, 84#8, 1#8, 98#8, 176#8, 159#8, 29#8, 191#8, 91#8, 92#8, 108#8, 14#8, 96#8, 195#8, 13#8, 10#8] := by rw [encTo, cm1_6, subB_funC]; decide +kernel
theorem cm1_8 : encTo cmKs cm1P 8 = [152#8, 124#8, 53#8, 195#8, 195#8, 54#8, 71#8, 50#8, 69#8, 194#8, 2#8, 105#8, 171#8, 65#8, 108#8, 141#8] := by rw [encTo, cm1_7, subB_funC]; decide +kernel
theorem cm1_9 : encTo cmKs cm1P 9 = [5#8, 255#8, 44#8, 241#8, 84#8, 64#8, 5#8, 122#8, 223#8, 32#8, 150#8, 160#8, 250#8, 28#8, 57#8, 145#8] := by rw [encTo, cm1_8, subB_funC]; decide +kernel
def cm1C : List B := [187#8, 29#8, 105#8, 41#8, 233#8, 89#8, 55#8, 40#8, 127#8, 163#8, 125#8, 18#8, 155#8, 117#8, 103#8, 70#8]
theorem cm1_known : encB (roundKeys cmK) 9 cm1P = cm1C := by
  rw [cmK_keys]; show encB cmKs 9 cm1P = _; rw [encB, cm1_9, subB_funC]; decide +kernel
def cmD1 : List B := [251#8, 238#8, 214#8, 24#8, 53#8, 113#8, 51#8, 102#8, 124#8, 133#8, 224#8, 143#8, 114#8, 54#8, 168#8, 222#8]
def cmD2 : List B := [247#8, 221#8, 172#8, 48#8, 106#8, 226#8, 102#8, 204#8, 249#8, 11#8, 193#8, 30#8, 228#8, 109#8, 81#8, 59#8]
theorem cm_d1 : Aes.dblB cm0C = cmD1 := by decide +kernel
theorem cm_d2 : Aes.dblB cmD1 = cmD2 := by decide +kernel
theorem cm_mac : Aes.macB (encB (roundKeys cmK) 9) (Aes.dblB (encB (roundKeys cmK) 9 Aes.zB)) (Aes.dblB (Aes.dblB (encB (roundKeys cmK) 9 Aes.zB))) Aes.zB [] = cm1C := by
  rw [show Aes.zB = cm0P from rfl, cm0_known, cm_d1, cm_d2, Aes.macB_end _ _ _ _ _ (by decide), show Aes.zipX cm0P (Aes.lastX cmD1 cmD2 []) = cm1P by decide +kernel, cm1_known]
end Go.Proofs.Ytpdikfmdnlhllaa.AesMath
namespace Go.Proofs.Ytpdikfmdnlhllaa.Aes
open Go.RowKit Go.Proofs.Ytpdikfmdnlhllaa.PNib Go.Proofs.YtpdikfmdnlhllaaW.PrintWords Go.Proofs.YtpdikfmdnlhllaaW.PrintLast Go.Proofs.YtpdikfmdnlhllaaW.PrintMore Byte Sl Arr Mem Gives ArrEq Mat AesMath AesMov AesLin HandKit
set_option linter.unusedVariables false
set_option linter.unusedSimpArgs false
theorem row_range {w : World} {g n : Nat} {l : List Int} (h : Kd.C (Kd.int .u8) w (some ⟨g, 0, none⟩) n l) (hl : l.length = n) : w.rangeAt g 0 (l.map (Value.int .u8)) := by
  intro j v hv
  rw [List.getElem?_map] at hv
  obtain ⟨x, hx, rfl⟩ := Option.map_eq_some_iff.1 hv
  have hj : j < l.length := (List.getElem?_eq_some_iff.1 hx).1
  obtain ⟨ad, e, hc⟩ := Kd.at_int h (j : Int) (by omega) (by omega)
  obtain rfl := Option.some.inj e
  rw [Int.toNat_natCast] at hc
  have h2 : (⟨g, 0, none⟩ : Addr).add j = ⟨g, 0 + j, none⟩ := by rw [Nat.zero_add]; simp [Addr.add]; exact Eq.symm
  rw [h2] at hc
  rw [hc]
  show some (Value.int .u8 (l.getD (j : Int).toNat 0)) = _
  rw [Int.toNat_natCast, List.getD_eq_getElem?_getD, hx]
  rfl
set_option maxHeartbeats 4000000 in
set_option maxRecDepth 100000 in
theorem make1_c (b : List B) (hb : b.length = 16) (g bx : Nat) (ks : List (List B)) (n : Nat) (hks : ks.length = n + 2) (hk : ∀ r, r < n + 2 → (keyAt ks r).length = 16) (hn : n ≤ 100) (ga c : Nat) (w : World) (hC : Kd.C (Kd.int .u8) w (some ⟨ga, 0, none⟩) 16 (ib b)) (hX : Cph w g bx ks) : Calls Try.prog 80 #[.pointer (some ⟨g, 0, none⟩), .slice (some ⟨ga, 0, none⟩) 16 c] w fun e w' => ∃ N, e = .returned (.slice (some ⟨N, 0, none⟩) 16 16) ∧ w.heap.size ≤ N ∧ N ≠ bx ∧ Mem .u8 w' N 31 (ib (encB ks n b)) ∧ Cph w' g bx ks ∧ Ch bx w w' := by
  have CB := Aside0.mk (fun (W : World) (h : Cph W g bx ks) => block_c b hb g bx ks n hks hk hn W h)
  have HRA := Aside0.mk (row_range hC (by rw [ib_length, hb]))
  have LB := Aside0.mk (show (ib b).length = 16 by rw [ib_length, hb])
  have LE := Aside0.mk (show (ib (encB ks n b)).length = 16 by rw [ib_length]; exact encB_length _ _ _)
  have HX := Aside0.mk hX
  obtain ⟨eb, heb⟩ : ∃ z, z = encB ks n b := ⟨_, rfl⟩
  rw [← heb] at CB LE ⊢
  clear hks hk hn hC hX heb hb
  have hat := fun (W : World) => run_arrayAt (P := Try.prog) W 31 _ 16 (some ⟨ga, 0, none⟩) 16 c Try.underlying31 (Nat.le_refl _)
  go_enter Try.func80, Try.ntmps80
  go_wp2_with (first
    | ((with_reducible refine gate_dst (N := 9) rfl ?_); go_loud (refine wpList_load_mid rfl 31 (.tmp 8) rfl ga 0 rfl _ _ HRA.out Try.underlying31 rfl (by rw [List.length_map, LB.out]; exact info16) ?_))
    | (go_at_call 31; go_loud ((refine (CB.out _ HX.out).mono ?_); rintro e w1 ⟨rfl, hx1, hc1⟩; have HC := Aside0.mk hc1; have HX := Aside0.mk hx1.bound; have HXB1 := Aside0.mk (show bx < w1.heap.size from hx1.bound.2.2.2); have HW1 := Aside0.mk hc1.size; have Z4 := Aside0.mk (Mem.new .u8 w1 31 z16); clear hx1 hc1))
    | ((with_reducible refine gate_store (t := 31) (p := 5) rfl ?_); go_loud (refine Mem.store (l' := ib eb) Z4.out rfl 31 (.tmp 5) (.tmp 10) rfl rfl rfl (by rw [LE.out]; exact info16) (by rw [LE.out]; rfl) ?_)))
  have HX := Aside0.mk ((HX.out.below (below_alloc (Below.refl _ _) (.cells (cellsOf .u8 z16) 31))).row (b := w1.heap.size) (Nat.le_refl _) (cellsOf .u8 (ib eb)))
  have HC := Aside0.mk (Ch.row0 (Ch.step HC.out (below_alloc (Below.refl _ _) (.cells (cellsOf .u8 z16) 31))) (b := w1.heap.size) HW1.out (cellsOf .u8 (ib eb)))
  have M4 := Aside0.mk (Mem.put Z4.out (ib eb))
  have hne : w1.heap.size ≠ bx := by have := HXB1.out; omega
  go_ret
  exact ⟨w1.heap.size, rfl, HW1.out, hne, M4.out, HX.out.all, HC.out⟩
end Go.Proofs.Ytpdikfmdnlhllaa.Aes
namespace Go.Proofs.Ytpdikfmdnlhllaa.Aes
open Go.RowKit Go.Proofs.Ytpdikfmdnlhllaa.PNib Go.Proofs.YtpdikfmdnlhllaaW.PrintWords Go.Proofs.YtpdikfmdnlhllaaW.PrintLast Go.Proofs.YtpdikfmdnlhllaaW.PrintMore Byte Sl Arr Mem Gives ArrEq Mat AesMath AesMov AesLin HandKit
set_option linter.unusedVariables false
set_option linter.unusedSimpArgs false
theorem mem_row16 {w : World} {g : Nat} {t : TypeId} {l : List Int} (h : Mem .u8 w g t l) (hl : l.length = 16) : Kd.C (Kd.int .u8) w (some ⟨g, 0, none⟩) 16 l := by
  have hs : Sl .u8 w (.slice (some ⟨g, 0, none⟩) l.length 16) l := Sl.of_cells (k := .u8) (w := w) (ad := ⟨g, 0, none⟩) (c := 16) (l := l) (by omega) (by omega) (fun j y hj => by
    have hj' := (List.getElem?_eq_some_iff.1 hj).1
    rw [show (⟨g, 0, none⟩ : Addr).add j = ⟨g, j, none⟩ by simp [Addr.add]; intro h; exact h.symm]
    rw [h.cell j hj', List.getD_eq_getElem?_getD, hj]; rfl)
  obtain ⟨A, c, hv, hc, hC⟩ := hs
  injection hv with e1 e2 e3
  subst e1
  rw [hl] at hC
  exact hC
theorem ib_zB : ib zB = z16 := by decide
set_option maxHeartbeats 4000000 in
set_option maxRecDepth 100000 in
theorem masks_c (g bx : Nat) (ks : List (List B)) (n : Nat) (hks : ks.length = n + 2) (hk : ∀ r, r < n + 2 → (keyAt ks r).length = 16) (hn : n ≤ 100) (k : Nat) (d1 d2 : List Int) (h1 : octet_Double.f k (ib (encB ks n zB)) = some d1) (h2 : octet_Double.f k d1 = some d2) (hl1 : d1.length = 16) (w : World) (hX : Cph w g bx ks) : Calls Try.prog 38 #[.pointer (some ⟨g, 0, none⟩)] w fun e w' => ∃ v1 v2, e = .returned (.tuple #[v1, v2]) ∧ Kd.R (Kd.int .u8) 5 w' w.heap.size (fun _ => True) v1 d1 ∧ Kd.R (Kd.int .u8) 5 w' w.heap.size (fun _ => True) v2 d2 ∧ Cph w' g bx ks ∧ Ch bx w w' := by
  have CM := Aside0.mk (fun (ga c : Nat) (W : World) (h : Kd.C (Kd.int .u8) W (some ⟨ga, 0, none⟩) 16 (ib zB)) (hX : Cph W g bx ks) => make1_c zB rfl g bx ks n hks hk hn ga c W h hX)
  obtain ⟨e0, he0⟩ : ∃ z, z = encB ks n zB := ⟨_, rfl⟩
  have l0 : (ib e0).length = 16 := by rw [ib_length, he0]; exact encB_length _ _ _
  rw [← he0] at CM h1
  have CD1 := Aside0.mk (fun (A : Option Addr) (W : World) (h : Kd.C (Kd.int .u8) W A 16 (ib e0)) => by have := octet_Double.calls k A 16 (ib e0) d1 W (by rw [l0]; exact h) (by rw [l0]; exact Nat.le_refl _) h1; rwa [l0] at this)
  have CD2 := Aside0.mk (fun (A : Option Addr) (c : Nat) (W : World) (h : Kd.C (Kd.int .u8) W A 16 d1) (hc : 16 ≤ c) => by have := octet_Double.calls k A c d1 d2 W (by rw [hl1]; exact h) (by rw [hl1]; exact hc) h2; rwa [hl1] at this)
  have L0 := Aside0.mk l0
  have L1 := Aside0.mk hl1
  have HX := Aside0.mk hX
  have HXB := Aside0.mk (show bx < w.heap.size from hX.bound.2.2.2)
  have M0 := Aside0.mk (Mem.new .u8 w 5 z16)
  have HX := Aside0.mk (hX.bound.below (below_alloc (Below.refl _ _) (.cells (cellsOf .u8 z16) 5))).all
  have HC := Aside0.mk (Ch.of_below (g := bx) (below_alloc (Below.refl w.heap.size w) (.cells (cellsOf .u8 z16) 5)))
  have C0 := Aside0.mk (show Kd.C (Kd.int .u8) _ (some ⟨w.heap.size, 0, none⟩) 16 (ib zB) by rw [ib_zB]; exact mem_row16 M0.out rfl)
  have hmk : ∀ W : World, (Instr.makeSlice 22 (.int .i64 16) (.int .i64 16)).run Try.prog W = .ok (.slice (some ⟨W.heap.size, 0, none⟩) 16 16) (W.alloc (.cells (cellsOf .u8 z16) 5)) := fun W => by
    have h := print_make (P := Try.prog) 22 5 .u8 1 Try.underlying22 info_u8 (by decide) 16 (by decide) W
    rw [show madeCells #[Value.int .u8 0] 16 = cellsOf .u8 z16 by kernel_rfl] at h
    exact h
  clear hks hk hn hX h1 h2 he0 l0 hl1
  go_enter Try.func38, Try.ntmps38
  go_wp2_with (first
    | (go_at_call 80; go_loud ((refine (CM.out _ _ _ C0.out HX.out).mono ?_); rintro e w1 ⟨N, rfl, hN, hne, hM, hx, hc⟩; have M1 := Aside0.mk hM; have HX := Aside0.mk hx; have HC := Aside0.mk (HC.out.trans hc); clear hM hx hc))
    | (go_at_call 79; go_loud (first | ((refine (CD1.out _ _ (mem_row16 M1.out L0.out)).mono ?_); rintro e w2 ⟨v1, rfl, hv, hb⟩; have HR1 := Aside0.mk (Kd.R_lower hv HC.out.size); have HX := Aside0.mk (HX.out.bound.below hb).all; have HC := Aside0.mk (Ch.step HC.out hb); obtain ⟨A1, c1, rfl, hl, hR⟩ := Kd.R_reads hv; have HC1 := Aside0.mk hR; have HL1 := Aside0.mk hl; rw [L1.out] at HR1 HC1 HL1 ⊢; clear hv hb hl hR M1) | ((refine (CD2.out _ _ _ HC1.out HL1.out).mono ?_); rintro e w3 ⟨v2, rfl, hv, hb⟩; have HR2 := Aside0.mk (Kd.R_lower hv HC.out.size); have HR1 := Aside0.mk (Kd.R_below HR1.out hb); have HX := Aside0.mk (HX.out.bound.below hb).all; have HC := Aside0.mk (Ch.step HC.out hb); clear hv hb))))
  go_ret2
  exact ⟨_, _, rfl, HR1.out, HR2.out, HX.out, HC.out⟩
end Go.Proofs.Ytpdikfmdnlhllaa.Aes
namespace Go.Proofs.Ytpdikfmdnlhllaa.Aes
open Go.RowKit Go.Proofs.Ytpdikfmdnlhllaa.PNib Go.Proofs.YtpdikfmdnlhllaaW.PrintWords Go.Proofs.YtpdikfmdnlhllaaW.PrintLast Go.Proofs.YtpdikfmdnlhllaaW.PrintMore Byte Sl Arr Mem Gives ArrEq Mat AesMath AesMov AesLin HandKit
set_option linter.unusedVariables false
set_option linter.unusedSimpArgs false
/-- A row that a cipher at its work does not touch. -/
abbrev Off (w : World) (bx : Nat) (A : Option Addr) (l : List Int) : Prop := Kd.F (Kd.int .u8) w (fun k => k ≠ bx) A l.length l
theorem Off.ch {w w' : World} {bx : Nat} {A : Option Addr} {l : List Int} (h : Off w bx A l) (hc : Ch bx w w') : Off w' bx A l := Kd.F_grown h hc (fun k hk e => hk (Option.some.inj e))
set_option maxHeartbeats 4000000 in
set_option maxRecDepth 100000 in
theorem last_whole (g bx : Nat) (ks : List (List B)) (n : Nat) (hks : ks.length = n + 2) (hk : ∀ r, r < n + 2 → (keyAt ks r).length = 16) (hn : n ≤ 100) (k : Nat) (d1 d2 : List Int) (h1 : octet_Double.f k (ib (encB ks n zB)) = some d1) (h2 : octet_Double.f k d1 = some d2) (hl1 : d1.length = 16) (A : Option Addr) (c : Nat) (m : List Int) (hm : m.length = 16) (hc : m.length ≤ c) (w : World) (hF : Off w bx A m) (hX : Cph w g bx ks) : Calls Try.prog 82 #[.pointer (some ⟨g, 0, none⟩), .slice A 16 c] w fun e w' => ∃ v, e = .returned v ∧ Kd.R (Kd.int .u8) 5 w' w.heap.size (fun _ => True) v (Octet.xorL m d1) ∧ Cph w' g bx ks ∧ Ch bx w w' := by
  have CM := Aside0.mk (fun (W : World) (h : Cph W g bx ks) => masks_c g bx ks n hks hk hn k d1 d2 h1 h2 hl1 W h)
  have CX := Aside0.mk (fun (A1 : Option Addr) (c1 : Nat) (W : World) (h : Off W bx A m) (hC1 : Kd.C (Kd.int .u8) W A1 d1.length d1) (hc1 : d1.length ≤ c1) => by have := Octet.octet_Xor.calls A c m A1 c1 d1 (Octet.xorL m d1) W (Kd.F_now h) hc hC1 hc1 (by unfold Octet.octet_Xor.f; rw [if_pos (by rw [hm, hl1]; decide)]); rwa [hm] at this)
  have HF := Aside0.mk hF
  have HX := Aside0.mk hX
  clear hks hk hn h1 h2 hl1 hc hF hX hm
  go_enter Try.func82, Try.ntmps82
  go_wp2_with (first
    | (go_at_call 38; go_loud ((refine (CM.out _ HX.out).mono ?_); rintro e w1 ⟨v1, v2, rfl, hR1, hR2, hx, hch⟩; obtain ⟨A1, c1, rfl, hl, hR⟩ := Kd.R_reads hR1; have HC1 := Aside0.mk hR; have HL1 := Aside0.mk hl; have HX := Aside0.mk hx; have HC := Aside0.mk hch; have HF := Aside0.mk (HF.out.ch hch); clear hR1 hR2 hx hch hl hR))
    | (go_at_call 81; go_loud ((refine (CX.out _ _ _ HF.out HC1.out HL1.out).mono ?_); rintro e w2 ⟨v, rfl, hv, hb⟩; have HR := Aside0.mk (Kd.R_lower hv HC.out.size); have HX := Aside0.mk (HX.out.bound.below hb).all; have HC := Aside0.mk (Ch.step HC.out hb); clear hv hb)))
  go_ret
  exact ⟨_, rfl, HR.out, HX.out, HC.out⟩
end Go.Proofs.Ytpdikfmdnlhllaa.Aes
namespace Go.Proofs.Ytpdikfmdnlhllaa.Aes
open Go.RowKit Go.Proofs.Ytpdikfmdnlhllaa.PNib Go.Proofs.YtpdikfmdnlhllaaW.PrintWords Go.Proofs.YtpdikfmdnlhllaaW.PrintLast Go.Proofs.YtpdikfmdnlhllaaW.PrintMore Byte Sl Arr Mem Gives ArrEq Mat AesMath AesMov AesLin HandKit Copy
set_option linter.unusedVariables false
set_option linter.unusedSimpArgs false
set_option maxHeartbeats 4000000 in
set_option maxRecDepth 100000 in
theorem last_part (g bx : Nat) (ks : List (List B)) (n : Nat) (hks : ks.length = n + 2) (hk : ∀ r, r < n + 2 → (keyAt ks r).length = 16) (hn : n ≤ 100) (k : Nat) (d1 d2 : List Int) (h1 : octet_Double.f k (ib (encB ks n zB)) = some d1) (h2 : octet_Double.f k d1 = some d2) (hl1 : d1.length = 16) (hl2 : d2.length = 16) (A : Option Addr) (c : Nat) (m : List Int) (hm : m.length < 16) (hc : m.length ≤ c) (w : World) (hF : Off w bx A m) (hX : Cph w g bx ks) : Calls Try.prog 82 #[.pointer (some ⟨g, 0, none⟩), .slice A m.length c] w fun e w' => ∃ v, e = .returned v ∧ Kd.R (Kd.int .u8) 5 w' w.heap.size (fun _ => True) v (Octet.xorL ((over (List.replicate 16 0) m).set m.length 128) d2) ∧ Cph w' g bx ks ∧ Ch bx w w' := by
  have CM := Aside0.mk (fun (W : World) (h : Cph W g bx ks) => masks_c g bx ks n hks hk hn k d1 d2 h1 h2 hl1 W h)
  obtain ⟨N, hN⟩ : ∃ z, z = m.length := ⟨_, rfl⟩
  obtain ⟨ov, hov⟩ : ∃ z, z = over (List.replicate 16 0) m := ⟨_, rfl⟩
  have HOV := Aside0.mk hov.symm
  have hlo : ov.length = 16 := by rw [hov]; unfold over splice; simp; omega
  have CX := Aside0.mk (fun (A1 A2 : Option Addr) (c1 c2 : Nat) (W : World) (hC1 : Kd.C (Kd.int .u8) W A1 (ov.set N 128).length (ov.set N 128)) (hc1 : (ov.set N 128).length ≤ c1) (hC2 : Kd.C (Kd.int .u8) W A2 d2.length d2) (hc2 : d2.length ≤ c2) => by have := Octet.octet_Xor.calls A1 c1 (ov.set N 128) A2 c2 d2 (Octet.xorL (ov.set N 128) d2) W hC1 hc1 hC2 hc2 (by unfold Octet.octet_Xor.f; rw [if_pos (by rw [List.length_set, hlo, hl2]; decide)]); rwa [List.length_set, hlo, hl2] at this)
  have HF := Aside0.mk hF
  have HX := Aside0.mk hX
  have HL2 := Aside0.mk hl2
  have HLO := Aside0.mk hlo
  have HN := Aside0.mk hN
  rw [← hov, ← hN]
  have hN16 : N < 16 := by omega
  have h0 : (0 : Int) ≤ (N : Int) := Int.natCast_nonneg _
  have h16 : (N : Int) < 16 := by omega
  have hne : ((N : Int) == 16) = false := by rw [beq_eq_false_iff_ne]; omega
  have hne2 : ((N : Int) = 16) = False := by apply eq_false; omega
  have hne3 : (N = 16) = False := by apply eq_false; omega
  clear hks hk hn h1 h2 hl1 hl2 hc hF hX hm hov hlo hN
  go_enter Try.func82, Try.ntmps82
  go_upto_region 6 with (first
    | (go_at_call 38; go_loud ((refine (CM.out _ HX.out).mono ?_); rintro e w1 ⟨v1, v2, rfl, hR1, hR2, hx, hch⟩; obtain ⟨A2, c2, rfl, hl, hR⟩ := Kd.R_reads hR2; have HC2 := Aside0.mk hR; have HLc := Aside0.mk hl; have HX := Aside0.mk hx.bound; have HC := Aside0.mk hch; have HF := Aside0.mk (HF.out.ch hch); have HB := Aside0.mk (Below.refl w1.heap.size w1); clear hR1 hR2 hx hch hl hR))
    | ((with_reducible refine gate_dst (N := 19) rfl ?_); go_loud (refine Kd.R_make (Kd.int .u8) _ 5 rfl (N := 19) rfl 22 _ _ rfl 16 rfl rfl Try.underlying22 (.int .u8 0) 1 info_u8 rfl (by decide) (by decide) 0 (ok := fun _ => True) (okp := fun _ => True) rfl (fun _ hk => hk) trivial (by decide) (by decide) (Below.refl _ _) (Nat.le_refl _) ?_; intro v w3 ho hb hg_ hnew_; clear hg_ hnew_; obtain ⟨Av, cv, rfl, hcv, hrd⟩ := Kd.R_reads ho; clear hrd hcv; have HO := Aside0.mk ho; have HB := Aside0.mk hb; clear hb ho))
    | ((with_reducible refine gate_builtin (b := .copy) (xs := #[.tmp 20, .tmp 21]) rfl ?_); go_loud (refine R_copy (k := .u8) (w0 := w1) rfl (.tmp 20) (.tmp 21) 22 22 rfl 5 Try.underlying22 size_u8 (by rfl) (by rfl) HO.out (show Kd.C (Kd.int .u8) _ A N m by rw [HN.out]; exact Kd.F_now (Kd.F_below HF.out HB.out)) HB.out ?_; intro w4 ho hb; have HB := Aside0.mk hb; have HO := Aside0.mk ho; clear hb ho)))
  have hO := show Kd.R (Kd.int .u8) 5 w4 w1.heap.size (fun _ => True) (.slice Av 16 cv) ov from by rw [← HOV.out]; exact HO.out
  obtain ⟨gv, cap, hv2, hbg, hlt, -⟩ := Kd.R_form hO (by rw [HLO.out]; decide)
  rw [HLO.out] at hv2
  injection hv2 with q1 q2 q3
  subst q1
  subst q3
  have HGV := Aside0.mk hbg
  have HCP := Aside0.mk (Kd.R_reads' hO).2.1
  obtain ⟨hx0, hf⟩ := Kd.R_celln (0 : Int) hO (N : Int) h0 h16
  rw [Int.toNat_natCast] at hx0 hf
  have hxx := show _ = some (Value.int .u8 (ov.getD (N : Int).toNat 0)) from hx0
  rw [Int.toNat_natCast] at hxx
  have h3 := (Kd.R_putg hO (N : Int) 128).1
  rw [Int.toNat_natCast] at h3
  have HO2 := Aside0.mk (show Kd.R (Kd.int .u8) 5 _ _ _ _ _ from h3)
  clear h3 hx0 hbg hlt hO q2 HO
  go_upto_region 7 with (fail)
  have HB := Aside0.mk (below_set (j := N) (v := Value.int .u8 128) HB.out HGV.out)
  clear hxx hf
  generalize hwx : World.setCell w4 _ _ = wx at *
  clear hwx
  have HX := Aside0.mk (HX.out.below HB.out).all
  have HC := Aside0.mk (Ch.step HC.out HB.out)
  have HC2 := Aside0.mk (Kd.C_below HC2.out HB.out)
  obtain ⟨hn_, hcp_, hcc_⟩ := Kd.R_reads' HO2.out
  have HC1 := Aside0.mk hcc_
  have HL1 := Aside0.mk (show (ov.set N 128).length ≤ cv by rw [← hn_]; exact hcp_)
  have HCX := Aside0.mk (CX.out (some ⟨gv, 0, none⟩) A2 cv c2 wx HC1.out HL1.out HC2.out HLc.out)
  clear hn_ hcp_ hcc_ CX CM
  rw [HL2.out]
  go_wp2_with (first
    | (go_at_call 81; go_loud ((refine (HCX.out).mono ?_); rintro e w6 ⟨v, rfl, hv, hb⟩; have HR := Aside0.mk (Kd.R_lower hv HC.out.size); have HX := Aside0.mk (HX.out.bound.below hb).all; have HC := Aside0.mk (Ch.step HC.out hb); clear hv hb)))
  go_ret
  exact ⟨_, rfl, HR.out, HX.out, HC.out⟩
end Go.Proofs.Ytpdikfmdnlhllaa.Aes
namespace Go.Proofs.Ytpdikfmdnlhllaa.Aes
open Go.RowKit Go.Proofs.Ytpdikfmdnlhllaa.PNib Go.Proofs.YtpdikfmdnlhllaaW.PrintWords Go.Proofs.YtpdikfmdnlhllaaW.PrintLast Go.Proofs.YtpdikfmdnlhllaaW.PrintMore Byte Sl Arr Mem Gives ArrEq Mat AesMath AesMov AesLin HandKit Copy
set_option linter.unusedVariables false
set_option linter.unusedSimpArgs false
/-- Round keys that may be. -/
structure KN (ks : List (List B)) (n : Nat) : Prop where
  len : ks.length = n + 2
  each : ∀ r, r < n + 2 → (keyAt ks r).length = 16
  few : n ≤ 100
abbrev mA (ks : List (List B)) (n : Nat) : List B := dblB (encB ks n zB)
abbrev mB (ks : List (List B)) (n : Nat) : List B := dblB (mA ks n)
theorem dbl_one (b : List B) (hb : b.length = 16) : octet_Double.f 17 (ib b) = some (ib (dblB b)) := by
  rw [CmEval.Double_eq _ (bytes_ib b) 17 (Nat.le_refl _), if_pos (by rw [ib_length, hb]), ib_dblB]
theorem KN.d1 {ks : List (List B)} {n : Nat} : octet_Double.f 17 (ib (encB ks n zB)) = some (ib (mA ks n)) := dbl_one _ (encB_length _ _ _)
theorem KN.d2 {ks : List (List B)} {n : Nat} : octet_Double.f 17 (ib (mA ks n)) = some (ib (mB ks n)) := dbl_one _ (dblB_length _)
theorem pad_over (m : List B) (h : m.length < 16) : (over (List.replicate 16 0) (ib m)).set (ib m).length 128 = ib (padB m) := by
  have e : over (List.replicate 16 0) (ib m) = ib m ++ List.replicate (16 - m.length) 0 := by
    unfold over splice
    rw [List.take_zero, List.nil_append, Nat.zero_add, List.length_replicate, List.take_of_length_le (by rw [ib_length]; omega), List.drop_replicate, ib_length]
  rw [e, List.set_append_right _ _ (Nat.le_refl _), Nat.sub_self, show 16 - m.length = (15 - m.length) + 1 by omega, List.replicate_succ, List.set_cons_zero]
  unfold padB
  rw [ib_append, ib_cons, ib_zeros]
  rfl
theorem Off.len {w : World} {bx : Nat} {A : Option Addr} {l : List Int} {n : Nat} (h : Off w bx A l) (hn : l.length = n) : Kd.C (Kd.int .u8) w A n l := by subst hn; exact Kd.F_now h
theorem Off.below {w w' : World} {bx : Nat} {A : Option Addr} {l : List Int} (h : Off w bx A l) (hb : Below w.heap.size w w') : Off w' bx A l := Kd.F_below h hb
theorem Off.of_mem {w : World} {bx N : Nat} {t : TypeId} {l : List Int} (h : Mem .u8 w N t l) (hl : l.length = 16) (hne : N ≠ bx) : Off w bx (some ⟨N, 0, none⟩) l := by
  have hlt : N < w.heap.size := (Array.getElem?_eq_some_iff.1 h).1
  intro W' hW
  have := mem_row16 (show Mem .u8 W' N t l from (hW N hne hlt).trans h) hl
  rwa [← hl] at this
theorem Off.of_R {w : World} {base bx : Nat} {e : TypeId} {ok : Nat → Prop} {A : Option Addr} {n c : Nat} {l : List Int} (h : Kd.R (Kd.int .u8) e w base ok (.slice A n c) l) (hb : bx < base) : Off w bx A l := by
  have h1 := Kd.F_mono (ok' := fun k => k ≠ bx) (Kd.R_F (Kd.R_bound h)) (fun k hk => by have := hk.2.1; omega)
  have h2 := (Kd.R_reads' h).1
  subst h2
  exact h1
theorem Off.take {w : World} {bx : Nat} {A : Option Addr} {l : List Int} (h : Off w bx A l) (m : Nat) (hm : m ≤ l.length) : Off w bx A (l.take m) := Kd.F_take h hm
theorem Off.cut {w : World} {bx : Nat} {ad : Addr} {l : List Int} {c : Nat} (h : Off w bx (some ad) l) (m : Nat) (hm : m < l.length) (hc : l.length ≤ c) : Off w bx (some (ad.add m)) (l.drop m) := by
  have := Kd.F_cut h (Nat.le_of_lt hm) hc
  rw [if_neg (by omega)] at this
  rwa [show (Kd.int .u8).sz = 1 from rfl, Nat.mul_one] at this
set_option maxHeartbeats 4000000 in
set_option maxRecDepth 100000 in
theorem last_c (g bx : Nat) (ks : List (List B)) (n : Nat) (K : KN ks n) (A : Option Addr) (c : Nat) (m : List B) (hm : m.length ≤ 16) (hc : m.length ≤ c) (w : World) (hF : Off w bx A (ib m)) (hX : Cph w g bx ks) : Calls Try.prog 82 #[.pointer (some ⟨g, 0, none⟩), .slice A m.length c] w fun e w' => ∃ v, e = .returned v ∧ Kd.R (Kd.int .u8) 5 w' w.heap.size (fun _ => True) v (ib (lastX (mA ks n) (mB ks n) m)) ∧ Cph w' g bx ks ∧ Ch bx w w' := by
  have l1 : (ib (mA ks n)).length = 16 := by rw [ib_length, dblB_length]
  have l2 : (ib (mB ks n)).length = 16 := by rw [ib_length, dblB_length]
  by_cases h : m.length = 16
  · have hm16 : (ib m).length = 16 := by rw [ib_length, h]
    have := last_whole g bx ks n K.len K.each K.few 17 (ib (mA ks n)) (ib (mB ks n)) KN.d1 KN.d2 l1 A c (ib m) hm16 (by rw [ib_length]; exact hc) w hF hX
    rw [h, lastX, if_pos h, ← zipX_ib]
    exact this
  · have hm16 : (ib m).length < 16 := by rw [ib_length]; omega
    have := last_part g bx ks n K.len K.each K.few 17 (ib (mA ks n)) (ib (mB ks n)) KN.d1 KN.d2 l1 l2 A c (ib m) hm16 (by rw [ib_length]; exact hc) w hF hX
    rw [pad_over m (by omega), ib_length] at this
    rw [lastX, if_neg h, ← zipX_ib]
    exact this
theorem xor_b (A1 A2 : Option Addr) (c1 c2 : Nat) (x y : List B) (hx : x.length = 16) (hc1 : 16 ≤ c1) (hy : y.length = 16) (hc2 : 16 ≤ c2) (W : World) (h1 : Kd.C (Kd.int .u8) W A1 16 (ib x)) (h2 : Kd.C (Kd.int .u8) W A2 16 (ib y)) : Calls Try.prog 81 #[.slice A1 16 c1, .slice A2 16 c2] W fun e w' => ∃ g c, e = .returned (.slice (some ⟨g, 0, none⟩) 16 c) ∧ 16 ≤ c ∧ Kd.C (Kd.int .u8) w' (some ⟨g, 0, none⟩) 16 (ib (zipX x y)) ∧ Below W.heap.size W w' := by
  have := Octet.octet_Xor.calls A1 c1 (ib x) A2 c2 (ib y) (ib (zipX x y)) W (by rw [ib_length, hx]; exact h1) (by rw [ib_length, hx]; exact hc1) (by rw [ib_length, hy]; exact h2) (by rw [ib_length, hy]; exact hc2) (by unfold Octet.octet_Xor.f Octet.xorL; rw [zipX_ib, if_pos (by rw [ib_length, ib_length, hx, hy]; decide)])
  rw [ib_length, ib_length, hx, hy] at this
  refine this.mono ?_
  rintro e w' ⟨v, rfl, hv, hb⟩
  have hl : (ib (zipX x y)).length = 16 := by rw [ib_length, zipX_16 hx hy]
  obtain ⟨gv, cap, rfl, _, _, _⟩ := Kd.R_form hv (by rw [hl]; decide)
  obtain ⟨_, hcp, hC⟩ := Kd.R_reads' hv
  rw [hl] at hC hcp ⊢
  exact ⟨gv, cap, rfl, hcp, hC, hb⟩
/-- Numbers of one round: k1 + 1 rounds are left. -/
theorem sumN (k1 L c : Nat) (h1 : L ≤ 16 * (k1 + 1 + 1)) (h2 : 0 < k1 + 1 → 16 * (k1 + 1) < L) (hc : L ≤ c) (hb : L ≤ 140737488351232) : (16 : Int) < (L : Int) ∧ (0 : Int) ≤ (L : Int) ∧ (L : Int) ≤ (c : Int) ∧ (16 : Int) ≤ (c : Int) ∧ (16 : Int) ≤ (L : Int) ∧ L - 16 ≤ 16 * (k1 + 1) ∧ (0 < k1 → 16 * k1 < L - 16) ∧ 16 < L ∧ 16 ≤ c ∧ L - 16 ≤ c - 16 ∧ (c = 16) = False ∧ L - 16 ≤ 140737488351232 := by
  refine ⟨by omega, by omega, by omega, by omega, by omega, by omega, fun h => by omega, by omega, by omega, by omega, ?_, by omega⟩
  apply eq_false; omega
theorem sumZ (L : Nat) (h : L ≤ 16 * (0 + 1)) : ¬ (16 : Int) < (L : Int) ∧ L ≤ 16 := by omega
set_option maxHeartbeats 4000000 in
set_option maxRecDepth 100000 in
theorem sum_c (g bx : Nat) (ks : List (List B)) (n : Nat) (K : KN ks n) (A : Option Addr) (c : Nat) (m : List B) (hml : m.length ≤ 140737488351232) (hc : m.length ≤ c) (w : World) (hF : Off w bx A (ib m)) (hX : Cph w g bx ks) : Calls Try.prog 40 #[.pointer (some ⟨g, 0, none⟩), .slice A m.length c] w fun e w' => ∃ N, e = .returned (.slice (some ⟨N, 0, none⟩) 16 16) ∧ w.heap.size ≤ N ∧ N ≠ bx ∧ Mem .u8 w' N 31 (ib (cmacB (encB ks n) m)) ∧ Cph w' g bx ks ∧ Ch bx w w' := by
  have CM := Aside0.mk (fun (b : List B) (hb : b.length = 16) (ga c : Nat) (W : World) (hC : Kd.C (Kd.int .u8) W (some ⟨ga, 0, none⟩) 16 (ib b)) (hX : Cph W g bx ks) => make1_c b hb g bx ks n K.len K.each K.few ga c W hC hX)
  have CL := Aside0.mk (fun (A : Option Addr) (c : Nat) (m : List B) (hm : m.length ≤ 16) (hc : m.length ≤ c) (W : World) (hF : Off W bx A (ib m)) (hX : Cph W g bx ks) => last_c g bx ks n K A c m hm hc W hF hX)
  have HE := Aside0.mk (fun y => encB_length ks n y)
  have HLL := Aside0.mk (fun (m : List B) (h : m.length ≤ 16) => lastX_length (a := mA ks n) (b := mB ks n) (l := m) (dblB_length _) (dblB_length _) h)
  have HST := Aside0.mk (macB_step (encB ks n) (mA ks n) (mB ks n))
  have HEN := Aside0.mk (macB_end (encB ks n) (mA ks n) (mB ks n))
  obtain ⟨R, hR⟩ : ∃ z, z = cmacB (encB ks n) m := ⟨_, rfl⟩
  have HR := Aside0.mk (show macB (encB ks n) (mA ks n) (mB ks n) zB m = R by rw [hR]; rfl)
  rw [← hR]
  clear hR K
  generalize mA ks n = ma at *
  generalize mB ks n = mb at *
  generalize encB ks n = E at *
  have HB0 := Aside0.mk (below_alloc (Below.refl w.heap.size w) (.cells (cellsOf .u8 z16) 5))
  have HXL := Aside0.mk (show bx < w.heap.size from hX.bound.2.2.2)
  have M0 := Aside0.mk (Mem.new .u8 w 5 z16)
  have O0 := Aside0.mk (show Off _ bx (some ⟨w.heap.size, 0, none⟩) (ib zB) by rw [ib_zB]; exact Off.of_mem M0.out rfl (by have := HXL.out; omega))
  have HX := Aside0.mk (hX.bound.below HB0.out).all
  have HC := Aside0.mk (Ch.of_below (g := bx) HB0.out)
  have HF := Aside0.mk (hF.below HB0.out)
  have hmk : ∀ W : World, (Instr.makeSlice 22 (.int .i64 16) (.int .i64 16)).run Try.prog W = .ok (.slice (some ⟨W.heap.size, 0, none⟩) 16 16) (W.alloc (.cells (cellsOf .u8 z16) 5)) := fun W => by
    have h := print_make (P := Try.prog) 22 5 .u8 1 Try.underlying22 info_u8 (by decide) 16 (by decide) W
    rw [show madeCells #[Value.int .u8 0] 16 = cellsOf .u8 z16 by kernel_rfl] at h
    exact h
  have HML := Aside0.mk hml
  have HCC := Aside0.mk hc
  clear hml hc hF hX
  go_enter Try.func40, Try.ntmps40
  go_wp2
  clear hmk
  go_loopg [1, 5] ((m.length - 1) / 16) (fun kq mv xv w' => ∃ (x l : List B) (A : Option Addr) (c N d : Nat), mv = .slice A l.length c ∧ xv = .slice (some ⟨N, 0, none⟩) 16 d ∧ Aside0 (x.length = 16 ∧ l.length ≤ 16 * (kq + 1) ∧ (0 < kq → 16 * kq < l.length) ∧ l.length ≤ 140737488351232 ∧ l.length ≤ c ∧ 16 ≤ d) ∧ Aside0 (macB E ma mb x l = R) ∧ Aside0 (Off w' bx A (ib l)) ∧ Aside0 (Off w' bx (some ⟨N, 0, none⟩) (ib x)) ∧ Aside0 (Cph w' g bx ks) ∧ Aside0 (Ch bx w w'))
  case atStart => exact ⟨zB, m, A, c, w.heap.size, 16, rfl, rfl, ⟨⟨rfl, by omega, fun _ => by omega, HML.out, HCC.out, by omega⟩⟩, HR, HF, O0, HX, HC⟩
  case round =>
    clear HR HF O0 HX HC M0 HML HCC HB0
    obtain ⟨x, l, A1, c1, N, d, rfl, rfl, HN, HR, HF, HO, HX, HC⟩ := hrel
    have HXC := Aside0.mk (HO.out.len (n := 16) (by rw [ib_length]; exact HN.out.1))
    cases gk with
    | zero =>
      obtain ⟨hnl, hl16⟩ := sumZ l.length HN.out.2.1
      have HL16 := Aside0.mk hl16
      clear hl16
      have HLX := Aside0.mk (HLL.out l HL16.out)
      have HRV := Aside0.mk (show R = E (zipX x (lastX ma mb l)) from HR.out.symm.trans (HEN.out x l HL16.out))
      have HCL := Aside0.mk (CL.out A1 c1 l HL16.out HN.out.2.2.2.2.1 wr HF.out HX.out)
      clear CL HR HF
      obtain ⟨la, hla⟩ : ∃ z, z = lastX ma mb l := ⟨_, rfl⟩
      rw [← hla] at HCL HLX HRV
      clear hla
      go_wp2_with (first
        | (go_at_call 82; go_loud ((refine HCL.out.mono ?_); rintro e w1 ⟨v, rfl, hv, hx, hch⟩; obtain ⟨A2, c2, rfl, hl2, hC2⟩ := Kd.R_reads hv; have e16 : (ib la).length = 16 := (by rw [ib_length, HLX.out]); rw [e16] at hl2 hC2 ⊢; have HCL2 := Aside0.mk hC2; have HL2 := Aside0.mk hl2; have HX := Aside0.mk hx; have HC := Aside0.mk (HC.out.trans hch); have HXC := Aside0.mk ((HO.out.ch hch).len (n := 16) (by rw [ib_length]; exact HN.out.1)); clear hv hx hch hl2 hC2 e16))
        | (go_at_call 81; go_loud ((refine (xor_b _ _ _ _ x la HN.out.1 HN.out.2.2.2.2.2 HLX.out HL2.out _ HXC.out HCL2.out).mono ?_); rintro e w2 ⟨gz, cz, rfl, hcz, hCz, hb⟩; have HCZ := Aside0.mk hCz; have HX := Aside0.mk (HX.out.bound.below hb).all; have HC := Aside0.mk (Ch.step HC.out hb); clear hCz hb hcz))
        | (go_at_call 80; go_loud ((refine (CM.out _ (zipX_16 HN.out.1 HLX.out) _ _ _ HCZ.out HX.out).mono ?_); rintro e w3 ⟨N3, rfl, hN, hne, hM, hx, hc⟩; have HN3 := Aside0.mk (And.intro (Nat.le_trans HC.out.size hN) hne); have M3 := Aside0.mk hM; have HX := Aside0.mk hx; have HC := Aside0.mk (HC.out.trans hc); clear hM hx hc hN hne)))
      go_ret
      exact ⟨_, rfl, HN3.out.1, HN3.out.2, by rw [HRV.out]; exact M3.out, HX.out, HC.out⟩
    | succ k1 =>
      obtain ⟨h1, h2, h3, h4, h5, h6, h7, h8, h9, h10, h11, h12⟩ := sumN k1 l.length c1 HN.out.2.1 HN.out.2.2.1 HN.out.2.2.2.2.1 HN.out.2.2.2.1
      obtain ⟨ad, rfl⟩ : ∃ ad, A1 = some ad := by
        obtain ⟨ad, h, _⟩ := (Kd.F_now HF.out).2.2 (by rw [ib_length]; omega)
        exact ⟨ad, h⟩
      have HT := Aside0.mk (by
        have := (HF.out.take 16 (by rw [ib_length]; omega)).len (n := 16) (by rw [List.length_take, ib_length]; omega)
        rwa [← ib_take] at this)
      have HTL := Aside0.mk (show (l.take 16).length = 16 by rw [List.length_take]; omega)
      have HNX := Aside0.mk (And.intro h6 (And.intro h7 (And.intro h12 (And.intro h9 (And.intro h10 h8)))))
      clear h6 h7 h8 h9 h10 h12
      obtain ⟨tk, htk⟩ : ∃ z, z = l.take 16 := ⟨_, rfl⟩
      have HRS := Aside0.mk (show macB E ma mb (E (zipX x tk)) (l.drop 16) = R by rw [htk, ← HST.out x l HNX.out.2.2.2.2.2]; exact HR.out)
      rw [← htk] at HT HTL
      clear htk HR CL HLL
      go_wp2_with (first
        | (go_at_call 81; go_loud ((refine (xor_b _ _ _ _ x tk HN.out.1 HN.out.2.2.2.2.2 HTL.out (by decide) _ HXC.out HT.out).mono ?_); rintro e w2 ⟨gz, cz, rfl, hcz, hCz, hb⟩; have HCZ := Aside0.mk hCz; have HX := Aside0.mk (HX.out.bound.below hb).all; have HC := Aside0.mk (Ch.step HC.out hb); have HF := Aside0.mk (HF.out.below hb); clear hCz hb hcz))
        | (go_at_call 80; go_loud ((refine (CM.out _ (zipX_16 HN.out.1 HTL.out) _ _ _ HCZ.out HX.out).mono ?_); rintro e w3 ⟨N3, rfl, hN, hne, hM, hx, hc⟩; have HF := Aside0.mk (HF.out.ch hc); have HO3 := Aside0.mk (Off.of_mem hM (by rw [ib_length]; exact HE.out _) hne); have HX := Aside0.mk hx; have HC := Aside0.mk (HC.out.trans hc); clear hM hx hc hN hne)))
      go_roundg k1
      case measure => omega
      case rel => exact ⟨E (zipX x tk), l.drop 16, some (ad.add 16), c1 - 16, N3, 16, by rw [List.length_drop]; rfl, rfl, ⟨⟨HE.out _, by rw [List.length_drop]; exact HNX.out.1, fun h => by rw [List.length_drop]; exact HNX.out.2.1 h, by rw [List.length_drop]; exact HNX.out.2.2.1, by rw [List.length_drop]; exact HNX.out.2.2.2.2.1, by decide⟩⟩, HRS, ⟨by rw [ib_drop]; exact HF.out.cut 16 (by rw [ib_length]; exact HNX.out.2.2.2.2.2) (by rw [ib_length]; exact HN.out.2.2.2.2.1)⟩, HO3, HX, HC⟩
end Go.Proofs.Ytpdikfmdnlhllaa.Aes
namespace Go.Proofs.Ytpdikfmdnlhllaa.Aes
open Go.RowKit Go.Proofs.Ytpdikfmdnlhllaa.PNib Go.Proofs.YtpdikfmdnlhllaaW.PrintWords Go.Proofs.YtpdikfmdnlhllaaW.PrintLast Go.Proofs.YtpdikfmdnlhllaaW.PrintMore Byte Sl Arr Mem Gives ArrEq Mat AesMath AesMov AesLin HandKit Copy
set_option linter.unusedVariables false
set_option linter.unusedSimpArgs false
/-- A row of bytes that a cipher at its work does not touch. -/
abbrev On (W : World) (bx : Nat) (A : Option Addr) (n : Nat) (l : List B) : Prop := Kd.F (Kd.int .u8) W (fun k => k ≠ bx) A n (ib l)
/-- A row of bytes that was made behind block b. -/
abbrev NR (b : Nat) (W : World) (A : Option Addr) (n : Nat) (l : List B) : Prop := Kd.F (Kd.int .u8) W (fun k => b ≤ k) A n (ib l)
/-- A row of bytes that lies ahead of block b. -/
abbrev OR (b : Nat) (W : World) (A : Option Addr) (n : Nat) (l : List B) : Prop := Kd.F (Kd.int .u8) W (fun k => k < b) A n (ib l)
section
variable {W W' : World} {bx b n : Nat} {A : Option Addr} {l : List B}
theorem On.ch (h : On W bx A n l) (hc : Ch bx W W') : On W' bx A n l := Kd.F_grown h hc (fun k hk e => hk (Option.some.inj e))
theorem On.below (h : On W bx A n l) (hb : Below W.heap.size W W') : On W' bx A n l := Kd.F_below h hb
theorem On.C (h : On W bx A n l) : Kd.C (Kd.int .u8) W A n (ib l) := Kd.F_now h
theorem On.len (h : On W bx A n l) : l.length = n := by have := Kd.F_len h; rwa [ib_length] at this
theorem On.off (h : On W bx A n l) : Off W bx A (ib l) := by have e := Kd.F_len h; subst e; exact h
theorem NR.on (h : NR b W A n l) (hb : bx < b) : On W bx A n l := Kd.F_mono h (fun k hk => by omega)
theorem NR.below (h : NR b W A n l) (hb : Below W.heap.size W W') : NR b W' A n l := Kd.F_below h hb
theorem NR.C (h : NR b W A n l) : Kd.C (Kd.int .u8) W A n (ib l) := Kd.F_now h
theorem OR.on (h : OR b W A n l) (hb : b ≤ bx) : On W bx A n l := Kd.F_mono h (fun k hk => by omega)
theorem OR.below (h : OR b W A n l) (hb : Below W.heap.size W W') : OR b W' A n l := Kd.F_below h hb
theorem OR.C (h : OR b W A n l) : Kd.C (Kd.int .u8) W A n (ib l) := Kd.F_now h
theorem OR.of_C (h : Kd.C (Kd.int .u8) W A n (ib l)) : OR W.heap.size W A n l := Kd.C_F (Kd.heap_int .u8) h
theorem On.of_mem {N : Nat} {t : TypeId} (h : Mem .u8 W N t (ib l)) (hl : l.length = 16) (hne : N ≠ bx) : On W bx (some ⟨N, 0, none⟩) 16 l := by
  have hlt : N < W.heap.size := (Array.getElem?_eq_some_iff.1 h).1
  intro W' hW
  exact mem_row16 (show Mem .u8 W' N t (ib l) from (hW N hne hlt).trans h) (by rw [ib_length, hl])
theorem OR.of_mem {N : Nat} {t : TypeId} (h : Mem .u8 W N t (ib l)) (hl : l.length = 16) (hne : N < b) : OR b W (some ⟨N, 0, none⟩) 16 l := by
  have hlt : N < W.heap.size := (Array.getElem?_eq_some_iff.1 h).1
  intro W' hW
  exact mem_row16 (show Mem .u8 W' N t (ib l) from (hW N hne hlt).trans h) (by rw [ib_length, hl])
theorem row_new {e base : Nat} {ok : Nat → Prop} {v : Value} (h : Kd.R (Kd.int .u8) e W base ok v (ib l)) (hl : l.length = n) : ∃ A c, v = .slice A n c ∧ n ≤ c ∧ NR base W A n l := by
  subst hl
  obtain ⟨A, c, rfl, hc, _⟩ := Kd.R_reads h
  rw [ib_length] at hc
  refine ⟨A, c, by rw [ib_length], hc, ?_⟩
  have := Kd.F_mono (ok' := fun k => base ≤ k) (Kd.R_F (Kd.R_bound h)) (fun k hk => hk.2.1)
  rwa [ib_length] at this
theorem On.nil (W : World) (bx : Nat) : On W bx none 0 [] := Kd.F_nil (Kd.int .u8) W _
end
theorem rxor_c (x y : List B) (n1 n2 n3 : Nat) (hx : x.length = n1) (hy : y.length = n2) (hz : (zipX x y).length = n3) (h48 : n1 ≤ 140737488351232) (A1 A2 : Option Addr) (c1 c2 : Nat) (hc1 : n1 ≤ c1) (hc2 : n2 ≤ c2) (W : World) (h1 : Kd.C (Kd.int .u8) W A1 n1 (ib x)) (h2 : Kd.C (Kd.int .u8) W A2 n2 (ib y)) :
    Calls Try.prog 39 #[.slice A1 n1 c1, .slice A2 n2 c2] W fun e w' => ∃ A c, e = .returned (.slice A n3 c) ∧ n3 ≤ c ∧ NR W.heap.size w' A n3 (zipX x y) ∧ Below W.heap.size W w' := by
  subst hx hy
  have := visorref01_Xor.calls (x.length + 1) A1 c1 (ib x) A2 c2 (ib y) (ib (zipX x y)) W (by rw [ib_length]; exact h1) (by rw [ib_length]; exact hc1) (by rw [ib_length]; exact h2) (by rw [ib_length]; exact hc2) (by rw [CmEval.RXor_eq _ _ (by rw [ib_length]; exact h48) _ (by rw [ib_length]; omega)]; unfold Octet.xorL; rw [zipX_ib])
  rw [ib_length, ib_length] at this
  refine this.mono ?_
  rintro e w' ⟨v, rfl, hv, hb⟩
  obtain ⟨A, c, rfl, hc, hn⟩ := row_new hv hz
  exact ⟨A, c, rfl, hc, hn, hb⟩
theorem rsame_c (x y : List B) (r : Bool) (hr : decide (x = y) = r) (n1 n2 : Nat) (A1 A2 : Option Addr) (c1 c2 : Nat) (hc1 : n1 ≤ c1) (hc2 : n2 ≤ c2) (W : World) (h1 : Kd.C (Kd.int .u8) W A1 n1 (ib x)) (h2 : Kd.C (Kd.int .u8) W A2 n2 (ib y)) :
    Calls Try.prog 41 #[.slice A1 n1 c1, .slice A2 n2 c2] W fun e w' => e = .returned (.bool r) ∧ Below W.heap.size W w' := by
  have e1 := h1.1
  have e2 := h2.1
  subst e1 e2
  refine (visorref01_Same.calls A1 c1 (ib x) A2 c2 (ib y) r W h1 hc1 h2 hc2 (by rw [← hr]; exact CmEval.RSame_eq x y)).mono ?_
  rintro e w' ⟨rfl, ⟨m, rfl⟩⟩
  exact ⟨rfl, pw_below_drewN (Below.refl _ _) m⟩
theorem begins_c (x y : List B) (r : Bool) (hr : CmEval.begins x y = r) (n1 n2 : Nat) (A1 A2 : Option Addr) (c1 c2 : Nat) (hc1 : n1 ≤ c1) (hc2 : n2 ≤ c2) (W : World) (h1 : Kd.C (Kd.int .u8) W A1 n1 (ib x)) (h2 : Kd.C (Kd.int .u8) W A2 n2 (ib y)) :
    Calls Try.prog 48 #[.slice A1 n1 c1, .slice A2 n2 c2] W fun e w' => e = .returned (.bool r) ∧ Below W.heap.size W w' := by
  have e1 := h1.1
  have e2 := h2.1
  subst e1 e2
  refine (visorref11_Begins.calls A1 c1 (ib x) A2 c2 (ib y) r W h1 hc1 h2 hc2 (by rw [← hr]; exact CmEval.Begins_eq x y)).mono ?_
  rintro e w' ⟨rfl, ⟨m, rfl⟩⟩
  exact ⟨rfl, pw_below_drewN (Below.refl _ _) m⟩
/-- A message's tag: a row that was made behind the call's begin. -/
theorem sum_n (g bx : Nat) (ks : List (List B)) (n : Nat) (K : KN ks n) (m : List B) (L : Nat) (hL : L ≤ 140737488351232) (A : Option Addr) (c : Nat) (hc : L ≤ c) (W : World) (hF : On W bx A L m) (hX : Cph W g bx ks) : Calls Try.prog 40 #[.pointer (some ⟨g, 0, none⟩), .slice A L c] W fun e w' => ∃ N, e = .returned (.slice (some ⟨N, 0, none⟩) 16 16) ∧ W.heap.size ≤ N ∧ On w' bx (some ⟨N, 0, none⟩) 16 (cmacB (encB ks n) m) ∧ Cph w' g bx ks ∧ Ch bx W w' := by
  have e := hF.len
  subst e
  refine (sum_c g bx ks n K A c m hL hc W hF.off hX).mono ?_
  rintro e w' ⟨N, rfl, hN, hne, hM, hx, hch⟩
  exact ⟨N, rfl, hN, On.of_mem hM (cmacB_length _ _ (fun y => encB_length ks n y)) hne, hx, hch⟩
theorem masks_n (g bx : Nat) (ks : List (List B)) (n : Nat) (K : KN ks n) (W : World) (hX : Cph W g bx ks) : Calls Try.prog 38 #[.pointer (some ⟨g, 0, none⟩)] W fun e w' => ∃ A1 c1 A2 c2, e = .returned (.tuple #[.slice A1 16 c1, .slice A2 16 c2]) ∧ 16 ≤ c1 ∧ 16 ≤ c2 ∧ On w' bx A1 16 (mA ks n) ∧ On w' bx A2 16 (mB ks n) ∧ Cph w' g bx ks ∧ Ch bx W w' := by
  have hbx : bx < W.heap.size := hX.bound.2.2.2
  refine (masks_c g bx ks n K.len K.each K.few 17 (ib (mA ks n)) (ib (mB ks n)) KN.d1 KN.d2 (by rw [ib_length]; exact dblB_length _) W hX).mono ?_
  rintro e w' ⟨v1, v2, rfl, h1, h2, hx, hch⟩
  obtain ⟨A1, c1, rfl, hc1, hn1⟩ := row_new h1 (dblB_length _)
  obtain ⟨A2, c2, rfl, hc2, hn2⟩ := row_new h2 (dblB_length _)
  exact ⟨A1, c1, A2, c2, rfl, hc1, hc2, hn1.on hbx, hn2.on hbx, hx, hch⟩
theorem kn_of (key : List B) (hr : roundsN key.length ≠ 0) : ∃ n, KN (roundKeys key) n := by
  obtain ⟨n, h1, _, h3, h4⟩ := round_keys_len key hr
  exact ⟨n, ⟨h1, h4, h3⟩⟩
theorem kn_at {key : List B} {n m : Nat} (h : KN (roundKeys key) n) (hm : (roundKeys key).length = m + 2) : m = n := by have := h.len; omega
theorem new_n (key : List B) (hr : roundsN key.length ≠ 0) (L : Nat) (hL : key.length = L) (A : Option Addr) (c : Nat) (hc : L ≤ c) (W : World) (hC : Kd.C (Kd.int .u8) W A L (ib key)) : Calls Try.prog 30 #[.slice A L c] W fun e w' => ∃ g bx, e = .returned (.tuple #[.pointer (some ⟨g, 0, none⟩), .int .i64 0]) ∧ Cph w' g bx (roundKeys key) ∧ W.heap.size ≤ bx ∧ Below W.heap.size W w' := by
  subst hL
  refine (new_c key hr A c hc W hC).mono ?_
  rintro e w' ⟨g, bx, rfl, hx, _, hbx, hb⟩
  exact ⟨g, bx, rfl, hx, hbx, hb⟩
theorem block_n (g bx : Nat) (ks : List (List B)) (n : Nat) (K : KN ks n) (b : List B) (hb : b.length = 16) (W : World) (hX : Cph W g bx ks) : Calls Try.prog 31 #[.pointer (some ⟨g, 0, none⟩), .agg (cellsOf .u8 (ib b))] W fun e w' => e = .returned (.agg (cellsOf .u8 (ib (encB ks n b)))) ∧ Cph w' g bx ks ∧ Ch bx W w' := block_c b hb g bx ks n K.len K.each K.few W hX
theorem cm_begins : CmEval.begins cm1C [187#8, 29#8, 105#8, 41#8] = true := by decide +kernel
theorem kn_cm : KN (roundKeys cmK) 9 := by
  obtain ⟨n, h⟩ := kn_of cmK (by decide)
  obtain rfl := kn_at (m := 9) h (by rw [roundKeys_length]; decide)
  exact h
theorem cm_nil : cmacB (encB (roundKeys cmK) 9) [] = cm1C := cm_mac
theorem mem_row4 {w : World} {g : Nat} {t : TypeId} {l : List Int} (h : Mem .u8 w g t l) (hl : l.length = 4) : Kd.C (Kd.int .u8) w (some ⟨g, 0, none⟩) 4 l := by
  have := mem_C h 4 (by omega) (by decide)
  rwa [show l.take 4 = l by rw [← hl]; exact List.take_length] at this
set_option maxHeartbeats 4000000 in
set_option maxRecDepth 100000 in
theorem cawake_c : GivesB 42 #[] (.bool true) := by
  intro w
  have HB := Aside0.mk (below_alloc (Below.refl w.heap.size w) (.cells (cellsOf .u8 (ib cmK)) 5))
  have M0 := Aside0.mk (mem_row16 (Mem.new .u8 w 5 (ib cmK)) rfl)
  have CN := Aside0.mk (fun A c (hc : 16 ≤ c) W h => new_n cmK (by decide) 16 rfl A c hc W h)
  have CS := Aside0.mk (fun g bx W (h : Cph W g bx (roundKeys cmK)) => sum_n g bx (roundKeys cmK) 9 kn_cm [] 0 (by decide) none 0 (Nat.le_refl _) W (On.nil W bx) h)
  rw [cm_nil] at CS
  have CB := Aside0.mk (fun A1 A2 c1 c2 (hc1 : 16 ≤ c1) (hc2 : 4 ≤ c2) W h1 h2 => begins_c cm1C [187#8, 29#8, 105#8, 41#8] true cm_begins 16 4 A1 A2 c1 c2 hc1 hc2 W h1 h2)
  have M4 := Aside0.mk (fun (W : World) => mem_row4 (Mem.new .u8 W 5 (ib [187#8, 29#8, 105#8, 41#8])) rfl)
  go_enter Try.func42, Try.ntmps42
  go_wp2_with (first
    | (go_at_call 30; go_loud ((refine (CN.out _ _ (by decide) _ M0.out).mono ?_); rintro e w1 ⟨g, bx, rfl, hx, hbx, hb⟩; have HX := Aside0.mk hx; have HBX := Aside0.mk (Nat.le_trans HB.out.size hbx); have HB := Aside0.mk (below_step HB.out hb); have HC := Aside0.mk (Ch.refl (g := bx) w1); clear hx hbx hb))
    | (go_at_call 40; (try (refine gate_guard (by rfl) ?_; dsimp only)); go_loud ((refine (CS.out _ _ _ HX.out).mono ?_); rintro e w2 ⟨N, rfl, hN, hF, hx, hc⟩; have HF := Aside0.mk (hF.below (below_alloc (Below.refl _ _) (.cells (cellsOf .u8 (ib [187#8, 29#8, 105#8, 41#8])) 5))); have HC := Aside0.mk (Ch.step hc (below_alloc (Below.refl _ _) (.cells (cellsOf .u8 (ib [187#8, 29#8, 105#8, 41#8])) 5))); clear hN hx hc hF))
    | (go_at_call 48; (try (refine gate_guard (by rfl) ?_; dsimp only)); go_loud ((refine (CB.out _ _ _ _ (by decide) (by decide) _ HF.out.C (M4.out _)).mono ?_); rintro e w3 ⟨rfl, hb⟩; have HC := Aside0.mk (Ch.step HC.out hb); clear hb)))
  go_ret
  exact ⟨rfl, HC.out.below HB.out HB.out.size HBX.out⟩
end Go.Proofs.Ytpdikfmdnlhllaa.Aes
namespace Go.Proofs.Ytpdikfmdnlhllaa.Aes
open Go.RowKit Go.Proofs.Ytpdikfmdnlhllaa.PNib Go.Proofs.YtpdikfmdnlhllaaW.PrintWords Go.Proofs.YtpdikfmdnlhllaaW.PrintLast Go.Proofs.YtpdikfmdnlhllaaW.PrintMore Byte Sl Arr Mem Gives ArrEq Mat AesMath AesMov AesLin HandKit Copy
set_option linter.unusedVariables false
set_option linter.unusedSimpArgs false
theorem over_all {xs ys : List Int} (h : xs.length = ys.length) : over xs ys = ys := by
  unfold over splice
  rw [List.take_zero, List.nil_append, Nat.zero_add, List.take_of_length_le (by omega), List.drop_eq_nil_of_le (by omega), List.append_nil]
/-- A row of bytes ahead of block lim that a cipher at its work does not touch. -/
abbrev OnL (W : World) (bx lim : Nat) (A : Option Addr) (n : Nat) (l : List B) : Prop := Kd.F (Kd.int .u8) W (fun k => k ≠ bx ∧ k < lim) A n (ib l)
section
variable {W W' : World} {bx lim b n : Nat} {A : Option Addr} {l : List B}
theorem On.bound (h : On W bx A n l) : OnL W bx W.heap.size A n l := Kd.F_bound h
theorem OnL.ch (h : OnL W bx lim A n l) (hc : Ch bx W W') : OnL W' bx lim A n l := Kd.F_grown h hc (fun k hk e => hk.1 (Option.some.inj e))
theorem OnL.below (h : OnL W bx lim A n l) (hb : Below W.heap.size W W') : OnL W' bx lim A n l := Kd.F_below h hb
theorem OnL.row (h : OnL W bx lim A n l) (hb : lim ≤ b) (cs : Array Value) : OnL (W.setRow b cs) bx lim A n l := Kd.F_grown h (grown_setRow W b cs) (fun k hk e => by have := hk.2; have := Option.some.inj e; omega)
theorem OnL.C (h : OnL W bx lim A n l) : Kd.C (Kd.int .u8) W A n (ib l) := Kd.F_now h
theorem OnL.cut {ad : Addr} {c m : Nat} (h : OnL W bx lim (some ad) n l) (hm : m < n) (hc : n ≤ c) : OnL W bx lim (some (ad.add m)) (n - m) (l.drop m) := by
  have e := Kd.F_len h
  subst e
  have := Kd.F_cut h (Nat.le_of_lt hm) hc
  rw [if_neg (by omega)] at this
  rw [show (Kd.int .u8).sz = 1 from rfl, Nat.mul_one] at this
  rw [List.length_drop] at this
  show Kd.F (Kd.int .u8) W (fun k => k ≠ bx ∧ k < lim) _ _ (ib (l.drop m))
  rw [ib_drop]
  exact this
theorem OnL.addr (h : OnL W bx lim A n l) (hm : 0 < n) : ∃ ad, A = some ad := by
  obtain ⟨ad, h, _⟩ := (Kd.F_now h).2.2 hm
  exact ⟨ad, h⟩
theorem OnL.len (h : OnL W bx lim A n l) : l.length = n := by have := Kd.F_len h; rwa [ib_length] at this
theorem OnL.on (h : OnL W bx lim A n l) : On W bx A n l := Kd.F_mono h (fun k hk => hk.1)
end
theorem memch {w w' : World} {g bx : Nat} {t : TypeId} {l : List Int} (h : Mem .u8 w g t l) (hc : Ch bx w w') (hne : g ≠ bx) : Mem .u8 w' g t l :=
  (hc.block _ (Array.getElem?_eq_some_iff.1 h).1 (fun e => hne (Option.some.inj e))).trans h
set_option maxRecDepth 100000 in
theorem run_copy16 {w : World} {g : Nat} {t : TypeId} {l ys : List Int} {A : Option Addr} {m c : Nat} (dT ty elem : TypeId) (hu : Try.prog.underlying dT = some (.slice elem)) (hsz : (Try.prog.info? elem).map (·.size) = some 1) (M : Mem .u8 w g t l) (hl : l.length = 16) (HC : Kd.C (Kd.int .u8) w A m ys) (h0 : 0 < m) (hm : m ≤ 16) :
    (Builtin.copy_ #[dT, dT] ty #[.slice (some ⟨g, 0, none⟩) 16 16, .slice A m c]).run Try.prog w = .ok (goInt m) (w.setRow g (cellsOf .u8 (over l ys))) := by
  obtain ⟨ad, rfl, hc⟩ := HC.2.2 h0
  have hlen : ys.length = m := HC.1
  have hrun := run_copy_row (P := Try.prog) w dT dT ty elem g 0 16 16 ad m c (cellsOf .u8 l) t (ys.map (Value.int .u8)) hu hsz M (by rw [List.length_map, hlen]; exact (Nat.min_eq_left hm).symm) (fun j v hj => by
    rw [List.getElem?_map, Option.map_eq_some_iff] at hj
    obtain ⟨p, hp, rfl⟩ := hj
    obtain ⟨c', hl', hK, hcell⟩ := hc j p hp
    have hK' : c' = [.int .u8 p] := hK
    subst hK'
    have := hcell 0 _ rfl
    simpa [Kd.int, Kd.scalar] using this) (by rw [List.length_map, hlen, cellsOf_size, hl]; omega) (fun v hv => by
    obtain ⟨x, _, rfl⟩ := List.mem_map.1 hv
    rfl)
  rw [hrun, List.length_map, hlen]
  congr 1
  unfold cellsOf over splice
  simp only [List.toList_toArray, List.take_zero, List.nil_append, Nat.zero_add, List.length_map]
  rw [List.take_of_length_le (show ys.length ≤ l.length by omega), List.map_append, List.map_drop, hlen]
theorem step_copy16 {ops : Array Oper} {o : Oper} {a : Act} {K : Act → World → Prop} {Q : Exit → Act → World → Prop} {E : Prop} {w : World} {g : Nat} {t : TypeId} {l ys : List Int} {A : Option Addr} {m c : Nat} (hgd : o.guard = none) (d s : Operand) (dT : TypeId)
    (ho : o.op = .call { callee := .builtin .copy, args := #[d, s], argTypes := #[dT, dT] }) (elem : TypeId) (hu : Try.prog.underlying dT = some (.slice elem)) (hsz : (Try.prog.info? elem).map (·.size) = some 1)
    (hd : a.eval d = .slice (some ⟨g, 0, none⟩) 16 16) (hs : a.eval s = .slice A m c) (M : Mem .u8 w g t l) (hl : l.length = 16) (HC : Kd.C (Kd.int .u8) w A m ys) (h0 : 0 < m) (hm : m ≤ 16)
    (h : K (a.put o.dst (goInt m)) (w.setRow g (cellsOf .u8 (over l ys)))) : if Region.wanted o (yielded ops a.tmps) = true then Oper.wp Try.prog o a w K Q else E := by
  have hw : Region.wanted o (yielded ops a.tmps) = true := by simp [Region.wanted, hgd]
  rw [if_pos hw]
  have hrun := run_copy16 (w := w) (c := c) dT o.type elem hu hsz M hl HC h0 hm
  unfold Oper.wp
  simp [execOp, ho, resolve, invoke, builtin, hd, hs, hrun, Result.andThen]
  exact h
end Go.Proofs.Ytpdikfmdnlhllaa.Aes
namespace Go.Proofs.Ytpdikfmdnlhllaa.Aes
open Go.RowKit Go.Proofs.Ytpdikfmdnlhllaa.PNib Go.Proofs.YtpdikfmdnlhllaaW.PrintWords Go.Proofs.YtpdikfmdnlhllaaW.PrintLast Go.Proofs.YtpdikfmdnlhllaaW.PrintMore Byte Sl Arr Mem Gives ArrEq Mat AesMath AesMov AesLin HandKit Copy
set_option linter.unusedVariables false
set_option linter.unusedSimpArgs false
set_option maxHeartbeats 4000000 in
set_option maxRecDepth 100000 in
theorem cgoes_c (key b m0 : List B) (hk : key.length = 16) (hb : b.length = 16) (L0 : Nat) (A0 : Option Addr) (c0 : Nat) (hc0 : L0 ≤ c0) (w : World) (hC : Kd.C (Kd.int .u8) w A0 L0 (ib m0)) : Calls Try.prog 7 #[.agg (cellsOf .u8 (ib key)), .agg (cellsOf .u8 (ib b)), .slice A0 L0 c0] w fun e w' => e = .returned (.bool true) ∧ Below w.heap.size w w' := by
  have hr0 : roundsN key.length ≠ 0 := by rw [hk]; decide
  obtain ⟨n, K⟩ := kn_of key hr0
  have HKL := Aside0.mk (show (ib key).length = 16 by rw [ib_length, hk])
  have hB16 := Aside0.mk hb
  have HBL := Aside0.mk (show (ib b).length = 16 by rw [ib_length, hb])
  have M1 := Aside0.mk (Mem.alloc (Mem.new .u8 w 31 (ib key)) (.cells (cellsOf .u8 (ib b)) 31))
  have M2 := Aside0.mk (Mem.new2 .u8 w (.cells (cellsOf .u8 (ib key)) 31) 31 (ib b))
  have HB := Aside0.mk (below_alloc (below_alloc (Below.refl w.heap.size w) (.cells (cellsOf .u8 (ib key)) 31)) (.cells (cellsOf .u8 (ib b)) 31))
  have O0 := Aside0.mk (show OR (w.heap.size + 2) ((w.alloc (.cells (cellsOf .u8 (ib key)) 31)).alloc (.cells (cellsOf .u8 (ib b)) 31)) A0 L0 m0 from Kd.F_mono ((OR.of_C hC).below (below_alloc (below_alloc (Below.refl _ _) (.cells (cellsOf .u8 (ib key)) 31)) (.cells (cellsOf .u8 (ib b)) 31))) (fun k hk => by omega))
  have OB := Aside0.mk (show OR (w.heap.size + 2) ((w.alloc (.cells (cellsOf .u8 (ib key)) 31)).alloc (.cells (cellsOf .u8 (ib b)) 31)) (some ⟨(w.heap.size + 1), 0, none⟩) 16 b from OR.of_mem M2.out hb (by omega))
  have CN := Aside0.mk (fun A c (hc : 16 ≤ c) W h => new_n key hr0 16 hk A c hc W h)
  have CMK := Aside0.mk (fun g bx W (h : Cph W g bx (roundKeys key)) => masks_n g bx (roundKeys key) n K W h)
  have CB := Aside0.mk (fun g bx x hx W (h : Cph W g bx (roundKeys key)) => block_n g bx (roundKeys key) n K x hx W h)
  have CS := Aside0.mk (fun g bx m L hL A c hc W hF (h : Cph W g bx (roundKeys key)) => sum_n g bx (roundKeys key) n K m L hL A c hc W hF h)
  have HE := Aside0.mk (fun y => encB_length (roundKeys key) n y)
  have HA16 := Aside0.mk (show (mA (roundKeys key) n).length = 16 from dblB_length _)
  have HONE := Aside0.mk (cmac_one (encB (roundKeys key) n) b hb)
  have HGO := Aside0.mk (fun m (hm : 16 ≤ m.length) => cmac_goes (encB (roundKeys key) n) b m (fun y => encB_length (roundKeys key) n y) hb hm)
  have CA := Aside0.mk (fun W => cawake_c W)
  rw [show dblB (encB (roundKeys key) n zB) = mA (roundKeys key) n from rfl] at HONE
  generalize mA (roundKeys key) n = ma at *
  generalize encB (roundKeys key) n = E at *
  have HL0 := Aside0.mk (And.intro hC.1 hc0)
  have HX16 := Aside0.mk (zipX_16 hB16.out HA16.out)
  have HXR := Aside0.mk (fun A c (hc : 16 ≤ c) W (h1 : Kd.C (Kd.int .u8) W (some ⟨(w.heap.size + 1), 0, none⟩) 16 (ib b)) (h2 : Kd.C (Kd.int .u8) W A 16 (ib ma)) => rxor_c b ma 16 16 16 hB16.out HA16.out (zipX_16 hB16.out HA16.out) (by decide) (some ⟨(w.heap.size + 1), 0, none⟩) A 16 c (by decide) hc W h1 h2)
  obtain ⟨x1, hx1⟩ : ∃ z, z = zipX b ma := ⟨_, rfl⟩
  rw [← hx1] at HXR HONE HX16
  have HX1L := Aside0.mk (show (ib x1).length = 16 by rw [ib_length]; exact HX16.out)
  have E1L := Aside0.mk (show (ib (E x1)).length = 16 by rw [ib_length]; exact HE.out _)
  have E1B := Aside0.mk (HE.out x1)
  have E2L := Aside0.mk (show (ib (E b)).length = 16 by rw [ib_length]; exact HE.out _)
  have E2B := Aside0.mk (HE.out b)
  have CB1 := Aside0.mk (fun g bx W h => CB.out g bx x1 HX16.out W h)
  have CB2 := Aside0.mk (fun g bx W h => CB.out g bx b hB16.out W h)
  obtain ⟨e1, he1⟩ : ∃ z, z = E x1 := ⟨_, rfl⟩
  obtain ⟨e2, he2⟩ : ∃ z, z = E b := ⟨_, rfl⟩
  rw [← he1] at HONE E1L E1B CB1
  rw [← he2] at E2L HGO E2B CB2
  clear hx1 he1 he2 HA16 HE CB
  clear hC hk hb hr0 K hc0
  obtain ⟨ck, hck⟩ : ∃ z, z = cellsOf .u8 (ib key) := ⟨_, rfl⟩
  obtain ⟨cb, hcb⟩ : ∃ z, z = cellsOf .u8 (ib b) := ⟨_, rfl⟩
  rw [← hck, ← hcb] at M1 M2 HB O0 OB ⊢
  clear hck hcb
  have hcase : 500 < L0 ∨ L0 = 0 ∨ (1 ≤ L0 ∧ L0 ≤ 500) := by omega
  rcases hcase with h1 | h1 | h1
  case' inl =>
    have t1 : (500 : Int) < (L0 : Int) := by omega
    clear h1
    go_enter Try.func7, Try.ntmps7
    go_upto_region 3 with (fail)
    obtain ⟨A2, L, c2, mm, hA2, hL, hc2, hmm⟩ : ∃ A2 L c2 mm, A2 = (some ⟨(w.heap.size + 1), 0, none⟩ : Option Addr) ∧ L = 16 ∧ c2 = 16 ∧ mm = b := ⟨_, _, _, _, rfl, rfl, rfl, rfl⟩
    rw [show Value.slice (some ⟨(w.heap.size + 1), 0, none⟩) 16 16 = Value.slice A2 L c2 by rw [hA2, hL, hc2]]
    have HL := Aside0.mk (show mm.length = L ∧ L ≤ c2 ∧ 1 ≤ L ∧ L ≤ 500 by rw [hmm, hL, hc2]; exact ⟨hB16.out, by decide, by decide, by decide⟩)
    have OM := Aside0.mk (show OR (w.heap.size + 2) _ A2 L mm by rw [hmm, hA2, hL]; exact OB.out)
    clear hA2 hL hc2 hmm
  case' inr.inl =>
    have t1 : ¬ (500 : Int) < (L0 : Int) := by omega
    have t2 : ((L0 : Int) == 0) = true := by rw [beq_iff_eq]; omega
    have HZ := Aside0.mk h1
    clear h1
    go_enter Try.func7, Try.ntmps7
    go_upto_region 3 with (fail)
    obtain ⟨A2, L, c2, mm, hA2, hL, hc2, hmm⟩ : ∃ A2 L c2 mm, A2 = (some ⟨(w.heap.size + 1), 0, none⟩ : Option Addr) ∧ L = 16 ∧ c2 = 16 ∧ mm = b := ⟨_, _, _, _, rfl, rfl, rfl, rfl⟩
    rw [show Value.slice (some ⟨(w.heap.size + 1), 0, none⟩) 16 16 = Value.slice A2 L c2 by rw [hA2, hL, hc2]]
    have HL := Aside0.mk (show mm.length = L ∧ L ≤ c2 ∧ 1 ≤ L ∧ L ≤ 500 by rw [hmm, hL, hc2]; exact ⟨hB16.out, by decide, by decide, by decide⟩)
    have OM := Aside0.mk (show OR (w.heap.size + 2) _ A2 L mm by rw [hmm, hA2, hL]; exact OB.out)
    clear hA2 hL hc2 hmm
    clear t2 HZ
  case' inr.inr =>
    have t1 : ¬ (500 : Int) < (L0 : Int) := by omega
    have t2 : ((L0 : Int) == 0) = false := by rw [beq_eq_false_iff_ne]; omega
    have HZ := Aside0.mk h1
    clear h1
    go_enter Try.func7, Try.ntmps7
    go_upto_region 3 with (fail)
    obtain ⟨A2, L, c2, mm, rfl, rfl, rfl, rfl⟩ : ∃ A2 L c2 mm, A2 = A0 ∧ L = L0 ∧ c2 = c0 ∧ mm = m0 := ⟨_, _, _, _, rfl, rfl, rfl, rfl⟩
    have HL := Aside0.mk (show mm.length = L ∧ L ≤ c2 ∧ 1 ≤ L ∧ L ≤ 500 from ⟨by have := HL0.out.1; rwa [ib_length] at this, HL0.out.2, by have := HZ.out; omega, by have := HZ.out; omega⟩)
    have OM := O0
    clear t2 HZ
  all_goals
    clear O0 HL0 t1
    go_upto_region 6 with (first
      | (go_at_call 30; go_loud ((refine (CN.out _ _ (by decide) _ (mem_row16 M1.out HKL.out)).mono ?_); rintro e w1 ⟨g, bx, rfl, hx, hbx, hb⟩; have HX := Aside0.mk hx; have HBX := Aside0.mk (show w.heap.size + 2 ≤ bx by have h_ := hbx; rw [World.size_alloc, World.size_alloc] at h_; exact h_); have HGM := Aside0.mk (show w.heap.size + 1 ≠ bx by have := HBX.out; omega); have OB := Aside0.mk ((OB.out.below hb).on HBX.out); have OM := Aside0.mk ((OM.out.below hb).on HBX.out); have HMM := Aside0.mk (Mem.below M2.out hb); have HB := Aside0.mk (below_step HB.out hb); have HC := Aside0.mk (Ch.refl (g := bx) w1); clear hx hbx hb)))
    clear M1 M2 CN
    go_upto_region 7 with (first
      | (go_at_call 38; go_loud ((refine (CMK.out _ _ _ HX.out).mono ?_); rintro e w2 ⟨A3, c3, A4, c4, rfl, hc3, _, hA3, _, hx, hc⟩; have HX := Aside0.mk hx.bound; have OA := Aside0.mk hA3.bound; have OB := Aside0.mk (OB.out.ch hc).bound; have OM := Aside0.mk (OM.out.ch hc).bound; have HMM := Aside0.mk (memch HMM.out hc HGM.out); have HC3 := Aside0.mk hc3; have HG7 := Aside0.mk (show w1.heap.size ≤ w2.heap.size from hc.size); have HS7 := Aside0.mk (show bx < w2.heap.size from hx.bound.2.2.2); have HC := Aside0.mk hc; clear hc hx hA3 hc3)))
    clear CMK
    have M11 := Aside0.mk (Mem.alloc (Mem.new .u8 w2 31 z16) (.cells (cellsOf .u8 z16) 31))
    have M12 := Aside0.mk (Mem.new2 .u8 w2 (.cells (cellsOf .u8 z16) 31) 31 z16)
    go_upto_region 8 with (first
      | ((with_reducible refine gate_dst (N := 38) rfl ?_); refine wpList_build_zero rfl 31 rfl (cellsOf .u8 z16) built16 ?_)
      | ((with_reducible refine gate_dst (N := 39) rfl ?_); refine wpList_build_zero rfl 31 rfl (cellsOf .u8 z16) built16 ?_)
      | (((with_reducible refine gate_store (t := 31) (p := 11) rfl ?_); refine Mem.store (l' := z16) M11.out rfl 31 (.tmp 11) (.tmp 38) rfl rfl rfl (by first | exact info16 | (rw [z16_length]; exact info16)) (by first | rfl | (rw [z16_length]; rfl) | rw [z16_length, z16_length]) ?_); have M12 := Aside0.mk (Mem.row M12.out (show w2.heap.size ≠ w2.heap.size + 1 by omega) (cellsOf .u8 z16)))
      | ((with_reducible refine gate_store (t := 31) (p := 12) rfl ?_); refine Mem.store (l' := z16) M12.out rfl 31 (.tmp 12) (.tmp 39) rfl rfl rfl (by first | exact info16 | (rw [z16_length]; exact info16)) (by first | rfl | (rw [z16_length]; rfl) | rw [z16_length, z16_length]) ?_))
    generalize hw7 : World.setRow (World.setRow (World.alloc (World.alloc w2 _) _) _ _) _ _ = w7
    have M11 := Aside0.mk (show Mem .u8 w7 w2.heap.size 31 z16 by rw [← hw7]; exact Mem.row (Mem.put M11.out z16) (show w2.heap.size + 1 ≠ w2.heap.size by omega) (cellsOf .u8 z16))
    have M12 := Aside0.mk (show Mem .u8 w7 (w2.heap.size + 1) 31 z16 by rw [← hw7]; exact Mem.put M12.out z16)
    have hb7 : Below w2.heap.size w2 w7 := by rw [← hw7]; exact below_setRow (below_setRow (below_alloc (below_alloc (Below.refl w2.heap.size w2) (.cells (cellsOf .u8 z16) 31)) (.cells (cellsOf .u8 z16) 31)) (g := w2.heap.size) (by omega) (cellsOf .u8 z16)) (g := w2.heap.size + 1) (by omega) (cellsOf .u8 z16)
    clear hw7
    have OB := Aside0.mk (OB.out.below hb7)
    have OM := Aside0.mk (OM.out.below hb7)
    have OA := Aside0.mk (OA.out.below hb7)
    have HMM := Aside0.mk (Mem.below HMM.out hb7)
    have HX := Aside0.mk (HX.out.below hb7)
    have HC := Aside0.mk (Ch.step HC.out hb7)
    clear hb7
    have HG := Aside0.mk (show w2.heap.size ≠ bx ∧ w2.heap.size + 1 ≠ bx ∧ w2.heap.size ≠ w2.heap.size + 1 ∧ w1.heap.size ≤ w2.heap.size ∧ w1.heap.size ≤ w2.heap.size + 1 ∧ w2.heap.size ≤ w2.heap.size + 1 ∧ w.heap.size + 1 ≠ w2.heap.size ∧ w.heap.size + 1 ≠ w2.heap.size + 1 by have h1 := HS7.out; have h2 := HG7.out; have h3 := HBX.out; exact ⟨by omega, by omega, by omega, h2, by omega, by omega, by omega, by omega⟩)
    generalize w2.heap.size + 1 = g12 at HG M12 M11 ⊢
    generalize w2.heap.size = g11 at HG M11 M12 HX OB OM OA ⊢
    clear HS7 HG7
    refine start_ (n := 5) (S := fun w' => True) (ds := []) #[false, false, false, false, false] (by kernel_rfl) rfl rfl trivial (fun hHeld => ?_)
    refine pure_ (i := 0) (N := some 40) (v := ?_) (a' := ?_) #[true, false, false, false, false] rfl rfl (by kernel_rfl) (fun _ _ _ h => h) (Or.inl ⟨by rfl, ?_⟩) ?_ ?_
    rotate_left
    · intro w'
      go_simp
      with_reducible rfl
    rotate_left
    · simp only [Act.put, List.setIfInBounds_toArray, List.set_cons_zero, List.set_cons_succ, i64_w, i32_w]
      rfl
    refine pure_ (i := 1) (N := some 41) (v := ?_) (a' := ?_) #[true, true, false, false, false] rfl rfl (by kernel_rfl) (fun _ _ _ h => h) (Or.inl ⟨by rfl, ?_⟩) ?_ ?_
    rotate_left
    · intro w'
      go_simp
      with_reducible rfl
    rotate_left
    · simp only [Act.put, List.setIfInBounds_toArray, List.set_cons_zero, List.set_cons_succ, i64_w, i32_w]
      rfl
    refine pure_ (i := 2) (N := some 42) (v := ?_) (a' := ?_) #[true, true, true, false, false] rfl rfl (by kernel_rfl) (fun _ _ _ h => h) (Or.inl ⟨by rfl, ?_⟩) ?_ ?_
    rotate_left
    · intro w'
      go_simp
      with_reducible rfl
    rotate_left
    · simp only [Act.put, List.setIfInBounds_toArray, List.set_cons_zero, List.set_cons_succ, i64_w, i32_w]
      rfl
    refine one_ (i := 3) (N := some 43) #[true, true, true, true, false] rfl rfl (by kernel_rfl) (by decide) (fun K hK => ?_)
    refine goes_ Try.func39 (by kernel_rfl) rfl #[.slice (some ⟨(w.heap.size + 1), 0, none⟩) 16 16, .slice A3 16 c3] (by rfl) rfl rfl (by simp only [List.map_toArray, List.map_cons, List.map_nil]; rfl) ?_
    with_reducible refine (HXR.out A3 c3 HC3.out _ (Kd.C_drew OB.out.C) (Kd.C_drew OA.out.C)).mono ?_
    rintro e w8 ⟨A5, c5, rfl, hc5, hn5, hb⟩
    refine ⟨_, rfl, ?_⟩
    have hb := below_step (below_drew (Below.refl w7.heap.size w7)) hb
    have OX := Aside0.mk hn5.C
    have OB := Aside0.mk (OB.out.below hb)
    have OM := Aside0.mk (OM.out.below hb)
    have M11 := Aside0.mk (Mem.below M11.out hb)
    have M12 := Aside0.mk (Mem.below M12.out hb)
    have HMM := Aside0.mk (Mem.below HMM.out hb)
    have HX := Aside0.mk (HX.out.below hb)
    have HC := Aside0.mk (Ch.step HC.out hb)
    clear hb hn5 hc5
    refine hK.out _ _ trivial (fun hHeld => ?_)
    clear hK K
    refine norm_ (a' := ?_) ?_ ?_
    rotate_left
    · show Act.put _ (some 43) _ = _
      simp only [Act.put, List.setIfInBounds_toArray, List.set_cons_zero, List.set_cons_succ, i64_w, i32_w]
      rfl
    refine one_ (i := 4) (N := some 44) #[true, true, true, true, true] rfl rfl (by kernel_rfl) (by decide) (fun K hK => ?_)
    refine step_copy16 (by rfl) (.tmp 40) (.tmp 43) 22 (by rfl) 5 Try.underlying22 size_u8 (by rfl) (by rfl) M11.out z16_length OX.out (by decide) (by decide) ?_
    refine hK.out _ _ trivial (fun hHeld => ?_)
    clear hK K
    refine norm_ (a' := ?_) ?_ ?_
    rotate_left
    · show Act.put _ (some 44) _ = _
      simp only [Act.put, List.setIfInBounds_toArray, List.set_cons_zero, List.set_cons_succ, i64_w, i32_w]
      rfl
    refine done_ (by kernel_rfl) ?_
    rw [show over z16 (ib x1) = ib x1 from over_all (by rw [HX1L.out]; rfl)]
    generalize hw9 : World.setRow w8 g11 _ = w9
    have M11 := Aside0.mk (show Mem .u8 w9 g11 31 (ib x1) by rw [← hw9]; exact Mem.put M11.out (ib x1))
    have M12 := Aside0.mk (show Mem .u8 w9 g12 31 z16 by rw [← hw9]; exact Mem.row M12.out HG.out.2.2.1 _)
    have HMM := Aside0.mk (show Mem .u8 w9 (w.heap.size + 1) 31 (ib b) by rw [← hw9]; exact Mem.row HMM.out HG.out.2.2.2.2.2.2.1.symm _)
    have OB := Aside0.mk (show OnL w9 bx g11 (some ⟨(w.heap.size + 1), 0, none⟩) 16 b by rw [← hw9]; exact OB.out.row (Nat.le_refl _) _)
    have OM := Aside0.mk (show OnL w9 bx g11 A2 L mm by rw [← hw9]; exact OM.out.row (Nat.le_refl _) _)
    have HX := Aside0.mk (show CphL w9 g bx g11 (roundKeys key) by rw [← hw9]; exact HX.out.row (Nat.le_refl _) _)
    have HC := Aside0.mk (show Ch bx w1 w9 by rw [← hw9]; exact Ch.row0 HC.out HG.out.2.2.2.1 _)
    clear hw9 OX OA HXR
    go_upto_region 10 with (first
      | ((with_reducible refine gate_dst (N := 46) rfl ?_); refine Mem.load M11.out rfl 31 (.tmp 11) rfl rfl Try.underlying31 (by rw [HX1L.out]; exact info16) ?_)
      | (go_at_call 31; go_loud ((refine (CB1.out _ _ _ HX.out.all).mono ?_); rintro e w10 ⟨rfl, hx, hc⟩; have OB := Aside0.mk (OB.out.ch hc); have OM := Aside0.mk (OM.out.ch hc); have M11 := Aside0.mk (memch M11.out hc HG.out.1); have M12 := Aside0.mk (memch M12.out hc HG.out.2.1); have HMM := Aside0.mk (memch HMM.out hc HGM.out); have HX := Aside0.mk (HX.out.ch hc hx.box); have HC := Aside0.mk (HC.out.trans hc); have Z13 := Aside0.mk (Mem.new .u8 w10 31 z16); have HG13 := Aside0.mk (show w10.heap.size ≠ bx by have := hx.bound.2.2.2; omega); clear hx hc))
      | ((with_reducible refine gate_store (t := 31) (p := 13) rfl ?_); refine Mem.store (l' := ib e1) Z13.out rfl 31 (.tmp 13) (.tmp 47) rfl rfl rfl (by first | exact info16 | (rw [E1L.out]; exact info16)) (by first | rfl | (rw [E1L.out]; rfl) | rw [z16_length, E1L.out]) ?_))
    generalize hw11 : World.setRow (World.alloc w10 _) _ _ = w11
    have M13 := Aside0.mk (show Mem .u8 w11 w10.heap.size 31 (ib e1) by rw [← hw11]; exact Mem.put Z13.out (ib e1))
    have hb11 : Below w10.heap.size w10 w11 := by rw [← hw11]; exact below_setRow (below_alloc (Below.refl w10.heap.size w10) (.cells (cellsOf .u8 z16) 31)) (Nat.le_refl _) _
    clear hw11 Z13 M11
    have HSZ := Aside0.mk (show g12 < w10.heap.size from (Array.getElem?_eq_some_iff.1 M12.out).1)
    have OB := Aside0.mk (OB.out.below hb11)
    have OM := Aside0.mk (OM.out.below hb11)
    have M12 := Aside0.mk (Mem.below M12.out hb11)
    have HMM := Aside0.mk (Mem.below HMM.out hb11)
    have HX := Aside0.mk (HX.out.below hb11)
    have HC := Aside0.mk (Ch.step HC.out hb11)
    clear hb11
    have HG13 := Aside0.mk (show w10.heap.size ≠ bx ∧ g12 ≠ w10.heap.size from ⟨HG13.out, Nat.ne_of_lt HSZ.out⟩)
    generalize w10.heap.size = g13 at HG13 M13 ⊢
    clear HSZ
    go_upto_region 11 with (first
      | ((with_reducible refine gate_dst (N := 49) rfl ?_); refine Mem.load HMM.out rfl 31 (.tmp 4) rfl rfl Try.underlying31 (by rw [HBL.out]; exact info16) ?_)
      | (go_at_call 31; go_loud ((refine (CB2.out _ _ _ HX.out.all).mono ?_); rintro e w12 ⟨rfl, hx, hc⟩; have OB := Aside0.mk (OB.out.ch hc); have OM := Aside0.mk (OM.out.ch hc); have M12 := Aside0.mk (memch M12.out hc HG.out.2.1); have M13 := Aside0.mk (memch M13.out hc HG13.out.1); have HX := Aside0.mk (HX.out.ch hc hx.box); have HC := Aside0.mk (HC.out.trans hc); clear hx hc))
      | ((with_reducible refine gate_store (t := 31) (p := 12) rfl ?_); refine Mem.store (l' := ib e2) M12.out rfl 31 (.tmp 12) (.tmp 50) rfl rfl rfl (by first | exact info16 | (rw [E2L.out]; exact info16)) (by first | rfl | (rw [E2L.out]; rfl) | rw [z16_length, E2L.out]) ?_))
    generalize hw13 : World.setRow w12 g12 _ = w13
    have M12 := Aside0.mk (show Mem .u8 w13 g12 31 (ib e2) by rw [← hw13]; exact Mem.put M12.out (ib e2))
    have M13 := Aside0.mk (show Mem .u8 w13 g13 31 (ib e1) by rw [← hw13]; exact Mem.row M13.out HG13.out.2 _)
    have OB := Aside0.mk (show OnL w13 bx g11 (some ⟨(w.heap.size + 1), 0, none⟩) 16 b by rw [← hw13]; exact OB.out.row HG.out.2.2.2.2.2.1 _)
    have OM := Aside0.mk (show OnL w13 bx g11 A2 L mm by rw [← hw13]; exact OM.out.row HG.out.2.2.2.2.2.1 _)
    have HX := Aside0.mk (show CphL w13 g bx g11 (roundKeys key) by rw [← hw13]; exact HX.out.row HG.out.2.2.2.2.2.1 _)
    have HC := Aside0.mk (show Ch bx w1 w13 by rw [← hw13]; exact Ch.row0 HC.out HG.out.2.2.2.2.1 _)
    clear hw13 CB1 CB2 HMM
    have HBQ := Aside0.mk (Below.refl w13.heap.size w13)
    have LIM1 := Aside0.mk (show ((ib ([] : List B)).length + 16) * 1 ≤ 140737488355328 by decide)
    have LIM2 := Aside0.mk (show ((ib ([] ++ b)).length + L) * 1 ≤ 140737488355328 by rw [ib_length, List.nil_append, hB16.out]; have := HL.out.2.2.2; omega)
    go_upto_region 12 with (first
      | ((with_reducible refine gate_dst (N := 52) rfl ?_); go_loud (refine Kd.R_lit (Kd.int .u8) w13.heap.size 5 ?hg (N := 52) ?hd (w0 := w13) (xs := ([] : List Int)) (inner := []) (ok := fun k => w13.heap.size ≤ k) (okp := fun _ => False) ?hr ?hp (fun _ hk => hk.elim) HBQ.out.size HBQ.out HBQ.out.size (by simp) ?_; (case hd => rfl); (case hg => rfl); (case hr => first | (go_simp; done) | (go_simp; rfl)); (case hp => exact (Reps.none _ _)); intro v5 w5 ho4 hb hg_ hnew_; have HBQ := Aside0.mk hb; have HO := Aside0.mk (show Kd.R (Kd.int .u8) 5 w5 w13.heap.size (fun k => w13.heap.size ≤ k) v5 (ib []) from ho4); clear hb ho4 hg_ hnew_))
      | ((with_reducible refine gate_builtin (b := .append) (xs := #[.tmp 52, .tmp 53]) rfl ?_); go_loud (refine Kd.R_append_rows (Kd.int .u8) (w0 := w13) w13.heap.size rfl (.tmp 52) (.tmp 53) 22 5 (.int .u8 0) 1 rfl Try.underlying22 info_u8 rfl (by decide) (by decide) _ (ib []) (ib b) (some ⟨(w.heap.size + 1), 0, none⟩) 16 16 (fun k => w13.heap.size ≤ k) (fun _ => False) rfl rfl HO.out ((OB.out.below HBQ.out).C) (fun _ _ h => h) (fun _ h => h.elim) (fun k hk => Nat.le_trans HBQ.out.size hk) HBQ.out HBQ.out.size ?aL ?_; (case aL => exact LIM1.out); intro v6 w6 ho hb hg hat; have HBQ := Aside0.mk hb; have HO := Aside0.mk (show Kd.R (Kd.int .u8) 5 w6 w13.heap.size (fun k => w13.heap.size ≤ k) v6 (ib ([] ++ b)) by rw [ib_append]; exact ho); clear ho hb hg hat))
      | ((with_reducible refine gate_builtin (b := .append) (xs := #[.tmp 54, .tmp 55]) rfl ?_); go_loud (refine Kd.R_append_rows (Kd.int .u8) (w0 := w13) w13.heap.size rfl (.tmp 54) (.tmp 55) 22 5 (.int .u8 0) 1 rfl Try.underlying22 info_u8 rfl (by decide) (by decide) _ (ib ([] ++ b)) (ib mm) A2 L c2 (fun k => w13.heap.size ≤ k) (fun _ => False) rfl rfl HO.out ((OM.out.below HBQ.out).C) (fun _ _ h => h) (fun _ h => h.elim) (fun k hk => Nat.le_trans HBQ.out.size hk) HBQ.out HBQ.out.size ?aL ?_; (case aL => exact LIM2.out); intro v6 w6 ho hb hg hat; have HBQ := Aside0.mk hb; have HO := Aside0.mk (show Kd.R (Kd.int .u8) 5 w6 w13.heap.size (fun k => w13.heap.size ≤ k) v6 (ib (([] ++ b) ++ mm)) by rw [ib_append]; exact ho); clear ho hb hg hat))
      | (go_at_call 40; go_loud (have hbq_ := HBQ.out; have hs_ := HX.out.all.bound.2.2.2; have OB := Aside0.mk (OB.out.below hbq_); have OM := Aside0.mk (OM.out.below hbq_); have M12 := Aside0.mk (Mem.below M12.out hbq_); have M13 := Aside0.mk (Mem.below M13.out hbq_); have HX := Aside0.mk (HX.out.below hbq_); have HC := Aside0.mk (Ch.step HC.out hbq_); have hro_ := row_new HO.out (n := 16 + L) (by rw [List.nil_append, List.length_append, hB16.out, HL.out.1]); obtain ⟨Aq, cq, rfl, hcq, hnr⟩ := hro_; (refine (CS.out _ _ (b ++ mm) (16 + L) (by have := HL.out.2.2.2; omega) Aq cq hcq _ (hnr.on hs_) HX.out.all).mono ?_); rintro e w15 ⟨NL, rfl, hN, hF, hx, hc⟩; have OB := Aside0.mk (OB.out.ch hc); have OM := Aside0.mk (OM.out.ch hc); have M12 := Aside0.mk (memch M12.out hc HG.out.2.1); have M13 := Aside0.mk (memch M13.out hc HG13.out.1); have HX := Aside0.mk (HX.out.ch hc hx.box); have HC := Aside0.mk (HC.out.trans hc); have OLG := Aside0.mk hF.bound; clear hN hF hx hc hbq_ hs_ hnr hcq HO HBQ)))
    clear LIM1 LIM2
    obtain ⟨nz, hnz⟩ : ∃ z, z = (zipX e2 mm).length := ⟨_, rfl⟩
    have HNZ := Aside0.mk (show nz = min 16 L ∧ nz ≤ 16 ∧ nz ≤ L by rw [hnz, zipX_length, E2B.out, HL.out.1]; omega)
    have HXR2 := Aside0.mk (fun (A1 A2 : Option Addr) (c1 c2 : Nat) (hc1 : 16 ≤ c1) (hc2 : L ≤ c2) W h1 h2 => rxor_c e2 mm 16 L nz E2B.out HL.out.1 hnz.symm (by decide) A1 A2 c1 c2 hc1 hc2 W h1 h2)
    obtain ⟨hd, hhd⟩ : ∃ z, z = zipX e2 mm := ⟨_, rfl⟩
    have HGM2 := Aside0.mk (fun h => HGO.out mm (show 16 ≤ mm.length from h))
    rw [← hhd] at HXR2 HGM2 hnz
    have HHL := Aside0.mk hnz.symm
    have E2L := Aside0.mk (show (ib e2).length = 16 from E2L.out)
    clear hhd hnz HGO
    go_upto_region 13 with (first
      | (go_at_call 39; go_loud ((refine (HXR2.out _ _ _ _ (by decide) HL.out.2.1 _ (mem_row16 M12.out E2L.out) OM.out.C).mono ?_); rintro e w16 ⟨A6, c6, rfl, hc6, hn6, hb⟩; have OH := Aside0.mk (hn6.on HX.out.all.bound.2.2.2).bound; have hs_ := Aside0.mk (Nat.lt_of_lt_of_le HX.out.all.bound.2.2.2 hb.size); have OB := Aside0.mk (OB.out.below hb); have OM := Aside0.mk (OM.out.below hb); have OLG := Aside0.mk (OLG.out.below hb); have M12 := Aside0.mk (Mem.below M12.out hb); have M13 := Aside0.mk (Mem.below M13.out hb); have HX := Aside0.mk (HX.out.below hb); have HC := Aside0.mk (Ch.step HC.out hb); clear hb hn6 hc6 hs_)))
    clear HXR2 M12
    have HBQ := Aside0.mk (Below.refl w16.heap.size w16)
    have LIM1 := Aside0.mk (show ((ib ([] : List B)).length + nz) * 1 ≤ 140737488355328 by have := HNZ.out.2.1; simp only [ib_nil, List.length_nil]; omega)
    go_upto_region 14 with (first
      | ((with_reducible refine gate_dst (N := 61) rfl ?_); go_loud (refine Kd.R_lit (Kd.int .u8) w16.heap.size 5 ?hg (N := 61) ?hd (w0 := w16) (xs := ([] : List Int)) (inner := []) (ok := fun k => w16.heap.size ≤ k) (okp := fun _ => False) ?hr ?hp (fun _ hk => hk.elim) HBQ.out.size HBQ.out HBQ.out.size (by simp) ?_; (case hd => rfl); (case hg => rfl); (case hr => first | (go_simp; done) | (go_simp; rfl)); (case hp => exact (Reps.none _ _)); intro v5 w5 ho4 hb hg_ hnew_; have HBQ := Aside0.mk hb; have HO := Aside0.mk (show Kd.R (Kd.int .u8) 5 w5 w16.heap.size (fun k => w16.heap.size ≤ k) v5 (ib []) from ho4); clear hb ho4 hg_ hnew_))
      | ((with_reducible refine gate_builtin (b := .append) (xs := #[.tmp 61, .tmp 62]) rfl ?_); go_loud (refine Kd.R_append_rows (Kd.int .u8) (w0 := w16) w16.heap.size rfl (.tmp 61) (.tmp 62) 22 5 (.int .u8 0) 1 rfl Try.underlying22 info_u8 rfl (by decide) (by decide) _ (ib []) (ib hd) A6 nz c6 (fun k => w16.heap.size ≤ k) (fun _ => False) rfl rfl HO.out ((OH.out.below HBQ.out).C) (fun _ _ h => h) (fun _ h => h.elim) (fun k hk => Nat.le_trans HBQ.out.size hk) HBQ.out HBQ.out.size ?aL ?_; (case aL => exact LIM1.out); intro v6 w6 ho hb hg hat; have HBQ := Aside0.mk hb; have HO := Aside0.mk (show Kd.R (Kd.int .u8) 5 w6 w16.heap.size (fun k => w16.heap.size ≤ k) v6 (ib ([] ++ hd)) by rw [ib_append]; exact ho); clear ho hb hg hat)))
    have hs_ := HX.out.all.bound.2.2.2
    have hbq_ := HBQ.out
    have HWS := Aside0.mk hs_
    clear LIM1 hs_
    have hL3 : L < 16 ∨ L = 16 ∨ 16 < L := by omega
    rcases hL3 with h3 | h3 | h3
    case' inl =>
      have l1 : ¬ (16 : Int) < (L : Int) := by omega
      have l2 : decide ((L : Int) < 16) = true := by rw [decide_eq_true_iff]; omega
      have HEQ := Aside0.mk (show ((L : Int) < 16) ∨ cmacB E (b ++ mm) = cmacB E ([] ++ hd) from .inl (by omega))
      have HRL := Aside0.mk (show ([] ++ hd).length = nz ∧ nz ≤ 600 from ⟨HHL.out, by have := HNZ.out.2.1; omega⟩)
      clear h3
      go_upto_region 16 with (fail)
      obtain ⟨rs, nr, hrs, hnr⟩ : ∃ rs nr, rs = ([] ++ hd : List B) ∧ nr = nz := ⟨_, _, rfl, rfl⟩
      rw [← hrs, ← hnr] at HRL
      rw [← hrs] at HEQ HO
    case' inr.inl =>
      have l1 : ¬ (16 : Int) < (L : Int) := by omega
      have l2 : decide ((L : Int) < 16) = false := by rw [decide_eq_false_iff_not]; omega
      have HEQ := Aside0.mk (show ((L : Int) < 16) ∨ cmacB E (b ++ mm) = cmacB E ([] ++ hd) by
        refine .inr ?_
        rw [HGM2.out (by rw [HL.out.1]; omega), List.drop_eq_nil_of_le (by rw [HL.out.1]; omega), List.append_nil, List.nil_append])
      have HRL := Aside0.mk (show ([] ++ hd).length = nz ∧ nz ≤ 600 from ⟨HHL.out, by have := HNZ.out.2.1; omega⟩)
      clear h3
      go_upto_region 16 with (fail)
      obtain ⟨rs, nr, hrs, hnr⟩ : ∃ rs nr, rs = ([] ++ hd : List B) ∧ nr = nz := ⟨_, _, rfl, rfl⟩
      rw [← hrs, ← hnr] at HRL
      rw [← hrs] at HEQ HO
    case' inr.inr =>
      have l1 : (16 : Int) < (L : Int) := by omega
      have l2 : decide ((L : Int) < 16) = false := by rw [decide_eq_false_iff_not]; omega
      have l3 : (16 : Int) ≤ (L : Int) := by omega
      have l4 : (L : Int) ≤ (c2 : Int) := by have := HL.out.2.1; omega
      have l5 : (16 : Int) ≤ (c2 : Int) := by omega
      have l6 : (c2 = 16) = False := by apply eq_false; omega
      have HEQ := Aside0.mk (show ((L : Int) < 16) ∨ cmacB E (b ++ mm) = cmacB E (([] ++ hd) ++ mm.drop 16) from .inr (by rw [HGM2.out (by rw [HL.out.1]; omega), List.nil_append]))
      have HRL := Aside0.mk (show (([] ++ hd) ++ mm.drop 16).length = L ∧ L ≤ 600 by
        rw [List.nil_append, List.length_append, HHL.out, List.length_drop, HL.out.1]
        have h1 := HNZ.out.1
        have h2 := HL.out.2.2.2
        omega)
      obtain ⟨ad, rfl⟩ := OnL.addr OM.out (by omega)
      have OMC := Aside0.mk (OM.out.cut (m := 16) (c := c2) (by omega) HL.out.2.1)
      have LIM := Aside0.mk (show ((ib ([] ++ hd)).length + (L - 16)) * 1 ≤ 140737488355328 by
        rw [ib_length, List.nil_append, HHL.out]
        have h1 := HNZ.out.2.1
        have h2 := HL.out.2.2.2
        omega)
      clear h3
      go_upto_region 16 with (first
        | ((with_reducible refine gate_builtin (b := .append) (xs := #[.tmp 67, .tmp 69]) rfl ?_); go_loud (refine Kd.R_append_rows (Kd.int .u8) (w0 := w16) w16.heap.size rfl (.tmp 67) (.tmp 69) 22 5 (.int .u8 0) 1 rfl Try.underlying22 info_u8 rfl (by decide) (by decide) _ (ib ([] ++ hd)) (ib (mm.drop 16)) (some (ad.add 16)) (L - 16) (c2 - 16) (fun k => w16.heap.size ≤ k) (fun _ => False) rfl rfl HO.out ((OMC.out.below HBQ.out).C) (fun _ _ h => h) (fun _ h => h.elim) (fun k hk => Nat.le_trans HBQ.out.size hk) HBQ.out HBQ.out.size ?aL ?_; (case aL => exact LIM.out); intro v6 w6 ho hb hg hat; have HBQ := Aside0.mk hb; have HO := Aside0.mk (show Kd.R (Kd.int .u8) 5 w6 w16.heap.size (fun k => w16.heap.size ≤ k) v6 (ib (([] ++ hd) ++ (mm.drop 16))) by rw [ib_append]; exact ho); clear ho hb hg hat)))
      obtain ⟨rs, nr, hrs, hnr⟩ : ∃ rs nr, rs = ([] ++ hd) ++ mm.drop 16 ∧ nr = L := ⟨_, _, rfl, rfl⟩
      rw [← hrs, ← hnr] at HRL
      rw [← hrs] at HEQ HO
      clear LIM OMC l3 l4 l5 l6
    all_goals
      clear hrs hnr HGM2 HHL HNZ OM OH hbq_ l1
      have hbq_ := HBQ.out
      obtain ⟨A7, c7, rfl, hc7, hn7⟩ := row_new HO.out HRL.out.1
      have OR7 := Aside0.mk (hn7.on HWS.out).bound
      have HC7 := Aside0.mk hc7
      have OB := Aside0.mk (OB.out.below hbq_)
      have OLG := Aside0.mk (OLG.out.below hbq_)
      have M13 := Aside0.mk (Mem.below M13.out hbq_)
      have HX := Aside0.mk (HX.out.below hbq_)
      have HC := Aside0.mk (Ch.step HC.out hbq_)
      clear hbq_ HO HBQ hn7 hc7
      have CSM := Aside0.mk (fun (A1 A2 : Option Addr) (c1 c2 : Nat) (hc1 : 16 ≤ c1) (hc2 : 16 ≤ c2) W h1 h2 => rsame_c (cmacB E b) e1 true (decide_eq_true HONE.out) 16 16 A1 A2 c1 c2 hc1 hc2 W h1 h2)
      have E1L := Aside0.mk (show (ib e1).length = 16 from E1L.out)
      clear HONE
      refine start_ (n := 6) (S := fun w' => True) (ds := []) #[false, false, false, false, false, false] (by kernel_rfl) rfl rfl trivial (fun hHeld => ?_)
      refine pure_ (i := 0) (N := some 71) (v := ?_) (a' := ?_) #[true, false, false, false, false, false] rfl rfl (by kernel_rfl) (fun _ _ _ h => h) (Or.inl ⟨by rfl, ?_⟩) ?_ ?_
      rotate_left
      · intro w'
        go_simp
        with_reducible rfl
      rotate_left
      · simp only [Act.put, List.setIfInBounds_toArray, List.set_cons_zero, List.set_cons_succ, i64_w, i32_w]
        rfl
      refine pure_ (i := 1) (N := some 72) (v := ?_) (a' := ?_) #[true, true, false, false, false, false] rfl rfl (by kernel_rfl) (fun _ _ _ h => h) (Or.inl ⟨by rfl, ?_⟩) ?_ ?_
      rotate_left
      · intro w'
        go_simp
        with_reducible rfl
      rotate_left
      · simp only [Act.put, List.setIfInBounds_toArray, List.set_cons_zero, List.set_cons_succ, i64_w, i32_w]
        rfl
      refine pure_ (i := 3) (N := some 74) (v := ?_) (a' := ?_) #[true, true, false, true, false, false] rfl rfl (by kernel_rfl) (fun _ _ _ h => h) (Or.inl ⟨by rfl, ?_⟩) ?_ ?_
      rotate_left
      · intro w'
        go_simp
        with_reducible rfl
      rotate_left
      · simp only [Act.put, List.setIfInBounds_toArray, List.set_cons_zero, List.set_cons_succ, i64_w, i32_w]
        rfl
      refine one_ (i := 2) (N := some 73) #[true, true, true, true, false, false] rfl rfl (by kernel_rfl) (by decide) (fun K hK => ?_)
      refine goes_ Try.func40 (by kernel_rfl) rfl #[.pointer (some ⟨g, 0, none⟩), .slice (some ⟨(w.heap.size + 1), 0, none⟩) 16 16] (by rfl) rfl rfl (by simp only [List.map_toArray, List.map_cons, List.map_nil]; rfl) ?_
      with_reducible refine (CS.out g bx b 16 (by decide) (some ⟨(w.heap.size + 1), 0, none⟩) 16 (by decide) _ (Kd.F_drew OB.out.on) (Cph.below HX.out.all (below_drew (Below.refl _ _)))).mono ?_
      rintro e w18 ⟨N8, rfl, _, hF, hx, hc⟩
      refine ⟨_, rfl, ?_⟩
      have hb_ := below_drew (Below.refl w6.heap.size w6)
      have OLG := Aside0.mk (OLG.out.below hb_)
      have OR7 := Aside0.mk (OR7.out.below hb_)
      have M13 := Aside0.mk (Mem.below M13.out hb_)
      have HX := Aside0.mk (HX.out.below hb_)
      have HC := Aside0.mk (Ch.step HC.out hb_)
      clear hb_
      have OS8 := Aside0.mk hF
      have OLG := Aside0.mk (OLG.out.ch hc)
      have OR7 := Aside0.mk (OR7.out.ch hc)
      have M13 := Aside0.mk (memch M13.out hc HG13.out.1)
      have HX := Aside0.mk (HX.out.ch hc hx.box)
      have HC := Aside0.mk (HC.out.trans hc)
      clear hF hx hc
      refine hK.out _ _ trivial (fun hHeld => ?_)
      clear hK K
      refine norm_ (a' := ?_) ?_ ?_
      rotate_left
      · show Act.put _ (some 73) _ = _
        simp only [Act.put, List.setIfInBounds_toArray, List.set_cons_zero, List.set_cons_succ, i64_w, i32_w]
        rfl
      refine one_ (i := 4) (N := some 75) #[true, true, true, true, true, false] rfl rfl (by kernel_rfl) (by decide) (fun K hK => ?_)
      refine goes_ Try.func41 (by kernel_rfl) rfl #[.slice (some ⟨N8, 0, none⟩) 16 16, .slice (some ⟨g13, 0, none⟩) 16 16] (by rfl) rfl rfl (by simp only [List.map_toArray, List.map_cons, List.map_nil]; rfl) ?_
      with_reducible refine (CSM.out (some ⟨N8, 0, none⟩) (some ⟨g13, 0, none⟩) 16 16 (by decide) (by decide) _ OS8.out.C (mem_row16 M13.out E1L.out)).mono ?_
      rintro e w19 ⟨rfl, hb⟩
      refine ⟨_, rfl, ?_⟩
      have OLG := Aside0.mk (OLG.out.below hb)
      have OR7 := Aside0.mk (OR7.out.below hb)
      have HX := Aside0.mk (HX.out.below hb)
      have HC := Aside0.mk (Ch.step HC.out hb)
      clear hb
      refine hK.out _ _ trivial (fun hHeld => ?_)
      clear hK K
      refine norm_ (a' := ?_) ?_ ?_
      rotate_left
      · show Act.put _ (some 75) _ = _
        simp only [Act.put, List.setIfInBounds_toArray, List.set_cons_zero, List.set_cons_succ, i64_w, i32_w]
        rfl
      refine pure_ (i := 5) (N := some 76) (v := ?_) (a' := ?_) #[true, true, true, true, true, true] rfl rfl (by kernel_rfl) (fun _ _ _ h => h) (Or.inl ⟨by rfl, ?_⟩) ?_ ?_
      rotate_left
      · intro w'
        go_simp
        with_reducible rfl
      rotate_left
      · simp only [Act.put, List.setIfInBounds_toArray, List.set_cons_zero, List.set_cons_succ, i64_w, i32_w]
        rfl
      refine done_ (by kernel_rfl) ?_
      go_wp2_with (first
        | (go_at_call 40; (try (refine gate_guard (by rfl) ?_; dsimp only)); go_loud ((refine (CS.out _ _ rs nr (by have := HRL.out.2; omega) A7 c7 HC7.out _ OR7.out.on HX.out.all).mono ?_); rintro e w20 ⟨N9, rfl, _, hF, hx, hc⟩; have OS9 := Aside0.mk hF; have OLG := Aside0.mk (OLG.out.ch hc); have HX := Aside0.mk (HX.out.ch hc hx.box); have HC := Aside0.mk (HC.out.trans hc); clear hF hx hc))
        | (go_at_call 41; (try (refine gate_guard (by rfl) ?_; dsimp only)); go_loud ((refine (rsame_c (cmacB E (b ++ mm)) (cmacB E rs) true (decide_eq_true (HEQ.out.resolve_left (by simpa using l2))) 16 16 _ _ _ _ (by decide) (by decide) _ OLG.out.C OS9.out.C).mono ?_); rintro e w21 ⟨rfl, hb⟩; have HX := Aside0.mk (HX.out.below hb); have HC := Aside0.mk (Ch.step HC.out hb); clear hb))
        | (go_at_call 42; (try (refine gate_guard (by rfl) ?_; dsimp only)); go_loud ((refine (CA.out _).mono ?_); rintro e w22 ⟨rfl, hb⟩; have HX := Aside0.mk (HX.out.below hb); have HC := Aside0.mk (Ch.step HC.out hb); clear hb)))
      go_ret
      exact ⟨rfl, HC.out.below HB.out HB.out.size (by have := HBX.out; omega)⟩
end Go.Proofs.Ytpdikfmdnlhllaa.Aes
namespace Go.Proofs.Ytpdikfmdnlhllaa.Aes
open Go.RowKit Go.Proofs.YtpdikfmdnlhllaaW.PrintWords Byte Sl Arr Mem AesMath
theorem cgoes_walk (l0 l1 : List Int) (a2 : Option Addr) (len2 cap2 : Nat) (z2 : List Int) (w : World) (n0 : l0.length = 16) (w0 : ∀ x ∈ l0, (Lit.int .u8 x).wf = true) (n1 : l1.length = 16) (w1 : ∀ x ∈ l1, (Lit.int .u8 x).wf = true) (w2 : Slices.IsRow .u8 w a2 len2 cap2 z2) (y2 : len2 * 1 ≤ 140737488351232) :
    Calls Try.prog 7 #[Arr.arrV .u8 l0, Arr.arrV .u8 l1, .slice a2 len2 cap2] w fun e w' => e = .returned (.bool true) ∧ Below w.heap.size w w' := by
  obtain ⟨hsl, hlen, hwf⟩ := w2.sl
  obtain ⟨A, c, hv, hc, hC⟩ := hsl
  injection hv with e1 e2 e3
  subst e1
  subst e3
  obtain ⟨m, hm⟩ := ib_of (fun x hx => wf_u8 (hwf x hx))
  obtain ⟨k, rfl⟩ := ib_of (fun x hx => wf_u8 (w0 x hx))
  obtain ⟨b, rfl⟩ := ib_of (fun x hx => wf_u8 (w1 x hx))
  rw [ib_length] at n0 n1
  rw [hm, ib_length] at hlen
  rw [hm, ib_length] at hC hc
  rw [arrV_eq, arrV_eq]
  subst hlen
  exact cgoes_c k b m n0 n1 m.length a2 cap2 hc w hC
end Go.Proofs.Ytpdikfmdnlhllaa.Aes
