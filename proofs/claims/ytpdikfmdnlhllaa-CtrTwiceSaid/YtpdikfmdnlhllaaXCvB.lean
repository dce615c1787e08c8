/-
  Merged texts, what is reached of them: KeyMade, Append, KeyExp, AesNew, RefWords, RefWord, RefExp, AesAwk, KeyAwk, KeyTell, RefBlk: walks and plain lemmas; no condition.
-/
import Derived.Test.YtpdikfmdnlhllaaXCvA
import Derived.Test.YtpdikfmdnlhllaaXAesKit
import Derived.Test.YtpdikfmdnlhllaaWArr
import Derived.Deep.MidRow
import Derived.Test.YtpdikfmdnlhllaaXSlices
namespace Go.Proofs.Ytpdikfmdnlhllaa.Aes
open Go.RowKit Go.Proofs.Ytpdikfmdnlhllaa.PNib Go.Proofs.YtpdikfmdnlhllaaW.PrintWords Go.Proofs.YtpdikfmdnlhllaaW.PrintLast Go.Proofs.YtpdikfmdnlhllaaW.PrintMore Byte Sl Arr Mem Gives ArrEq Mat AesMath AesMov AesLin HandKit
set_option linter.unusedVariables false
set_option linter.unusedSimpArgs false
theorem mark_c (n : Int) (h : n < 9223372036854775808) (h0 : -9223372036854775808 ≤ n) : Gives 16 #[.int .i64 n] (.int .u8 (markI n)) := fun w => keys_Mark.calls 100 _ _ w (mark_i n h h0)
theorem Ch.belowB {bx : Nat} {w W w1 : World} (h : Ch bx w W) (hb : Below w.heap.size W w1) : Ch bx w w1 :=
  ⟨hb.os.trans h.os, hb.tape.trans h.tape, hb.output.trans h.output, Nat.le_trans h.size hb.size, fun i hi hne => (hb.block i hi).trans (h.block i hi hne)⟩
theorem BoxS.belowB {bx n : Nat} {W w1 : World} (h : BoxS W bx) (hb : Below n W w1) (hn : bx < n) : BoxS w1 bx := by
  rcases h with h | ⟨F, h, r⟩
  · exact Or.inl ((hb.block _ hn).trans h)
  · exact Or.inr ⟨F, (hb.block _ hn).trans h, r⟩
theorem q_small {q : Nat} (h : q < 100) : -9223372036854775808 ≤ (q : Int) ∧ (q : Int) < 9223372036854775808 ∧ q < 9223372036854775808 := by omega
set_option maxHeartbeats 4000000 in
set_option maxRecDepth 100000 in
theorem made_c (w4 : List B) (hw4 : w4.length = 4) (i k : Nat) (hk0 : 0 < k) (hk8 : k ≤ 8) (hi : i < 100) (bx : Nat) (A : Option Addr) (c : Nat) (hc : 4 ≤ c) (w : World) (hC : Kd.C (Kd.int .u8) w A 4 (ib w4)) (hX : BoxS w bx) : Calls Try.prog 67 #[.pointer (some ⟨bx, 0, none⟩), .slice A 4 c, .int .i64 (i : Int), .int .i64 (k : Int)] w fun e w' => ∃ v, e = .returned v ∧ Ow w' w.heap.size v (ib (madeB w4 i k)) ∧ BoxS w' bx ∧ Ch bx w w' := by
  have HL := Aside0.mk (show (ib w4).length = 4 by rw [ib_length, hw4])
  have HCC := Aside0.mk hC
  have HX := Aside0.mk hX
  have HXL := Aside0.mk hX.lt
  have HB := Aside0.mk (Below.refl w.heap.size w)
  obtain ⟨m, hm⟩ : ∃ m, m = i % k := ⟨_, rfl⟩
  obtain ⟨q, hq⟩ : ∃ q, q = i / k := ⟨_, rfl⟩
  have ht1 : Int.tmod (i : Int) (k : Int) = (m : Int) := by rw [Int.tmod_eq_emod_of_nonneg (by omega), hm]; rfl
  have ht2 : (i : Int) % (k : Int) = (m : Int) := by rw [hm]; rfl
  have hd1 : Int.tdiv (i : Int) (k : Int) = (q : Int) := by rw [Int.tdiv_eq_ediv_of_nonneg (by omega), hq]; rfl
  have hd2 : (i : Int) / (k : Int) = (q : Int) := by rw [hq]; rfl
  have hkz : ((k : Int) = 0) = False := by apply eq_false; omega
  have hkz2 : ((k : Int) == 0) = false := by rw [beq_eq_false_iff_ne]; omega
  have hkz3 : (k = 0) = False := by apply eq_false; omega
  clear hC hX
  have hmk : m < k := by rw [hm]; exact Nat.mod_lt _ hk0
  by_cases hz : m = 0
  · have hres : madeB w4 i k = (([w4.getD 1 0#8, w4.getD 2 0#8, w4.getD 3 0#8, w4.getD 0 0#8] : List B).map subB).set 0 (subB (w4.getD 1 0#8) ^^^ AesMath.mark q) := by
      unfold madeB
      rw [if_pos (by rw [← hm]; exact hz), hq]
      rfl
    rw [hres]
    obtain ⟨xt, hxt⟩ : ∃ z, z = ([w4.getD 1 0#8, w4.getD 2 0#8, w4.getD 3 0#8, w4.getD 0 0#8] : List B) := ⟨_, rfl⟩
    have HXT := Aside0.mk (show (ib w4).drop 1 ++ [I8 (w4.getD 0 0#8)] = ib xt by
      rw [hxt]
      match w4, hw4 with
      | [p0, p1, p2, p3], _ => rfl)
    have HLX := Aside0.mk (show xt.length = 4 by rw [hxt]; rfl)
    have HYT := Aside0.mk (show subB (w4.getD 1 0#8) = (xt.map subB).getD 0 0#8 by rw [hxt]; rfl)
    rw [← hxt, HYT.out]
    clear hxt HYT
    obtain ⟨a0, rfl, hx0⟩ := Kd.at_int HCC.out (0 : Int) (by decide) (by decide)
    have HX0 := Aside0.mk (show w.cell? a0 = some (.int .u8 (I8 (w4.getD 0 0#8))) from by
      have h := hx0.trans (show some (Value.int .u8 ((ib w4).getD 0 0)) = some (.int .u8 (I8 (w4.getD 0 0#8))) by rw [ib_getD])
      rwa [show a0.add (Int.toNat 0) = a0 by simp [Addr.add]] at h)
    have HQ := Aside0.mk (show -9223372036854775808 ≤ (q : Int) ∧ (q : Int) < 9223372036854775808 ∧ q < 9223372036854775808 from q_small (by rw [hq]; exact Nat.lt_of_le_of_lt (Nat.div_le_self i k) hi))
    clear hx0 hres hm hq
    subst hz
    go_enter Try.func67, Try.ntmps67
    go_wp2_with (first
      | ((with_reducible refine gate_dst (N := 13) rfl ?_); refine Kd.R_lit (Kd.int .u8) w.heap.size 5 ?hg (N := 13) ?hd (w0 := w) (xs := ([] : List Int)) (inner := []) (ok := fun k => w.heap.size ≤ k) (okp := fun _ => False) ?hr ?hp (fun _ hk => hk.elim) HB.out.size HB.out HB.out.size (by simp) ?_; (case hd => rfl); (case hg => rfl); (case hr => first | (go_simp; done) | (go_simp; rfl)); (case hp => exact (Reps.none _ _)); intro v1 w3 ho4 hb hg_ hnew_; have HB := Aside0.mk hb; obtain ⟨Av, cv, rfl, hcv, hrd⟩ := Kd.R_reads ho4; have HO := Aside0.mk ho4; clear hb ho4 hg_ hnew_ hrd hcv)
      | ((with_reducible refine gate_builtin (b := .append) (xs := #[.tmp 13, .tmp 14]) rfl ?_); refine Kd.R_append_rows (Kd.int .u8) (w0 := w) w.heap.size rfl (.tmp 13) (.tmp 14) 22 5 (.int .u8 0) 1 rfl Try.underlying22 info_u8 rfl (by decide) (by omega) _ [] (ib w4) (some a0) _ _ (fun k => w.heap.size ≤ k) (fun _ => False) rfl rfl HO.out (show ReadsRow _ _ _ _ _ _ from Kd.C_below HCC.out HB.out) (fun _ _ h => h) (fun _ h => h.elim) (fun k hk => Nat.le_trans HB.out.size hk) HB.out HB.out.size ?aL ?_; (case aL => exact (by simp only [List.length_nil]; omega)); intro v2 w5 ho hb hg hat; have HB := Aside0.mk hb; have ho' : Ow w5 w.heap.size v2 (ib w4) := Ow.of_R ho (Nat.le_refl _); obtain ⟨go, oo, co, hv, _⟩ := Kd.Q_form ho' (by rw [HL.out]; decide); rw [HL.out] at hv; subst hv; have HO2 := Aside0.mk ho'; clear HO ho ho' hb hg hat))
    have HCO := Aside0.mk (Kd.Q_reads' HO2.out).2.1
    have hco1 : (co = 1) = False := by apply eq_false; have := HCO.out; omega
    have hx := show _ = some (Value.int .u8 (I8 (w4.getD 0 0#8))) from pw_cell_below (below_drew HB.out) HX0.out
    go_wp2
    generalize w4.getD 0 0#8 = x0 at *
    refine start_ (n := 8) (S := fun w' => w'.cell? a0 = some (.int .u8 (I8 x0))) (ds := []) #[false, false, false, false, false, false, false, false] (by kernel_rfl) rfl rfl (hx) (fun hHeld => ?_)
    refine pure_ (i := 0) (N := some 21) (v := ?_) (a' := ?_) #[true, false, false, false, false, false, false, false] rfl rfl (by kernel_rfl) (fun _ _ _ h => h) (Or.inl ⟨by rfl, ?_⟩) ?_ ?_
    rotate_left
    · intro w'
      go_simp
      with_reducible rfl
    rotate_left
    · simp only [Act.put, List.setIfInBounds_toArray, List.set_cons_zero, List.set_cons_succ, i64_w, i32_w]
      rfl
    refine pure_ (i := 1) (N := some 22) (v := ?_) (a' := ?_) #[true, true, false, false, false, false, false, false] rfl rfl (by kernel_rfl) (fun _ _ _ h => h) (Or.inl ⟨by rfl, ?_⟩) ?_ ?_
    rotate_left
    · intro w'
      go_simp
      with_reducible rfl
    rotate_left
    · simp only [Act.put, List.setIfInBounds_toArray, List.set_cons_zero, List.set_cons_succ, i64_w, i32_w]
      rfl
    refine pure_ (i := 2) (N := some 23) (v := ?_) (a' := ?_) #[true, true, true, false, false, false, false, false] rfl rfl (by kernel_rfl) (fun _ _ _ h => h) (Or.inl ⟨by rfl, ?_⟩) ?_ ?_
    rotate_left
    · intro w'
      go_simp
      with_reducible rfl
    rotate_left
    · simp only [Act.put, List.setIfInBounds_toArray, List.set_cons_zero, List.set_cons_succ, i64_w, i32_w]
      rfl
    refine pure_ (i := 3) (N := some 24) (v := ?_) (a' := ?_) #[true, true, true, true, false, false, false, false] rfl rfl (by kernel_rfl) (fun _ _ _ h => h) (Or.inl ⟨by rfl, ?_⟩) ?_ ?_
    rotate_left
    · intro w'
      go_simp
      with_reducible rfl
    rotate_left
    · simp only [Act.put, List.setIfInBounds_toArray, List.set_cons_zero, List.set_cons_succ, i64_w, i32_w]
      rfl
    refine take_ (i := 4) (N := some 25) (v := ?_) (a' := ?_) #[true, true, true, true, true, false, false, false] rfl rfl (by kernel_rfl) (fun _ _ _ h => h) (Or.inl ⟨by rfl, ?_⟩) hHeld ?_ ?_
    rotate_left
    · intro w' s0
      go_simp
      with_reducible rfl
    rotate_left
    · simp only [Act.put, List.setIfInBounds_toArray, List.set_cons_zero, List.set_cons_succ, i64_w, i32_w]
      rfl
    refine one_ (i := 5) (N := some 26) #[true, true, true, true, true, true, false, false] rfl rfl (by kernel_rfl) (by decide) (fun K hK => ?_)
    refine value_ (w1 := ?_) (v := ?_) (by rfl) rfl ?_ ?_
    rotate_left 2
    · go_simp
      constructor
      · rfl
      · rfl
    refine hK.out _ _ ((pw_cell_below (below_alloc (below_drew HB.out) _) HX0.out)) (fun hHeld => ?_)
    clear hK K
    refine norm_ (a' := ?_) ?_ ?_
    rotate_left
    · show Act.put _ (some 26) _ = _
      simp only [Act.put, List.setIfInBounds_toArray, List.set_cons_zero, List.set_cons_succ, i64_w, i32_w]
      rfl
    refine one_ (i := 6) (N := some 27) #[true, true, true, true, true, true, true, false] rfl rfl (by kernel_rfl) (by decide) (fun K hK => ?_)
    rw [show (w5.alloc (.cells #[.int .u8 (I8 x0)] 5)).drew = (w5.drew).alloc (.cells [Value.int .u8 (I8 x0)].toArray 5) from rfl]
    refine Kd.Q_append_step (Kd.int .u8) (w0 := w) w.heap.size (by rfl) (.tmp 22) (.tmp 26) 22 5 (.int .u8 0) 1 rfl Try.underlying22 info_u8 rfl (by decide) (by omega) (.slice (some ⟨go, oo + 1, none⟩) 3 (co - 1)) ((ib w4).drop 1) (I8 x0) [.int .u8 (I8 x0)] (fun k => w.heap.size ≤ k) (fun _ => False) rfl rfl ?aP (fun _ hk => hk.elim) ?aF ?aO ?aB ?aS ?aL ?_
    (case aP => exact rfl)
    (case aF => exact (fun k hk => Nat.le_trans (below_drew HB.out).size hk))
    (case aO => exact (by have h := Kd.Q_drop (k := 1) HO2.out.drew (by rw [HL.out]; decide); rw [if_neg (by have := HCO.out; omega)] at h; exact h))
    (case aB => exact below_drew HB.out)
    (case aS => exact (below_drew HB.out).size)
    (case aL => rw [List.length_drop, HL.out]; decide)
    intro v7 w10 ho hb hg hat
    have ho := show Ow w10 w.heap.size v7 (ib xt) from by rw [← HXT.out]; exact ho
    obtain ⟨go, oo, co, hv, _⟩ := Kd.Q_form ho (by rw [ib_length, HLX.out]; decide)
    rw [ib_length, HLX.out] at hv
    subst hv
    have HO2 := Aside0.mk ho
    have HB := Aside0.mk hb
    clear ho hb hg hat hco1 HCO
    refine hK.out _ _ ((pw_cell_below HB.out HX0.out)) (fun hHeld => ?_)
    clear hK K
    refine norm_ (a' := ?_) ?_ ?_
    rotate_left
    · show Act.put _ (some 27) _ = _
      simp only [Act.put, List.setIfInBounds_toArray, List.set_cons_zero, List.set_cons_succ, i64_w, i32_w]
      rfl
    refine pure_ (i := 7) (N := some 9) (v := ?_) (a' := ?_) #[true, true, true, true, true, true, true, true] rfl rfl (by kernel_rfl) (fun _ _ _ h => h) (Or.inl ⟨by rfl, ?_⟩) ?_ ?_
    rotate_left
    · intro w'
      go_simp
      with_reducible rfl
    rotate_left
    · simp only [Act.put, List.setIfInBounds_toArray, List.set_cons_zero, List.set_cons_succ, i64_w, i32_w]
      rfl
    refine done_ (by kernel_rfl) ?_
    go_wp2
    have HC := Aside0.mk (Ch.of_below (g := bx) HB.out)
    have HX := Aside0.mk (HX.out.below HB.out)
    have HS := Aside0.mk (fun j (h : j < 4) => fillTo_set (ib (xt.map subB)) (ib xt) (by rw [ib_length, ib_length, List.length_map]) j (by rw [ib_length, HLX.out]; exact h) (I8 (subB (xt.getD j 0#8))) (by rw [ib_getD, map_getD _ _ _ (by rw [HLX.out]; exact h)]))
    have HFG := Aside0.mk (fun j (h : j < 4) => show (fillTo (ib (xt.map subB)) (ib xt) j).getD j 0 = I8 (xt.getD j 0#8) by rw [fillTo_ge _ _ (by rw [ib_length, ib_length, List.length_map]) j j (by rw [ib_length, HLX.out]; omega) (Nat.le_refl _)]; exact ib_getD xt j)
    have HE := Aside0.mk (show fillTo (ib (xt.map subB)) (ib xt) 4 = ib (xt.map subB) by rw [show 4 = (ib xt).length by rw [ib_length, HLX.out]]; exact fillTo_end _ _ (by rw [ib_length, ib_length, List.length_map]))
    have HFL := Aside0.mk (fun j => show (fillTo (ib (xt.map subB)) (ib xt) j).length = 4 by rw [fillTo_length _ _ (by rw [ib_length, ib_length, List.length_map]), ib_length, HLX.out])
    have HO := Aside0.mk (show Ow _ w.heap.size _ (fillTo (ib (xt.map subB)) (ib xt) 0) by rw [fillTo_zero]; exact HO2.out)
    generalize hre : ib (xt.map subB) = r at *
    have HRE := Aside0.mk hre
    clear hre
    clear HO2 HB
    go_loopg [42] 4 (fun kq iv w' => ∃ j : Nat, j + kq = 4 ∧ iv = .int .i64 (j : Int) ∧ Aside0 (Ow w' w.heap.size (.slice (some ⟨go, oo, none⟩) 4 co) (fillTo r (ib xt) j)) ∧ Aside0 (BoxS w' bx) ∧ Aside0 (Ch bx w w'))
    case atStart => exact ⟨0, by omega, rfl, HO, HX, HC⟩
    case round =>
      clear HO HX HC
      obtain ⟨j, hj, rfl, HO, HX, HC⟩ := hrel
      cases gk with
      | zero =>
        obtain rfl : j = 4 := by omega
        have HO := Aside0.mk (show Ow _ w.heap.size _ r by rw [← HE.out]; exact HO.out)
        clear HS HFL HFG HE
        have CM := Aside0.mk (show Gives 16 #[.int .i64 (q : Int)] (.int .u8 (I8 (AesMath.mark q))) from mark_c q HQ.out.2.1 HQ.out.1)
        have HRL := Aside0.mk (show (ib (xt.map subB)).getD 0 0 = I8 ((xt.map subB).getD 0 0#8) from ib_getD _ _)
        rw [HRE.out] at HRL
        have HP := Aside0.mk (fun (z : B) (W : World) (h : Ow W w.heap.size (.slice (some ⟨go, oo, none⟩) 4 co) r) => show Ow (W.setCell ⟨go, oo, none⟩ (.int .u8 (I8 z))) w.heap.size _ (ib ((xt.map subB).set 0 z)) ∧ W.grownBy (W.setCell ⟨go, oo, none⟩ (.int .u8 (I8 z))) (some go) from by
          have := Kd.Q_putg h (0 : Int) (by decide) (by decide) (I8 z)
          rw [← HRE.out, show (0 : Int).toNat = 0 from rfl, ib_set] at this
          exact this)
        have hq6 : wrap64 (q : Int) = (q : Int) := w64 HQ.out.1 HQ.out.2.1
        have hq7 : IntKind.i64.wrap (q : Int) = (q : Int) := wrap_i64_nat q HQ.out.2.2
        obtain ⟨hx0, hf⟩ := Kd.Q_cell (0 : Int) HO.out (0 : Int) (by decide) (by decide)
        have hx := show _ = some (Value.int .u8 (r.getD 0 0)) from hx0
        clear hx0
        rw [HRL.out] at hx
        have hx := show World.cell? _ ⟨go, oo, none⟩ = _ from hx
        have hf := show World.frozen? _ ⟨go, oo, none⟩ = _ from hf
        have z1 := xor8 ((xt.map subB).getD 0 0#8) (AesMath.mark q)
        generalize hmq : AesMath.mark q = mq at *
        generalize hy0 : (xt.map subB).getD 0 0#8 = y0 at *
        have HMY := Aside0.mk (And.intro hmq hy0)
        clear hmq hy0
        go_wp2
        refine start_ (n := 10) (S := fun w' => w'.cell? ⟨go, oo, none⟩ = some (.int .u8 (I8 y0))) (ds := [9]) #[false, false, false, false, false, false, false, false, false, false] (by kernel_rfl) rfl rfl (hx) (fun hHeld => ?_)
        refine pure_ (i := 0) (N := some 55) (v := ?_) (a' := ?_) #[true, false, false, false, false, false, false, false, false, false] rfl rfl (by kernel_rfl) (fun _ _ _ h => h) (Or.inl ⟨by rfl, ?_⟩) ?_ ?_
        rotate_left
        · intro w'
          go_simp
          with_reducible rfl
        rotate_left
        · simp only [Act.put, List.setIfInBounds_toArray, List.set_cons_zero, List.set_cons_succ, i64_w, i32_w]
          rfl
        refine pure_ (i := 1) (N := some 56) (v := ?_) (a' := ?_) #[true, true, false, false, false, false, false, false, false, false] rfl rfl (by kernel_rfl) (fun _ _ _ h => h) (Or.inl ⟨by rfl, ?_⟩) ?_ ?_
        rotate_left
        · intro w'
          go_simp
          with_reducible rfl
        rotate_left
        · simp only [Act.put, List.setIfInBounds_toArray, List.set_cons_zero, List.set_cons_succ, i64_w, i32_w]
          rfl
        refine pure_ (i := 3) (N := some 58) (v := ?_) (a' := ?_) #[true, true, false, true, false, false, false, false, false, false] rfl rfl (by kernel_rfl) (fun _ _ _ h => h) (Or.inl ⟨by rfl, ?_⟩) ?_ ?_
        rotate_left
        · intro w'
          go_simp
          with_reducible rfl
        rotate_left
        · simp only [Act.put, List.setIfInBounds_toArray, List.set_cons_zero, List.set_cons_succ, i64_w, i32_w]
          rfl
        refine pure_ (i := 4) (N := some 59) (v := ?_) (a' := ?_) #[true, true, false, true, true, false, false, false, false, false] rfl rfl (by kernel_rfl) (fun _ _ _ h => h) (Or.inl ⟨by rfl, ?_⟩) ?_ ?_
        rotate_left
        · intro w'
          go_simp
          with_reducible rfl
        rotate_left
        · simp only [Act.put, List.setIfInBounds_toArray, List.set_cons_zero, List.set_cons_succ, i64_w, i32_w]
          rfl
        refine pure_ (i := 5) (N := some 60) (v := ?_) (a' := ?_) #[true, true, false, true, true, true, false, false, false, false] rfl rfl (by kernel_rfl) (fun _ _ _ h => h) (Or.inl ⟨by rfl, ?_⟩) ?_ ?_
        rotate_left
        · intro w'
          go_simp
          with_reducible rfl
        rotate_left
        · simp only [Act.put, List.setIfInBounds_toArray, List.set_cons_zero, List.set_cons_succ, i64_w, i32_w]
          rfl
        refine take_ (i := 2) (N := some 57) (v := ?_) (a' := ?_) #[true, true, true, true, true, true, false, false, false, false] rfl rfl (by kernel_rfl) (fun _ _ _ h => h) (Or.inl ⟨by rfl, ?_⟩) hHeld ?_ ?_
        rotate_left
        · intro w' s0
          go_simp
          with_reducible rfl
        rotate_left
        · simp only [Act.put, List.setIfInBounds_toArray, List.set_cons_zero, List.set_cons_succ, i64_w, i32_w]
          rfl
        refine one_ (i := 6) (N := some 61) #[true, true, true, true, true, true, true, false, false, false] rfl rfl (by kernel_rfl) (by decide) (fun K hK => ?_)
        refine goes_ Try.func16 (by kernel_rfl) rfl #[.int .i64 (q : Int)] (by rfl) rfl rfl (by simp only [List.map_toArray, List.map_cons, List.map_nil]; rfl) ?_
        with_reducible refine (CM.out.q _).mono ?_
        rintro e w7 ⟨rfl, ⟨⟨n7, rfl⟩⟩⟩
        refine ⟨_, rfl, ?_⟩
        refine hK.out _ _ (hHeld) (fun hHeld => ?_)
        clear hK K
        refine norm_ (a' := ?_) ?_ ?_
        rotate_left
        · show Act.put _ (some 61) _ = _
          simp only [Act.put, List.setIfInBounds_toArray, List.set_cons_zero, List.set_cons_succ, i64_w, i32_w]
          rfl
        refine pure_ (i := 7) (N := some 62) (v := ?_) (a' := ?_) #[true, true, true, true, true, true, true, true, false, false] rfl rfl (by kernel_rfl) (fun _ _ _ h => h) (Or.inl ⟨by rfl, ?_⟩) ?_ ?_
        rotate_left
        · intro w'
          go_simp
          with_reducible rfl
        rotate_left
        · simp only [Act.put, List.setIfInBounds_toArray, List.set_cons_zero, List.set_cons_succ, i64_w, i32_w]
          rfl
        refine pure_ (i := 8) (N := some 63) (v := ?_) (a' := ?_) #[true, true, true, true, true, true, true, true, true, false] rfl rfl (by kernel_rfl) (fun _ _ _ h => h) (Or.inl ⟨by rfl, ?_⟩) ?_ ?_
        rotate_left
        · intro w'
          go_simp
          with_reducible rfl
        rotate_left
        · simp only [Act.put, List.setIfInBounds_toArray, List.set_cons_zero, List.set_cons_succ, i64_w, i32_w]
          rfl
        refine last_ (i := 9) (N := none) #[true, true, true, true, true, true, true, true, true, true] rfl rfl (by kernel_rfl) (by decide) (fun K hK => ?_)
        refine skip_ (w1 := ?_) (by rfl) rfl ?_ ?_
        rotate_left
        · go_simp
          rfl
        refine hK.out _ _ ?_
        clear hK K
        refine done_ (by kernel_rfl) ?_
        go_wp2
        go_ret
        have hp := HP.out (y0 ^^^ mq) _ (HO.out.drewN (1 + n7))
        exact ⟨_, rfl, by rw [HMY.out.1, HMY.out.2]; exact hp.1, (HX.out.below (pw_below_drewN (Below.refl _ _) (1 + n7))).grown hp.2 (fun e => by have := Kd.Q_base HO.out go rfl; have := Option.some.inj e; have := HXL.out; omega), Ch.far (Ch.step HC.out (pw_below_drewN (Below.refl _ _) (1 + n7))) (Kd.Q_base HO.out go rfl) hp.2⟩
      | succ k1 =>
        have hlt : j < 4 := by omega
        have h0 : (0 : Int) ≤ (j : Int) := by omega
        have h1 : (j : Int) < 4 := by omega
        obtain ⟨hx0, hf⟩ := Kd.Q_cell (0 : Int) HO.out (j : Int) h0 h1
        rw [Int.toNat_natCast] at hx0 hf
        have hx := show _ = some (Value.int .u8 ((fillTo r (ib xt) j).getD (j : Int).toNat 0)) from hx0
        clear hx0
        rw [Int.toNat_natCast, HFG.out j hlt] at hx
        have C1 := Aside0.mk (fun (W : World) (h : BoxS W bx) => subS_c h (xt.getD j 0#8))
        have HV := Aside0.mk (HS.out j hlt)
        have HFX := Aside0.mk (HFG.out j hlt)
        generalize hss : fillTo r (ib xt) j = s at *
        generalize subB (xt.getD j 0#8) = y at *
        generalize xt.getD j 0#8 = x at *
        have HJ := Aside0.mk hj
        clear hj HS HFL HFG HE hss
        go_wp2_with (first
          | (go_at_call 75; (refine (C1.out _ HX.out).mono ?_); rintro e w6 ⟨rfl, hx6, hc6⟩; have HO := Aside0.mk (HO.out.ch hc6 HXL.out); have HX := Aside0.mk hx6; have HC := Aside0.mk (HC.out.trans hc6); clear hx hf; obtain ⟨hx, hf⟩ := Kd.Q_cell (0 : Int) HO.out (j : Int) h0 h1; rw [Int.toNat_natCast] at hx hf; have HQP := Aside0.mk (Kd.Q_putg HO.out (j : Int) h0 h1 (I8 y)); clear hx6 hc6))
        go_roundg k1
        case measure => omega
        case rel =>
          have hp := HQP.out
          rw [Int.toNat_natCast, HV.out] at hp
          exact ⟨j + 1, by have := HJ.out; omega, by go_num, ⟨hp.1⟩, ⟨HX.out.grown hp.2 (fun e => by have := Kd.Q_base HO.out go rfl; have := Option.some.inj e; have := HXL.out; omega)⟩, ⟨Ch.far HC.out (Kd.Q_base HO.out go rfl) hp.2⟩⟩
  · have hz1 : ((m : Int) = 0) = False := by apply eq_false; omega
    have hz2 : ((m : Int) == 0) = false := by rw [beq_eq_false_iff_ne]; omega
    have hz3 : (m = 0) = False := by apply eq_false; omega
    by_cases h8 : k = 8 ∧ i % 8 = 4
    · have hres : madeB w4 i k = w4.map subB := by unfold madeB; rw [if_neg (by rw [← hm]; exact hz), if_pos h8]
      rw [hres]
      obtain ⟨rfl, h84⟩ := h8
      obtain rfl : m = 4 := by omega
      have e8 : (i : Int) % 8 = 4 := by omega
      clear hm hq hz hk0
      go_enter Try.func67, Try.ntmps67
      go_wp2_with (first
        | ((with_reducible refine gate_dst (N := 13) rfl ?_); refine Kd.R_lit (Kd.int .u8) w.heap.size 5 ?hg (N := 13) ?hd (w0 := w) (xs := ([] : List Int)) (inner := []) (ok := fun k => w.heap.size ≤ k) (okp := fun _ => False) ?hr ?hp (fun _ hk => hk.elim) HB.out.size HB.out HB.out.size (by simp) ?_; (case hd => rfl); (case hg => rfl); (case hr => first | (go_simp; done) | (go_simp; rfl)); (case hp => exact (Reps.none _ _)); intro v1 w3 ho4 hb hg_ hnew_; have HB := Aside0.mk hb; obtain ⟨Av, cv, rfl, hcv, hrd⟩ := Kd.R_reads ho4; have HO := Aside0.mk ho4; clear hb ho4 hg_ hnew_ hrd hcv)
        | ((with_reducible refine gate_builtin (b := .append) (xs := #[.tmp 13, .tmp 14]) rfl ?_); refine Kd.R_append_rows (Kd.int .u8) (w0 := w) w.heap.size rfl (.tmp 13) (.tmp 14) 22 5 (.int .u8 0) 1 rfl Try.underlying22 info_u8 rfl (by decide) (by omega) _ [] (ib w4) A _ _ (fun k => w.heap.size ≤ k) (fun _ => False) rfl rfl HO.out (show ReadsRow _ _ _ _ _ _ from Kd.C_below HCC.out HB.out) (fun _ _ h => h) (fun _ h => h.elim) (fun k hk => Nat.le_trans HB.out.size hk) HB.out HB.out.size ?aL ?_; (case aL => exact (by simp only [List.length_nil]; omega)); intro v2 w5 ho hb hg hat; have HB := Aside0.mk hb; have ho' : Ow w5 w.heap.size v2 (ib w4) := Ow.of_R ho (Nat.le_refl _); obtain ⟨go, oo, co, hv, _⟩ := Kd.Q_form ho' (by rw [HL.out]; decide); rw [HL.out] at hv; subst hv; have HO2 := Aside0.mk ho'; clear HO ho ho' hb hg hat))
      clear e8 ht1 ht2 hd1 hd2
      have HLX := Aside0.mk hw4
      clear hw4
      have HC := Aside0.mk (Ch.of_below (g := bx) HB.out)
      have HX := Aside0.mk (HX.out.below HB.out)
      have HS := Aside0.mk (fun j (h : j < 4) => fillTo_set (ib (w4.map subB)) (ib w4) (by rw [ib_length, ib_length, List.length_map]) j (by rw [ib_length, HLX.out]; exact h) (I8 (subB (w4.getD j 0#8))) (by rw [ib_getD, map_getD _ _ _ (by rw [HLX.out]; exact h)]))
      have HFG := Aside0.mk (fun j (h : j < 4) => show (fillTo (ib (w4.map subB)) (ib w4) j).getD j 0 = I8 (w4.getD j 0#8) by rw [fillTo_ge _ _ (by rw [ib_length, ib_length, List.length_map]) j j (by rw [ib_length, HLX.out]; omega) (Nat.le_refl _)]; exact ib_getD w4 j)
      have HE := Aside0.mk (show fillTo (ib (w4.map subB)) (ib w4) 4 = ib (w4.map subB) by rw [show 4 = (ib w4).length by rw [ib_length, HLX.out]]; exact fillTo_end _ _ (by rw [ib_length, ib_length, List.length_map]))
      have HFL := Aside0.mk (fun j => show (fillTo (ib (w4.map subB)) (ib w4) j).length = 4 by rw [fillTo_length _ _ (by rw [ib_length, ib_length, List.length_map]), ib_length, HLX.out])
      have HO := Aside0.mk (show Ow _ w.heap.size _ (fillTo (ib (w4.map subB)) (ib w4) 0) by rw [fillTo_zero]; exact HO2.out)
      generalize hre : ib (w4.map subB) = r at *
      have HRE := Aside0.mk hre
      clear hre
      clear HO2 HB
      go_loopg [42] 4 (fun kq iv w' => ∃ j : Nat, j + kq = 4 ∧ iv = .int .i64 (j : Int) ∧ Aside0 (Ow w' w.heap.size (.slice (some ⟨go, oo, none⟩) 4 co) (fillTo r (ib w4) j)) ∧ Aside0 (BoxS w' bx) ∧ Aside0 (Ch bx w w'))
      case atStart => exact ⟨0, by omega, rfl, HO, HX, HC⟩
      case round =>
        clear HO HX HC
        obtain ⟨j, hj, rfl, HO, HX, HC⟩ := hrel
        cases gk with
        | zero =>
          obtain rfl : j = 4 := by omega
          have HO := Aside0.mk (show Ow _ w.heap.size _ r by rw [← HE.out]; exact HO.out)
          clear HS HFL HFG HE
          go_wp2
          go_ret
          exact ⟨_, rfl, by rw [HRE.out]; exact HO.out, HX.out, HC.out⟩
        | succ k1 =>
          have hlt : j < 4 := by omega
          have h0 : (0 : Int) ≤ (j : Int) := by omega
          have h1 : (j : Int) < 4 := by omega
          obtain ⟨hx0, hf⟩ := Kd.Q_cell (0 : Int) HO.out (j : Int) h0 h1
          rw [Int.toNat_natCast] at hx0 hf
          have hx := show _ = some (Value.int .u8 ((fillTo r (ib w4) j).getD (j : Int).toNat 0)) from hx0
          clear hx0
          rw [Int.toNat_natCast, HFG.out j hlt] at hx
          have C1 := Aside0.mk (fun (W : World) (h : BoxS W bx) => subS_c h (w4.getD j 0#8))
          have HV := Aside0.mk (HS.out j hlt)
          have HFX := Aside0.mk (HFG.out j hlt)
          generalize hss : fillTo r (ib w4) j = s at *
          generalize subB (w4.getD j 0#8) = y at *
          generalize w4.getD j 0#8 = x at *
          have HJ := Aside0.mk hj
          clear hj HS HFL HFG HE hss
          go_wp2_with (first
            | (go_at_call 75; (refine (C1.out _ HX.out).mono ?_); rintro e w6 ⟨rfl, hx6, hc6⟩; have HO := Aside0.mk (HO.out.ch hc6 HXL.out); have HX := Aside0.mk hx6; have HC := Aside0.mk (HC.out.trans hc6); clear hx hf; obtain ⟨hx, hf⟩ := Kd.Q_cell (0 : Int) HO.out (j : Int) h0 h1; rw [Int.toNat_natCast] at hx hf; have HQP := Aside0.mk (Kd.Q_putg HO.out (j : Int) h0 h1 (I8 y)); clear hx6 hc6))
          go_roundg k1
          case measure => omega
          case rel =>
            have hp := HQP.out
            rw [Int.toNat_natCast, HV.out] at hp
            exact ⟨j + 1, by have := HJ.out; omega, by go_num, ⟨hp.1⟩, ⟨HX.out.grown hp.2 (fun e => by have := Kd.Q_base HO.out go rfl; have := Option.some.inj e; have := HXL.out; omega)⟩, ⟨Ch.far HC.out (Kd.Q_base HO.out go rfl) hp.2⟩⟩
    · have hres : madeB w4 i k = w4 := by unfold madeB; rw [if_neg (by rw [← hm]; exact hz), if_neg h8]
      rw [hres]
      by_cases hk8' : k = 8
      · subst hk8'
        have hm4 : m ≠ 4 := fun e => h8 ⟨rfl, by omega⟩
        have hm1 : ((m : Int) == 4) = false := by rw [beq_eq_false_iff_ne]; omega
        have hm2 : ((m : Int) != 4) = true := by simp only [bne, hm1]; rfl
        have hm3 : ((m : Int) = 4) = False := by apply eq_false; omega
        clear hm hq hw4 h8 hz hm4
        go_enter Try.func67, Try.ntmps67
        go_wp2_with (first
          | ((with_reducible refine gate_dst (N := 13) rfl ?_); refine Kd.R_lit (Kd.int .u8) w.heap.size 5 ?hg (N := 13) ?hd (w0 := w) (xs := ([] : List Int)) (inner := []) (ok := fun k => w.heap.size ≤ k) (okp := fun _ => False) ?hr ?hp (fun _ hk => hk.elim) HB.out.size HB.out HB.out.size (by simp) ?_; (case hd => rfl); (case hg => rfl); (case hr => first | (go_simp; done) | (go_simp; rfl)); (case hp => exact (Reps.none _ _)); intro v1 w3 ho4 hb hg_ hnew_; have HB := Aside0.mk hb; obtain ⟨Av, cv, rfl, hcv, hrd⟩ := Kd.R_reads ho4; have HO := Aside0.mk ho4; clear hb ho4 hg_ hnew_ hrd hcv)
          | ((with_reducible refine gate_builtin (b := .append) (xs := #[.tmp 13, .tmp 14]) rfl ?_); refine Kd.R_append_rows (Kd.int .u8) (w0 := w) w.heap.size rfl (.tmp 13) (.tmp 14) 22 5 (.int .u8 0) 1 rfl Try.underlying22 info_u8 rfl (by decide) (by omega) _ [] (ib w4) A _ _ (fun k => w.heap.size ≤ k) (fun _ => False) rfl rfl HO.out (show ReadsRow _ _ _ _ _ _ from Kd.C_below HCC.out HB.out) (fun _ _ h => h) (fun _ h => h.elim) (fun k hk => Nat.le_trans HB.out.size hk) HB.out HB.out.size ?aL ?_; (case aL => exact (by simp only [List.length_nil]; omega)); intro v2 w5 ho hb hg hat; have HB := Aside0.mk hb; have ho' : Ow w5 w.heap.size v2 (ib w4) := Ow.of_R ho (Nat.le_refl _); obtain ⟨go, oo, co, hv, _⟩ := Kd.Q_form ho' (by rw [HL.out]; decide); rw [HL.out] at hv; subst hv; have HO2 := Aside0.mk ho'; clear HO ho ho' hb hg hat))
        go_ret
        exact ⟨_, rfl, HO2.out, HX.out.below HB.out, Ch.of_below HB.out⟩
      · have hk1 : ((k : Int) == 8) = false := by rw [beq_eq_false_iff_ne]; omega
        have hk2 : ((k : Int) != 8) = true := by simp only [bne, hk1]; rfl
        have hk3 : ((k : Int) = 8) = False := by apply eq_false; omega
        clear hm hq hw4 h8 hz hk8'
        go_enter Try.func67, Try.ntmps67
        go_wp2_with (first
          | ((with_reducible refine gate_dst (N := 13) rfl ?_); refine Kd.R_lit (Kd.int .u8) w.heap.size 5 ?hg (N := 13) ?hd (w0 := w) (xs := ([] : List Int)) (inner := []) (ok := fun k => w.heap.size ≤ k) (okp := fun _ => False) ?hr ?hp (fun _ hk => hk.elim) HB.out.size HB.out HB.out.size (by simp) ?_; (case hd => rfl); (case hg => rfl); (case hr => first | (go_simp; done) | (go_simp; rfl)); (case hp => exact (Reps.none _ _)); intro v1 w3 ho4 hb hg_ hnew_; have HB := Aside0.mk hb; obtain ⟨Av, cv, rfl, hcv, hrd⟩ := Kd.R_reads ho4; have HO := Aside0.mk ho4; clear hb ho4 hg_ hnew_ hrd hcv)
          | ((with_reducible refine gate_builtin (b := .append) (xs := #[.tmp 13, .tmp 14]) rfl ?_); refine Kd.R_append_rows (Kd.int .u8) (w0 := w) w.heap.size rfl (.tmp 13) (.tmp 14) 22 5 (.int .u8 0) 1 rfl Try.underlying22 info_u8 rfl (by decide) (by omega) _ [] (ib w4) A _ _ (fun k => w.heap.size ≤ k) (fun _ => False) rfl rfl HO.out (show ReadsRow _ _ _ _ _ _ from Kd.C_below HCC.out HB.out) (fun _ _ h => h) (fun _ h => h.elim) (fun k hk => Nat.le_trans HB.out.size hk) HB.out HB.out.size ?aL ?_; (case aL => exact (by simp only [List.length_nil]; omega)); intro v2 w5 ho hb hg hat; have HB := Aside0.mk hb; have ho' : Ow w5 w.heap.size v2 (ib w4) := Ow.of_R ho (Nat.le_refl _); obtain ⟨go, oo, co, hv, _⟩ := Kd.Q_form ho' (by rw [HL.out]; decide); rw [HL.out] at hv; subst hv; have HO2 := Aside0.mk ho'; clear HO ho ho' hb hg hat))
        go_ret
        exact ⟨_, rfl, HO2.out, HX.out.below HB.out, Ch.of_below HB.out⟩
end Go.Proofs.Ytpdikfmdnlhllaa.Aes
namespace Go.Proofs.Ytpdikfmdnlhllaa.Aes
open Go.RowKit Go.Proofs.Ytpdikfmdnlhllaa.PNib Go.Proofs.YtpdikfmdnlhllaaW.PrintWords Go.Proofs.YtpdikfmdnlhllaaW.PrintLast Go.Proofs.YtpdikfmdnlhllaaW.PrintMore Byte Sl Arr Mem Gives ArrEq Mat AesMath AesMov AesLin HandKit
set_option linter.unusedVariables false
set_option maxRecDepth 100000
theorem app_keeps {W w1 : World} {base g o n cap : Nat} {ok : Nat → Prop} {l : List Int} {x : Int} {v1 : Value} {ty : TypeId} (HO : Kd.Q (Kd.int .u8) 5 W base ok (.slice (some ⟨g, o, none⟩) n cap) l) (hn : l.length = n) (h0 : 0 < n) (hl : n + 1 ≤ 140737488355328)
    (hr : (Builtin.append_ #[22, 22] ty #[.slice (some ⟨g, o, none⟩) n cap, .slice (some ⟨W.heap.size, 0, none⟩) 1 1]).run Try.prog (W.alloc (.cells [Value.int .u8 x].toArray 5)) = .ok v1 w1) : (v1 = .slice (some ⟨g, o, none⟩) (n + 1) cap ∨ ∃ b, v1.ownBlock = some b ∧ W.heap.size ≤ b) ∧ ∀ j, j < n → w1.cell? ⟨g, o + j, none⟩ = W.cell? ⟨g, o + j, none⟩ := by
  obtain ⟨_, inner, ⟨hil, hform⟩, hreps⟩ := HO
  have hsz : (Kd.int .u8).sz = 1 := rfl
  rcases hform with ⟨hz, _⟩ | ⟨g', off, cap', cur, hv, hbg, hg, hnc, hcm, hcs, htake⟩
  · omega
  · rw [hsz, Nat.mul_one] at hv hcs
    injection hv with hv1 hv2 hv3
    injection hv1 with hv1
    injection hv1 with hv1 hv4 hv5
    subst hv1; subst hv4; subst hv3
    have hi0 : ∃ i0, Try.prog.info? 5 = some i0 ∧ i0.zero = some (.int .u8 0) ∧ i0.size = 1 ∧ i0.bytes = 1 := by
      have h := info_u8
      cases hq : Try.prog.info? 5 with
      | none => simp [hq] at h
      | some i0 =>
        rw [hq] at h
        simp only [Option.map_some, Option.some.injEq, Prod.mk.injEq] at h
        exact ⟨i0, rfl, h.1, h.2.1, h.2.2⟩
    obtain ⟨i0, hi, hz0, hz1, hz2⟩ := hi0
    have hgl : g < W.heap.size := blk_lt hg
    have hgA : (W.alloc (.cells [Value.int .u8 x].toArray 5)).heap[g]? = some (.cells cur 5 (0, 0)) := blk_alloc hg _
    have hnews : ∀ (j : Nat) u, ([Value.int .u8 x] : List Value)[j]? = some u → (W.alloc (.cells [Value.int .u8 x].toArray 5)).cell? ((⟨W.heap.size, 0, none⟩ : Addr).add j) = some u := by
      simpa using World.news_of_block (cs := [Value.int .u8 x].toArray) (t := 5) (fr := (0, 0)) (heap_alloc_new W (.cells [Value.int .u8 x].toArray 5))
    by_cases hroom : n + 1 ≤ cap
    · have hrun := run_append_room_cells (P := Try.prog) (W.alloc (.cells [Value.int .u8 x].toArray 5)) 22 ty 5 i0 Try.underlying22 hi g o n cap ⟨W.heap.size, 0, none⟩ 1 1 [.int .u8 x] (by rw [hz1]; rfl) hnews (by simp [Value.oneCell']) hroom
        (fun q hq => by
          rw [List.length_singleton] at hq
          rw [blk_cell hgA, hz1]
          simp; omega) (fun q _ => blk_frozen hgA _)
      rw [hrun] at hr
      injection hr with h1 h2
      refine ⟨.inl h1.symm, fun j hj => ?_⟩
      rw [← h2, hz1, Nat.mul_one]
      show World.cell? ((W.alloc _).setCell ⟨g, o + n, none⟩ _) _ = _
      rw [blk_cell (blk_set hgA (o + n) _), blk_cell hg, Array.getElem?_setIfInBounds_ne (by omega)]
    · obtain ⟨v', w', hrun, hown, hgrow⟩ := run_append_arg_grows (P := Try.prog) (W.alloc (.cells [Value.int .u8 x].toArray 5)) 22 ty 5 i0 (.int .u8 0) 1 1 Try.underlying22 hi hz0 hz1 hz2 rfl (by decide) ⟨g, o, none⟩ n cap inner (by rw [hil, hsz, hn])
        (fun q u hu => by
          have hql : q < inner.length := (List.getElem?_eq_some_iff.1 hu).1
          rw [hil, hsz, hn, Nat.mul_one] at hql
          rw [add_at, blk_cell hgA]
          rw [← htake, List.getElem?_take, hsz, hn, Nat.mul_one, if_pos hql, List.getElem?_drop] at hu
          rw [← hu]
          simp) ⟨W.heap.size, 0, none⟩ 1 1 [.int .u8 x] rfl hnews (by omega) (by simp only [maxLen]; omega) (by omega)
      rw [hrun] at hr
      injection hr with h1 h2
      refine ⟨.inr ?_, fun j hj => ?_⟩
      · obtain ⟨g', cap', he, hb, _⟩ := hown.form (by omega)
        refine ⟨g', by rw [← h1, he]; simp [Value.ownBlock], ?_⟩
        rw [World.size_alloc] at hb
        omega
      rw [← h2, blk_cell ((hgrow.block g (blk_lt hgA) (by simp)).trans hgA), blk_cell hg]
theorem wp_app {ops : Array Oper} {rest : List Oper} {op : Oper} {a : Act} {Q' : Exit → Act → World → Prop} {W : World} (w0 : World) (base : Nat) (hgd : op.guard = none) (s x : Operand)
    (ho : op.op = .call { callee := .builtin .append, args := #[s, x], argTypes := #[22, 22] }) {g o n cap : Nat} {l : List Int} (p : Int) (hs : a.eval s = .slice (some ⟨g, o, none⟩) n cap) (hx : a.eval x = .slice (some ⟨W.heap.size, 0, none⟩) 1 1)
    (HO : Ow W base (.slice (some ⟨g, o, none⟩) n cap) l) (hn : l.length = n) (hn0 : 0 < n) (hl : n + 1 ≤ 140737488355328) (HB : Below base w0 W) (hbase : base ≤ W.heap.size)
    (h : ∀ v1 w1, Ow w1 base v1 (l ++ [p]) → Below base w0 w1 → W.grownBy w1 (some g) → (v1 = .slice (some ⟨g, o, none⟩) (n + 1) cap ∨ ∃ b, v1.ownBlock = some b ∧ W.heap.size ≤ b) → (∀ j, j < n → w1.cell? ⟨g, o + j, none⟩ = W.cell? ⟨g, o + j, none⟩) → wpList Try.prog ops Q' rest (a.put op.dst v1) w1) :
    wpList Try.prog ops Q' (op :: rest) a (W.alloc (.cells [Value.int .u8 p].toArray 5)) := by
  obtain ⟨v1, w1, hr, h1, h2, h3, h4⟩ := Kd.Q_run (P := Try.prog) (Kd.int .u8) (w0 := w0) base 22 op.type 5 (.int .u8 0) 1 Try.underlying22 info_u8 rfl (by decide) (by decide) (.slice (some ⟨g, o, none⟩) n cap) l p [.int .u8 p] (fun k => base ≤ k) (fun _ => False) rfl (fun _ hk => hk.elim) (fun k hk => Nat.le_trans hbase hk) HO HB hbase (by omega)
  refine wpList_plain hgd fun K hK => ?_
  unfold Oper.wp execOp
  simp only [ho, resolve, invoke, builtin, Sem.run_bind, Sem.run_pure, Result.andThen_ok, List.map_toArray, List.map_cons, List.map_nil, hs, hx, hr]
  exact hK _ _ (h v1 w1 h1 h2 h3 (app_keeps HO hn hn0 hl hr).1 (app_keeps HO hn hn0 hl hr).2)
theorem wp_make0 {P : Program} {ops : Array Oper} {rest : List Oper} {op : Oper} {a : Act} {Q' : Exit → Act → World → Prop} {α : Type} (d : Kd α) {W : World} (w0 : World) (base e : Nat) (hgd : op.guard = none) (t : TypeId) (x y : Operand) (ho : op.op = .makeSlice t x y) (c : Nat) (hx : a.eval x = .int .i64 0) (hy : a.eval y = .int .i64 (c : Int))
    (ht : P.underlying t = some (.slice e)) (z : Value) (bytes : Nat) (hinfo : (P.info? e).map (fun i => (i.zero, i.size, i.bytes)) = some (some z, d.sz, bytes)) (hb0 : 0 < bytes) (hl : bytes * c ≤ 281474976710656) (ok : Nat → Prop) (hfresh : ok W.heap.size) (HB : Below base w0 W) (hbase : base ≤ W.heap.size)
    (h : ∀ w1, d.R e w1 base ok (.slice (some ⟨W.heap.size, 0, none⟩) 0 c) [] → Below base w0 w1 → W.grownBy w1 none → wpList P ops Q' rest (a.put op.dst (.slice (some ⟨W.heap.size, 0, none⟩) 0 c)) w1) : wpList P ops Q' (op :: rest) a W := by
  obtain ⟨i0, hi, hzz⟩ := Option.map_eq_some_iff.1 hinfo
  simp only [Prod.mk.injEq] at hzz
  obtain ⟨hz0, hz1, hz2⟩ := hzz
  have hc : c ≤ 281474976710656 := Nat.le_trans (Nat.le_mul_of_pos_left c hb0) hl
  obtain ⟨w', hr, hown, hg⟩ := run_make_own (P := P) W base t e i0 z d.sz ht hi hz0 hz1 .i64 .i64 c (by rw [hz2]; exact hl) (by simp only [maxLen]; omega) hbase
  refine wpList_plain hgd fun K hK => ?_
  unfold Oper.wp execOp
  simp only [ho, hx, hy, Sem.run_bind, Sem.run_pure, hr, Result.andThen_ok]
  refine hK _ _ (h w' ⟨fun k hk => ?_, [], hown, Reps.none _ _⟩ (HB.grown hg hbase (fun k e => by cases e)) hg)
  have := Option.some.inj (show some W.heap.size = some k from hk)
  rw [← this]; exact hfresh
/-- A slice's head as a value. -/
def encH (p : Addr × Nat × Nat) : Value := .slice (some p.1) p.2.1 p.2.2
theorem encH1 (p : Addr × Nat × Nat) : (encH p).oneCell' = true := rfl
abbrev kH : Kd (Addr × Nat × Nat) := Kd.scalar encH encH1
theorem info_sl : (Try.prog.info? 22).map (fun i => (i.zero, i.size, i.bytes)) = some (some (.slice none 0 0), 1, 24) := by kernel_rfl
/-- Rows of sixteen bytes, that lie one behind the other in one row. -/
theorem rows_of {W : World} {A : Option Addr} {n N g o : Nat} {H : List (Addr × Nat × Nat)} {L : List B} (hs : kH.C W A n H) (ha : (Kd.int .u8).C W (some ⟨g, o, none⟩) N (ib L)) (hH : ∀ r, r < n → H[r]? = some (⟨g, o + 16 * r, none⟩, 16, 16)) (hN : 16 * n ≤ N) :
    (Kd.slice 5 (Kd.int .u8)).C W A n (((List.range n).map fun r => (L.drop (16 * r)).take 16).map ib) := by
  obtain ⟨h1, h2, h3⟩ := hs
  have hLN : L.length = N := by rw [← ib_length]; exact ha.1
  refine ⟨by simp, h2, fun hp => ?_⟩
  obtain ⟨ad, hA, hx⟩ := h3 hp
  refine ⟨ad, hA, fun j p hj => ?_⟩
  have hjn : j < n := by
    have := (List.getElem?_eq_some_iff.1 hj).1
    simpa using this
  obtain ⟨cs, hcl, hK, hcc⟩ := hx j _ (hH j hjn)
  refine ⟨cs, hcl, ?_, hcc⟩
  rw [List.getElem?_map, List.getElem?_map, List.getElem?_range hjn] at hj
  obtain rfl := Option.some.inj hj
  have hlen : (ib ((L.drop (16 * j)).take 16)).length = 16 := by rw [ib_length, List.length_take, List.length_drop]; omega
  refine ⟨some ⟨g, o + 16 * j, none⟩, 16, ?_, by rw [hlen]; exact Nat.le_refl _, ?_⟩
  · rw [hlen]; exact hK
  · have hm := Kd.C_mid (c := N + 1) (lo := 16 * j) (hi := 16 * j + 16) (by rw [ib_length, hLN]; exact ha) (by omega) (by rw [ib_length, hLN]; omega) (by rw [ib_length, hLN]; omega)
    rw [if_neg (by omega)] at hm
    have e : ((ib L).take (16 * j + 16)).drop (16 * j) = ib ((L.drop (16 * j)).take 16) := by
      rw [List.drop_take, ib_take, ib_drop]
      congr 1
      omega
    have e2 : (some (⟨g, o, none⟩ : Addr)).map (·.add (16 * j * (Kd.int .u8).sz)) = some ⟨g, o + 16 * j, none⟩ := by
      show some ((⟨g, o, none⟩ : Addr).add (16 * j * 1)) = _
      rw [Nat.mul_one, add_at]
    rw [e, e2] at hm
    exact hm
end Go.Proofs.Ytpdikfmdnlhllaa.Aes
namespace Go.Proofs.Ytpdikfmdnlhllaa.Aes
open Go.RowKit Go.Proofs.Ytpdikfmdnlhllaa.PNib Go.Proofs.YtpdikfmdnlhllaaW.PrintWords Go.Proofs.YtpdikfmdnlhllaaW.PrintLast Go.Proofs.YtpdikfmdnlhllaaW.PrintMore Byte Sl Arr Mem Gives ArrEq Mat AesMath AesMov AesLin HandKit
set_option linter.unusedVariables false
set_option linter.unusedSimpArgs false
theorem rounds_c (n : Int) (r : Int) (h : roundsI n = r) : Gives 14 #[.int .i64 n] (.int .i64 r) := fun w => keys_Rounds.calls n r w (by rw [rounds_i, h])
/-- The bytes of the first k + m words. -/
def allL (key : List B) (k m : Nat) : List B := (wordsTo key k m).flatten
theorem allL_length (key : List B) (k m : Nat) (h : key.length = 4 * k) (hk : 0 < k) : (allL key k m).length = 4 * (k + m) := by
  unfold allL
  rw [flat_length (wordsTo_four key k h hk m), wordsTo_length]
theorem allL_zero (key : List B) (k : Nat) (h : key.length = 4 * k) : allL key k 0 = key := keyWords_flat key k h
theorem allL_succ (key : List B) (k m : Nat) : allL key k (m + 1) = allL key k m ++ wordB (wordsTo key k m) (k + m) k := by
  unfold allL
  rw [wordsTo, List.flatten_append, List.flatten_cons, List.flatten_nil, List.append_nil]
theorem allL_four (key : List B) (k m i : Nat) (h : key.length = 4 * k) (hk : 0 < k) (hi : i < k + m) : four (allL key k m) i = wordAt (wordsTo key k m) i := by
  unfold allL
  exact flat_four (wordsTo_four key k h hk m) i (by rw [wordsTo_length]; exact hi)
theorem wordB_take (l : List (List B)) (i k j : Nat) (hj : j < 4) (h4 : (wordAt l (i - 1)).length = 4) : (wordB l i k).take (j + 1) = (wordB l i k).take j ++ [(wordAt l (i - k)).getD j 0#8 ^^^ (madeB (wordAt l (i - 1)) i k).getD j 0#8] := by
  have hl := wordB_length l i k h4
  rw [List.take_add_one, List.getElem?_eq_getElem (by omega)]
  congr 1
  have e : (wordB l i k).getD j 0#8 = (wordAt l (i - k)).getD j 0#8 ^^^ (madeB (wordAt l (i - 1)) i k).getD j 0#8 := by
    unfold wordB
    rw [xorL_get _ _ _ (by rw [madeB_length _ _ _ h4]; exact hj), BitVec.xor_comm]
  rw [← e, List.getD_eq_getElem?_getD, List.getElem?_eq_getElem (by omega)]
  rfl
theorem ch_cell {g : Nat} {w w' : World} (h : w.grownBy w' (some g)) {a : Addr} {x : Value} (hc : w.cell? a = some x) (hne : a.block ≠ g) : w'.cell? a = some x := by
  have hlt := World.block_lt_of_cell? w a hc
  unfold World.cell? at hc ⊢
  rw [h.block a.block hlt (fun e => hne (Option.some.inj e))]
  exact hc
theorem sub_c {W : World} {b g o n c : Nat} {L : List B} (h : Ow W b (.slice (some ⟨g, o, none⟩) n c) (ib L)) (i lo : Nat) (hlo : lo = 4 * i) (hi : 4 * i + 4 ≤ n) : Kd.C (Kd.int .u8) W (some ⟨g, o + lo, none⟩) 4 (ib (four L i)) ∧ ∀ q, q < 4 → W.cell? ⟨g, o + lo + q, none⟩ = some (.int .u8 (I8 ((four L i).getD q 0#8))) := by
  obtain ⟨hn, hc, hC⟩ := Kd.Q_reads' h
  rw [ib_length] at hn hC
  have h2 := Kd.C_mid (lo := lo) (hi := lo + 4) (by rw [ib_length]; exact hC) (by omega) (by rw [ib_length]; omega) (by rw [ib_length]; omega : (ib L).length ≤ c)
  rw [if_neg (by omega)] at h2
  have e : ((ib L).take (lo + 4)).drop lo = ib (four L i) := by
    unfold four
    rw [List.drop_take, ib_take, ib_drop, hlo]
    congr 1
    omega
  rw [e] at h2
  have e2 : (some (⟨g, o, none⟩ : Addr)).map (·.add (lo * (Kd.int .u8).sz)) = some ⟨g, o + lo, none⟩ := by
    show some ((⟨g, o, none⟩ : Addr).add (lo * 1)) = _
    rw [Nat.mul_one, add_at]
  rw [e2, ib_length, four_length _ _ (by omega)] at h2
  refine ⟨h2, fun q hq => ?_⟩
  obtain ⟨ad, e3, hx⟩ := Kd.at_int h2 (q : Int) (by omega) (by omega)
  obtain rfl := Option.some.inj e3
  rw [Int.toNat_natCast, add_at] at hx
  rw [hx]
  show some (Value.int .u8 ((ib (four L i)).getD (q : Int).toNat 0)) = _
  rw [Int.toNat_natCast, ib_getD]
theorem w64n (n : Nat) (h : n + 1 < 9223372036854775808) : wrap64 ((n : Int) + 1) = ((n + 1 : Nat) : Int) := by unfold wrap64; omega
theorem ej (rd k M : Nat) (hrd : rd ≤ 14) (h : k + M = 4 * (rd + 1)) : wrap64 ((rd : Int) + 1) = ((rd + 1 : Nat) : Int) ∧ wrap64 (4 * ((rd + 1 : Nat) : Int)) = ((k + M : Nat) : Int) ∧ (rd : Int) + 1 = ((rd + 1 : Nat) : Int) ∧ 4 * ((rd + 1 : Nat) : Int) = ((k + M : Nat) : Int) := by
  unfold wrap64; omega
theorem ntot {k m tot ii : Nat} (h : tot = k + m) (hi : ii = k + m) : ¬ (ii : Int) < (tot : Int) := by omega
theorem ltot {k m M tot ii : Nat} (h : tot = k + M) (hi : ii = k + m) (hm : m < M) : (ii : Int) < (tot : Int) := by omega
theorem ei (k m n : Nat) (hk : 0 < k) (hm : k + m < 1000) (hn : n = 4 * (k + m)) : wrap64 (((k + m : Nat) : Int) - 1) = ((k + m - 1 : Nat) : Int) ∧ wrap64 (4 * ((k + m - 1 : Nat) : Int)) = ((4 * (k + m - 1) : Nat) : Int) ∧ wrap64 (4 * ((k + m : Nat) : Int)) = (n : Int) ∧ wrap64 (((k + m : Nat) : Int) - (k : Int)) = (m : Int) ∧ wrap64 (4 * (m : Int)) = ((4 * m : Nat) : Int) ∧ wrap64 (((4 * m : Nat) : Int) + 4) = ((4 * m + 4 : Nat) : Int) ∧ ((k + m : Nat) : Int) - 1 = ((k + m - 1 : Nat) : Int) ∧ 4 * ((k + m - 1 : Nat) : Int) = ((4 * (k + m - 1) : Nat) : Int) ∧ 4 * ((k + m : Nat) : Int) = (n : Int) ∧ ((k + m : Nat) : Int) - (k : Int) = (m : Int) ∧ 4 * (m : Int) = ((4 * m : Nat) : Int) ∧ ((4 * m : Nat) : Int) + 4 = ((4 * m + 4 : Nat) : Int) := by
  unfold wrap64; omega
/-- Within a word's making: the row of all bytes, and what is read beside it. -/
def Inn (wn w' : World) (bx go oo gw ow cw m4 : Nat) (md od : List B) (l : List Int) (g1 o1 nn c1 : Nat) : Prop := Ow w' wn.heap.size (.slice (some ⟨g1, o1, none⟩) nn c1) l ∧ ((g1 = go ∧ o1 = oo) ∨ g1 ≠ go) ∧ g1 ≠ gw ∧ Ow w' wn.heap.size (.slice (some ⟨gw, ow, none⟩) 4 cw) (ib md) ∧ (∀ q, q < 4 → w'.cell? ⟨go, oo + m4 + q, none⟩ = some (.int .u8 (I8 (od.getD q 0#8)))) ∧ BoxS w' bx ∧ Ch bx wn w' ∧ go < w'.heap.size
theorem Inn.step {wn W w7 : World} {bx go oo gw ow cw m4 : Nat} {md od : List B} {l : List Int} {g1 o1 nn c1 : Nat} {p : Int} {v2 : Value} (h : Inn wn W bx go oo gw ow cw m4 md od l g1 o1 nn c1) (hbx : bx < wn.heap.size) (hm : m4 + 4 ≤ nn) (hl : l.length = nn)
    (ho : Ow w7 wn.heap.size v2 (l ++ [p])) (hb : Below wn.heap.size W w7) (hg : W.grownBy w7 (some g1)) (hf : v2 = .slice (some ⟨g1, o1, none⟩) (nn + 1) c1 ∨ ∃ b, v2.ownBlock = some b ∧ W.heap.size ≤ b) (hk : ∀ j, j < nn → w7.cell? ⟨g1, o1 + j, none⟩ = W.cell? ⟨g1, o1 + j, none⟩) :
    ∃ g2 o2 c2, v2 = .slice (some ⟨g2, o2, none⟩) (nn + 1) c2 ∧ Inn wn w7 bx go oo gw ow cw m4 md od (l ++ [p]) g2 o2 (nn + 1) c2 := by
  obtain ⟨h1, h2, h3, h4, h5, h6, h7, h8⟩ := h
  have hgw := Kd.Q_lt h4 gw rfl
  have hg1 := Kd.Q_base h1 g1 rfl
  obtain ⟨g2, o2, c2, hv, hr⟩ : ∃ g2 o2 c2, v2 = .slice (some ⟨g2, o2, none⟩) (nn + 1) c2 ∧ ((g2 = g1 ∧ o2 = o1) ∨ W.heap.size ≤ g2) := by
    rcases hf with hf | ⟨b, hb1, hb2⟩
    · exact ⟨g1, o1, c1, hf, .inl ⟨rfl, rfl⟩⟩
    · obtain ⟨g2, o2, c2, hv, _⟩ := Kd.Q_form ho (by rw [List.length_append, List.length_singleton]; omega)
      rw [List.length_append, List.length_singleton, hl] at hv
      refine ⟨g2, o2, c2, hv, .inr ?_⟩
      rw [hv] at hb1
      have := Option.some.inj (show some g2 = some b from hb1)
      omega
  subst hv
  refine ⟨g2, o2, c2, rfl, ho, ?_, ?_, Kd.Q_grown2 h4 rfl hg (fun k e e2 => h3 ?_), fun q hq => ?_, h6.grown hg (fun e => by have := Option.some.inj e; omega), Ch.belowB h7 hb, Nat.lt_of_lt_of_le h8 hg.size⟩
  · rcases hr with ⟨rfl, rfl⟩ | hr
    · exact h2
    · exact .inr (by omega)
  · rcases hr with ⟨rfl, rfl⟩ | hr
    · exact h3
    · omega
  · have a1 := Option.some.inj e
    have a2 := Option.some.inj (show some k = some gw from e2)
    omega
  · rcases h2 with ⟨rfl, rfl⟩ | h2
    · rw [Nat.add_assoc, hk (m4 + q) (by omega), ← Nat.add_assoc]
      exact h5 q hq
    · exact ch_cell hg (h5 q hq) (Ne.symm h2)
/-- In this world v is a row of round keys, that lies from block b on. -/
def RK (w' : World) (b : Nat) (v : Value) (ks : List (List B)) : Prop := ∃ A c, v = .slice A ks.length c ∧ ks.length ≤ c ∧ Kd.F (Kd.slice 5 (Kd.int .u8)) w' (fun k => b ≤ k) A ks.length (ks.map ib)
def heads (go oo : Nat) (r : Nat) : List (Addr × Nat × Nat) := (List.range r).map fun q => (⟨go, oo + 16 * q, none⟩, 16, 16)
theorem heads_length (go oo r : Nat) : (heads go oo r).length = r := by simp [heads]
theorem heads_get (go oo r q : Nat) (h : q < r) : (heads go oo r)[q]? = some (⟨go, oo + 16 * q, none⟩, 16, 16) := by simp [heads, h]
theorem heads_succ (go oo r : Nat) : heads go oo r ++ [(⟨go, oo + 16 * r, none⟩, 16, 16)] = heads go oo (r + 1) := by simp [heads, List.range_succ]
theorem roundKeys_all (key : List B) (k rd M : Nat) (hkl : key.length = 4 * k) (hrN : roundsN key.length = rd) (hM : k + M = 4 * (rd + 1)) : roundKeys key = (List.range (rd + 1)).map fun r => ((allL key k M).drop (16 * r)).take 16 := by
  unfold roundKeys allB allL
  rw [hrN, hkl, Nat.mul_div_cancel_left k (by decide), show 4 * (rd + 1) - k = M by omega]
theorem hnr (k m n rd rd1 : Nat) (h1 : k + m = 4 * (rd + 1)) (h2 : rd1 = rd + 1) (hn : n = 4 * (k + m)) (hrd : rd ≤ 14) : n = 16 * rd1 ∧ n < 10000 ∧ 24 * rd1 ≤ 281474976710656 := by omega
theorem el (r rd1 n co : Nat) (h : n = 16 * rd1) (hr : r < rd1) (hn : n < 10000) (hc : n ≤ co) : (r : Int) < (rd1 : Int) ∧ ((16 * r : Nat) : Int) ≤ ((16 * (r + 1) : Nat) : Int) ∧ ((16 * (r + 1) : Nat) : Int) ≤ (co : Int) ∧ (0 : Int) ≤ ((16 * r : Nat) : Int) ∧ 16 * (r + 1) - 16 * r = 16 ∧ (r + 1) * 24 ≤ 140737488355328 ∧ 16 * (r + 1) ≤ n := by omega
theorem ek (r n : Nat) (h : 16 * (r + 1) ≤ n) (hn : n < 10000) : wrap64 (16 * (r : Int)) = ((16 * r : Nat) : Int) ∧ wrap64 ((r : Int) + 1) = ((r + 1 : Nat) : Int) ∧ wrap64 (16 * ((r + 1 : Nat) : Int)) = ((16 * (r + 1) : Nat) : Int) ∧ 16 * (r : Int) = ((16 * r : Nat) : Int) ∧ (r : Int) + 1 = ((r + 1 : Nat) : Int) ∧ 16 * ((r + 1 : Nat) : Int) = ((16 * (r + 1) : Nat) : Int) := by
  unfold wrap64; omega
set_option maxHeartbeats 4000000 in
set_option maxRecDepth 100000 in
theorem expand_c (key : List B) (k rd : Nat) (hkl : key.length = 4 * k) (hk0 : 0 < k) (hk8 : k ≤ 8) (hrd0 : 0 < rd) (hrd : rd ≤ 14) (hkr : k ≤ 4 * (rd + 1)) (hrI : roundsI ((4 * k : Nat) : Int) = (rd : Int)) (hrN : roundsN key.length = rd) (A : Option Addr) (c : Nat) (hc : 4 * k ≤ c) (w : World) (hC : Kd.C (Kd.int .u8) w A (4 * k) (ib key)) : Calls Try.prog 18 #[.slice A (4 * k) c] w fun e w' => ∃ v, e = .returned (.tuple #[v, .int .i64 0]) ∧ Below w.heap.size w w' ∧ RK w' w.heap.size v (roundKeys key) := by
  have HRN := Aside0.mk hrN
  clear hrN
  obtain ⟨L, hL⟩ : ∃ z, z = 4 * k := ⟨_, rfl⟩
  rw [← hL] at hrI hC hc ⊢
  have C1 := Aside0.mk (rounds_c (L : Int) (rd : Int) hrI)
  have CN := Aside0.mk newbox_c
  have HCK := Aside0.mk hC
  have hrz : ((rd : Int) = 0) = False := by apply eq_false; omega
  have hrz2 : ((rd : Int) == 0) = false := by rw [beq_eq_false_iff_ne]; omega
  have hrz3 : (rd = 0) = False := by apply eq_false; omega
  have hL4 : (L : Int) / 4 = (k : Int) := by omega
  have hL5 : Int.tdiv (L : Int) 4 = (k : Int) := by rw [Int.tdiv_eq_ediv_of_nonneg (by omega)]; omega
  have hk64 : wrap64 (k : Int) = (k : Int) := by unfold wrap64; omega
  have HLK := Aside0.mk hL
  clear hC hrI hL
  go_enter Try.func18, Try.ntmps18
  go_wp2_with (first
    | (go_at_call 14; (with_reducible refine (C1.out.q _).mono ?_); rintro e w1 ⟨rfl, ⟨⟨n1, rfl⟩⟩⟩)
    | (go_at_call 66; (with_reducible refine (CN.out _).mono ?_); rintro e wn ⟨bx, rfl, hg, hF, hb1⟩; have HBW := Aside0.mk (show Below w.heap.size w wn from below_then (pw_below_drewN (Below.refl _ _) n1) (Nat.le_refl _) hb1); have HBX := Aside0.mk (show w.heap.size ≤ bx from hg); have HXN := Aside0.mk (show BoxS wn bx from Or.inl hF); have HXL := Aside0.mk HXN.out.lt; clear hg hF hb1)
    | ((with_reducible refine gate_dst (N := 23) rfl ?_); refine Kd.R_lit (Kd.int .u8) wn.heap.size 5 ?hg (N := 23) ?hd (w0 := wn) (xs := ([] : List Int)) (inner := []) (ok := fun k => wn.heap.size ≤ k) (okp := fun _ => False) ?hr ?hp (fun _ hk => hk.elim) (Nat.le_refl _) (Below.refl _ _) (Nat.le_refl _) (by simp) ?_; (case hd => rfl); (case hg => rfl); (case hr => first | (go_simp; done) | (go_simp; rfl)); (case hp => exact (Reps.none _ _)); intro v1 w3 ho4 hb hg_ hnew_; have HN := Aside0.mk hb; obtain ⟨Av, cv, rfl, hcv, hrd⟩ := Kd.R_reads ho4; have HO := Aside0.mk ho4; clear hb ho4 hg_ hnew_ hrd hcv)
    | ((with_reducible refine gate_builtin (b := .append) (xs := #[.tmp 23, .tmp 24]) rfl ?_); refine Kd.R_append_rows (Kd.int .u8) (w0 := wn) wn.heap.size rfl (.tmp 23) (.tmp 24) 22 5 (.int .u8 0) 1 rfl Try.underlying22 info_u8 rfl (by decide) (by omega) _ [] (ib key) A _ _ (fun k => wn.heap.size ≤ k) (fun _ => False) rfl rfl HO.out (show ReadsRow _ _ _ _ _ _ from Kd.C_below HCK.out (below_then HBW.out HBW.out.size HN.out)) (fun _ _ h => h) (fun _ h => h.elim) (fun k hk => Nat.le_trans HN.out.size hk) HN.out HN.out.size ?aL ?_; (case aL => (have := HLK.out; simp only [List.length_nil]; omega)); intro v2 w5 ho hb hg hat; have HN := Aside0.mk hb; have ho' : Ow w5 wn.heap.size v2 (ib key) := Ow.of_R ho (Nat.le_refl _); obtain ⟨go, oo, co, hv, _⟩ := Kd.Q_form ho' (by rw [ib_length]; have := HLK.out; omega); rw [ib_length, hkl, ← HLK.out] at hv; subst hv; have HO := Aside0.mk ho'; clear ho ho' hb hg hat))
  have HC := Aside0.mk (Ch.of_below (g := bx) HN.out)
  have HX := Aside0.mk (HXN.out.below HN.out)
  clear HN HXN
  have HO := Aside0.mk (show Ow _ wn.heap.size _ (ib (allL key k 0)) by rw [allL_zero key k hkl]; exact HO.out)
  obtain ⟨M, hM⟩ : ∃ z, z = 4 * (rd + 1) - k := ⟨_, rfl⟩
  have HM := Aside0.mk (show k + M = 4 * (rd + 1) by omega)
  obtain ⟨ht1, ht2, ht3, ht4⟩ := ej rd k M hrd HM.out
  obtain ⟨rd1, hrd1⟩ : ∃ z, z = rd + 1 := ⟨_, rfl⟩
  rw [← hrd1] at ht1 ht2 ht3 ht4
  have HR1 := Aside0.mk hrd1
  obtain ⟨tot, htot⟩ : ∃ z, z = k + M := ⟨_, rfl⟩
  rw [← htot] at ht2 ht4
  have HTOT := Aside0.mk htot
  clear hM hrd1 htot hrz hrz2 hrz3 hL4 hL5 hk64
  go_loopg [7, 8] M (fun kq av iv w' => ∃ m go oo co n ii : Nat, m + kq = M ∧ ii = k + m ∧ n = 4 * (k + m) ∧ av = .slice (some ⟨go, oo, none⟩) n co ∧ iv = .int .i64 (ii : Int) ∧ Aside0 (Ow w' wn.heap.size (.slice (some ⟨go, oo, none⟩) n co) (ib (allL key k m))) ∧ Aside0 (BoxS w' bx) ∧ Aside0 (Ch bx wn w'))
  case atStart => exact ⟨0, go, oo, co, L, k, by omega, by omega, by have := HLK.out; omega, rfl, rfl, HO, HX, HC⟩
  case round =>
    clear HO HX HC
    obtain ⟨m, go, oo, co, n, ii, hm, hii, hn, rfl, rfl, HO, HX, HC⟩ := hrel
    cases gk with
    | zero =>
      obtain rfl : m = M := by omega
      have HIDX := Aside0.mk (And.intro hii hn)
      have htn : ¬ (ii : Int) < (tot : Int) := ntot HTOT.out hii
      have HALL := Aside0.mk (show (ib (allL key k m)).length = n by rw [ib_length, allL_length key k m hkl hk0, hn])
      have HRK := Aside0.mk (roundKeys_all key k rd m hkl HRN.out HM.out)
      have HNR := Aside0.mk (hnr k m n rd rd1 HM.out HR1.out hn hrd)
      clear hm hii hn
      have HCN := Aside0.mk HC.out.size
      go_wp2_with (first
        | ((with_reducible refine gate_dst (N := 81) rfl ?_); refine wp_make0 kH (W := wr) wr wn.heap.size 22 rfl 25 (.const (.int .i64 0)) (.tmp 80) rfl rd1 rfl rfl Try.underlying25 (.slice none 0 0) 24 info_sl (by decide) HNR.out.2.2 (fun k => wn.heap.size ≤ k) HCN.out (Below.refl _ _) HCN.out ?_; intro w7 ho hb hg; have HOUT := Aside0.mk (show Kd.Q kH 22 w7 wn.heap.size (fun k => wn.heap.size ≤ k) (.slice (some ⟨wr.heap.size, 0, none⟩) 0 rd1) (heads go oo 0) from Kd.Q_of_R ho); have HO := Aside0.mk (show Ow w7 wn.heap.size _ _ from Kd.Q_grown HO.out hg (fun _ _ e => by cases e)); have HX := Aside0.mk (show BoxS w7 bx from HX.out.grown hg (by simp)); have HC := Aside0.mk (Ch.belowB HC.out hb); clear ho hb hg))
      go_loopg [12, 84] rd1 (fun kq av jv w' => ∃ (r c2 : Nat) (A2 : Option Addr), r + kq = rd1 ∧ av = .slice A2 r c2 ∧ jv = .int .i64 (r : Int) ∧ Aside0 (Kd.Q kH 22 w' wn.heap.size (fun k => wn.heap.size ≤ k) (.slice A2 r c2) (heads go oo r)) ∧ Aside0 (Ow w' wn.heap.size (.slice (some ⟨go, oo, none⟩) n co) (ib (allL key k m))) ∧ Aside0 (BoxS w' bx) ∧ Aside0 (Ch bx wn w'))
      case atStart => exact ⟨0, rd1, _, by omega, rfl, rfl, HOUT, HO, HX, HC⟩
      case round =>
        clear HOUT HO HX HC
        obtain ⟨r, c2, A2, hr, rfl, rfl, HOUT, HO, HX, HC⟩ := hrel
        cases gk with
        | zero =>
          obtain rfl : r = rd1 := by omega
          have hnl : ¬ (r : Int) < (r : Int) := by omega
          have HQ := Aside0.mk (Kd.Q_reads' HOUT.out)
          go_wp2
          refine bodyPost_ret (results_tmp2 rfl _ _ _) rfl ⟨_, rfl, Ch.below HC.out HBW.out HBW.out.size HBX.out, A2, c2, ?_, ?_, ?_⟩
          · rw [HRK.out, List.length_map, List.length_range, ← HR1.out]; rfl
          · rw [HRK.out, List.length_map, List.length_range, ← HR1.out]; exact HQ.out.2.1
          · rw [HRK.out, List.length_map, List.length_range, ← HR1.out]
            exact fun W'' hW => rows_of ((Kd.Q_F HOUT.out) W'' (fun k hk hlt => hW k (Nat.le_trans HBW.out.size hk) hlt)) ((Kd.Q_F HO.out) W'' (fun k hk hlt => hW k (Nat.le_trans HBW.out.size hk) hlt)) (fun q hq => heads_get go oo r q hq) (Nat.le_of_eq HNR.out.1.symm)
        | succ k2 =>
          have hrl : r < rd1 := by omega
          have HJ3 := Aside0.mk (show r + 1 + k2 = rd1 by omega)
          obtain ⟨hrl2, i1, i2, i3, i4, hsm, h16⟩ := el r rd1 n co HNR.out.1 hrl HNR.out.2.1 (Kd.Q_reads' HO.out).2.1
          have HSM := Aside0.mk hsm
          obtain ⟨e1, e2, e3, p1, p2, p3⟩ := ek r n h16 HNR.out.2.1
          clear hsm h16
          have HHS := Aside0.mk (heads_succ go oo r)
          have HHL := Aside0.mk (heads_length go oo r)
          obtain ⟨r16, hr16⟩ : ∃ z, z = 16 * r := ⟨_, rfl⟩
          obtain ⟨r17, hr17⟩ : ∃ z, z = 16 * (r + 1) := ⟨_, rfl⟩
          rw [← hr16] at e1 p1 i1 i3 i4 HHS
          rw [← hr17] at e3 p3 i1 i2 i4
          have HNX := Aside0.mk (And.intro e2 p2)
          obtain ⟨rp, hrp⟩ : ∃ z, z = r + 1 := ⟨_, rfl⟩
          rw [← hrp] at e2 p2 e3 p3 HHS HJ3 HNX
          have HRB := Aside0.mk HC.out.size
          have HRP := Aside0.mk hrp
          clear hr16 hr17 hrp hr hrl e1 e2 e3
          generalize heads go oo r = hl at *
          go_wp2_with (first
            | ((with_reducible refine gate_builtin (b := .append) (xs := #[.tmp 87, .tmp 98]) rfl ?_); refine Kd.Q_append kH (W := wr) (w0 := wr) wn.heap.size rfl (.tmp 87) (.tmp 98) 25 22 (.slice none 0 0) 24 rfl Try.underlying25 info_sl rfl (by decide) (by decide) _ hl (⟨go, oo + r16, none⟩, 16, 16) [.slice (some ⟨go, oo + r16, none⟩) 16 16] (fun k => wn.heap.size ≤ k) (fun _ => False) rfl rfl rfl (fun _ hk => hk.elim) (fun k hk => Nat.le_trans HRB.out hk) HOUT.out (Below.refl _ _) HRB.out (by rw [HHL.out]; exact HSM.out) ?_; intro v2 w7 ho hb hg hat; obtain ⟨A3, c3, hv3⟩ := Kd.Q_slice ho; have ho2 := ho; rw [HHS.out] at ho2; rw [List.length_append, HHL.out, List.length_singleton, ← HRP.out] at hv3; obtain ⟨hv3, _⟩ := hv3; subst hv3; have HO := Aside0.mk (show Ow w7 wn.heap.size _ _ from Kd.Q_over' HO.out (Kd.Q_typed HOUT.out) (by intro q hq; simp [Kd.int, Kd.scalar] at hq; subst hq; decide) hg); have HX := Aside0.mk (HX.out.belowB hb HXL.out); have HC := Aside0.mk (Ch.belowB HC.out hb); have HOUT := Aside0.mk ho2; clear ho ho2 hb hg hat))
          go_roundg k2
          case measure => omega
          case rel => exact ⟨rp, c3, A3, HJ3.out, rfl, by first | rfl | rw [HNX.out.1] | rw [HNX.out.2], HOUT, HO, HX, HC⟩
    | succ k1 =>
      have hml : m < M := by omega
      have htl : (ii : Int) < (tot : Int) := ltot HTOT.out hii hml
      have hbig : k + m < 1000 := by have := HM.out; omega
      have HJ := Aside0.mk (show m + 1 + k1 = M by omega)
      obtain ⟨e1, e2, e3, e4, e5, e6, p1, p2, p3, p4, p5, p6⟩ := ei k m n hk0 hbig hn
      have hco := (Kd.Q_reads' HO.out).2.1
      have SP := Aside0.mk (sub_c HO.out (k + m - 1) (4 * (k + m - 1)) rfl (by omega))
      have SD := Aside0.mk (sub_c HO.out m (4 * m) rfl (by omega))
      rw [allL_four key k m _ hkl hk0 (by omega)] at SP SD
      have hpl : (wordAt (wordsTo key k m) (k + m - 1)).length = 4 := (wordsTo_four key k hkl hk0 m).at_ (by rw [wordsTo_length]; omega)
      have CM := Aside0.mk (fun W h h2 => made_c (wordAt (wordsTo key k m) (k + m - 1)) hpl (k + m) k hk0 hk8 (by have := HM.out; omega) bx (some ⟨go, oo + 4 * (k + m - 1), none⟩) 4 (Nat.le_refl _) W h h2)
      have i1 : ((4 * (k + m - 1) : Nat) : Int) ≤ (n : Int) := by omega
      have i2 : (n : Int) ≤ (co : Int) := by omega
      have i3 : (0 : Int) ≤ ((4 * (k + m - 1) : Nat) : Int) := by omega
      have i4 : ((4 * m : Nat) : Int) ≤ ((4 * m + 4 : Nat) : Int) := by omega
      have i5 : ((4 * m + 4 : Nat) : Int) ≤ (co : Int) := by omega
      have i6 : (0 : Int) ≤ ((4 * m : Nat) : Int) := by omega
      have i7 : n - 4 * (k + m - 1) = 4 := by omega
      have i8 : 4 * m + 4 - 4 * m = 4 := by omega
      obtain ⟨a, ha⟩ : ∃ z, z = 4 * (k + m - 1) := ⟨_, rfl⟩
      obtain ⟨ii1, hii1⟩ : ∃ z, z = k + m - 1 := ⟨_, rfl⟩
      obtain ⟨m4, hm4⟩ : ∃ z, z = 4 * m := ⟨_, rfl⟩
      obtain ⟨m5, hm5⟩ : ∃ z, z = m4 + 4 := ⟨_, rfl⟩
      rw [← ha] at e2 p2 SP CM i1 i3 i7
      rw [← hii1] at e1 e2 p1 p2 SP CM
      rw [← hii] at e1 e3 e4 p1 p3 p4 CM
      rw [← hm4] at e5 e6 p5 p6 SD i4 i5 i6 i8
      rw [← hm5] at e6 p6 i4 i5 i8
      have HIDX := Aside0.mk (show a = 4 * (k + m - 1) ∧ ii = k + m ∧ m4 = 4 * m ∧ n = 4 * (k + m) from ⟨ha, hii, hm4, hn⟩)
      have HN4 := Aside0.mk (show n + 8 ≤ 140737488355328 ∧ 0 < n by omega)
      have HWL := Aside0.mk (wordB_length (wordsTo key k m) (k + m) k hpl)
      have HWT := Aside0.mk (fun j (hj : j < 4) => wordB_take (wordsTo key k m) (k + m) k j hj hpl)
      have HML := Aside0.mk (show (madeB (wordAt (wordsTo key k m) (k + m - 1)) (k + m) k).length = 4 from madeB_length _ _ _ hpl)
      have HAS := Aside0.mk (allL_succ key k m)
      have HAL := Aside0.mk (show (ib (allL key k m)).length = n by rw [ib_length, allL_length key k m hkl hk0, hn])
      rw [show k + m - k = m by omega] at HWT
      rw [← hii1, ← hii] at HWT HML
      rw [← hii] at HWL HAS
      clear ha hii1 hii hm4 hm5 hn hbig hm hml hpl
      generalize wordAt (wordsTo key k m) m = od at *
      generalize madeB (wordAt (wordsTo key k m) ii1) ii k = md at *
      generalize wordB (wordsTo key k m) ii k = nw at *
      have hgo := Kd.Q_base HO.out go rfl
      have HGX := Aside0.mk (show go ≠ bx by have := HXL.out; omega)
      have HGN := Aside0.mk (show go < wr.heap.size from Kd.Q_lt HO.out go rfl)
      clear hgo
      go_wp2_with (first
        | (go_at_call 67; (refine (CM.out _ SP.out.1 HX.out).mono ?_); rintro e w6 ⟨vw, rfl, hw, hx6, hc6⟩; have HO := Aside0.mk (HO.out.ch hc6 HXL.out); have HX := Aside0.mk hx6; have SD := Aside0.mk (fun (q : Nat) (hq : q < 4) => ch_cell hc6 (SD.out.2 q hq) HGX.out); have HCS := Aside0.mk HC.out.size; have HC := Aside0.mk (HC.out.trans hc6); obtain ⟨gw, ow, cw, hv, hbw, _⟩ := Kd.Q_form hw (by rw [ib_length, HML.out]; decide); rw [ib_length, HML.out] at hv; subst hv; have HGW := Aside0.mk (show go ≠ gw by have := HGN.out; omega); have HW := Aside0.mk (show Ow w6 wn.heap.size _ _ from Ow.of_Q hw HCS.out); clear hw hx6 hc6 hbw))
      have HI := Aside0.mk (show Inn wn w6 bx go oo gw ow cw m4 md od (ib (allL key k m) ++ ib (nw.take 0)) go oo n co from ⟨by rw [List.take_zero, ib_nil, List.append_nil]; exact HO.out, .inl ⟨rfl, rfl⟩, HGW.out, HW.out, SD.out, HX.out, HC.out, Kd.Q_lt HO.out go rfl⟩)
      clear HO HX HC SD HW HGW CM SP e1 e2 e3 e4 e5 e6 p1 p2 p3 p4 p5 p6 i1 i2 i3 i4 i5 i6 i7 i8 htl hco
      go_loopg [7, 64] 4 (fun kq av jv w' => ∃ j g1 o1 c1 nn : Nat, j + kq = 4 ∧ nn = n + j ∧ av = .slice (some ⟨g1, o1, none⟩) nn c1 ∧ jv = .int .i64 (j : Int) ∧ Aside0 (Inn wn w' bx go oo gw ow cw m4 md od (ib (allL key k m) ++ ib (nw.take j)) g1 o1 nn c1))
      case atStart => exact ⟨0, go, oo, co, n, by omega, rfl, rfl, rfl, HI⟩
      case round =>
        clear HI
        obtain ⟨j, g1, o1, c1, nn, hj, hnn, rfl, rfl, HI⟩ := hrel
        have HNN := Aside0.mk hnn
        clear hnn
        cases gk with
        | zero =>
          obtain rfl : j = 4 := by omega
          have HII := Aside0.mk (show wrap64 ((ii : Int) + 1) = ((ii + 1 : Nat) : Int) from w64n _ (by have := HIDX.out; have := HN4.out; omega))
          go_wp2
          go_roundg k1
          case measure => omega
          case rel =>
            refine ⟨m + 1, g1, o1, c1, nn, ii + 1, HJ.out, by have := HIDX.out; omega, by have := HIDX.out; have := HNN.out; omega, rfl, by rw [HII.out], ⟨?_⟩, ⟨HI.out.2.2.2.2.2.1⟩, ⟨HI.out.2.2.2.2.2.2.1⟩⟩
            rw [HAS.out, ib_append]
            have := HI.out.1
            rwa [List.take_of_length_le (by rw [HWL.out]; decide)] at this
        | succ k2 =>
          have hjl : j < 4 := by omega
          have h0 : (0 : Int) ≤ (j : Int) := by omega
          have h1 : (j : Int) < 4 := by omega
          have HJ2 := Aside0.mk (show j + 1 + k2 = 4 by omega)
          obtain ⟨hi1, hi2, hi3, hi4, hi5, hi6, hi7, hi8⟩ := HI.out
          have hx := hi5 j hjl
          obtain ⟨hy0, hf⟩ := Kd.Q_cell (0 : Int) hi4 (j : Int) h0 h1
          rw [Int.toNat_natCast] at hy0 hf
          have hy := show _ = some (Value.int .u8 ((ib md).getD (j : Int).toNat 0)) from hy0
          rw [Int.toNat_natCast, ib_getD] at hy
          have z1 := xor8 (od.getD j 0#8) (md.getD j 0#8)
          have HT := Aside0.mk (show ib (allL key k m) ++ ib (nw.take (j + 1)) = (ib (allL key k m) ++ ib (nw.take j)) ++ [I8 (od.getD j 0#8 ^^^ md.getD j 0#8)] by rw [HWT.out j hjl, ib_append, List.append_assoc]; rfl)
          have HLN := Aside0.mk (show (ib (allL key k m) ++ ib (nw.take j)).length = nn by rw [List.length_append, HAL.out, ib_length, List.length_take, HWL.out, HNN.out]; omega)
          have HBN := Aside0.mk (show wn.heap.size ≤ wr.heap.size from hi7.size)
          have HOI := Aside0.mk hi1
          clear hi1 hi2 hi3 hi4 hi5 hi6 hi7 hi8 hy0 hj hf
          generalize od.getD j 0#8 ^^^ md.getD j 0#8 = pz at *
          generalize od.getD j 0#8 = xz at *
          generalize md.getD j 0#8 = yz at *
          generalize ib (allL key k m) ++ ib (nw.take j) = ll at *
          go_wp2_with (first
            | ((with_reducible refine gate_builtin (b := .append) (xs := #[.tmp 69, .tmp 76]) rfl ?_); refine wp_app (W := wr) wr wn.heap.size rfl (.tmp 69) (.tmp 76) rfl (I8 pz) rfl rfl HOI.out HLN.out (by have := HNN.out; have := HN4.out; omega) (by have := HNN.out; have := HN4.out; omega) (Below.refl _ _) HBN.out ?_; intro v2 w7 ho hb hg hform hkeep; obtain ⟨g2, o2, c2, hv2, hI2⟩ := HI.out.step HXL.out (by have := HNN.out; have := HIDX.out; have := HN4.out; omega) HLN.out ho hb hg hform hkeep; subst hv2; have HI2 := Aside0.mk hI2; clear ho hb hg hform hkeep hI2))
          go_roundg k2
          case measure => omega
          case rel => exact ⟨j + 1, g2, o2, c2, nn + 1, HJ2.out, by have := HNN.out; omega, rfl, by go_num, ⟨by rw [HT.out]; exact HI2.out⟩⟩
end Go.Proofs.Ytpdikfmdnlhllaa.Aes
namespace Go.Proofs.Ytpdikfmdnlhllaa.Aes
open Go.RowKit Go.Proofs.Ytpdikfmdnlhllaa.PNib Go.Proofs.YtpdikfmdnlhllaaW.PrintWords Go.Proofs.YtpdikfmdnlhllaaW.PrintLast Go.Proofs.YtpdikfmdnlhllaaW.PrintMore Byte Sl Arr Mem Gives ArrEq Mat AesMath AesMov AesLin HandKit
set_option linter.unusedVariables false
set_option linter.unusedSimpArgs false
theorem expand_ok (key : List B) (hr : roundsN key.length ≠ 0) (A : Option Addr) (c : Nat) (hc : key.length ≤ c) (w : World) (hC : Kd.C (Kd.int .u8) w A key.length (ib key)) : Calls Try.prog 18 #[.slice A key.length c] w fun e w' => ∃ v, e = .returned (.tuple #[v, .int .i64 0]) ∧ Below w.heap.size w w' ∧ RK w' w.heap.size v (roundKeys key) := by
  rcases roundsN_pos hr with ⟨h, h2⟩ | ⟨h, h2⟩ | ⟨h, h2⟩
  · have := expand_c key 4 10 h (by decide) (by decide) (by decide) (by decide) (by decide) (by decide) h2 A c (by omega) w (by rw [h] at hC; exact hC)
    rw [h]; exact this
  · have := expand_c key 6 12 h (by decide) (by decide) (by decide) (by decide) (by decide) (by decide) h2 A c (by omega) w (by rw [h] at hC; exact hC)
    rw [h]; exact this
  · have := expand_c key 8 14 h (by decide) (by decide) (by decide) (by decide) (by decide) (by decide) h2 A c (by omega) w (by rw [h] at hC; exact hC)
    rw [h]; exact this
set_option maxHeartbeats 4000000 in
set_option maxRecDepth 100000 in
theorem new_c (key : List B) (hr : roundsN key.length ≠ 0) (A : Option Addr) (c : Nat) (hc : key.length ≤ c) (w : World) (hC : Kd.C (Kd.int .u8) w A key.length (ib key)) : Calls Try.prog 30 #[.slice A key.length c] w fun e w' => ∃ g bx, e = .returned (.tuple #[.pointer (some ⟨g, 0, none⟩), .int .i64 0]) ∧ Cph w' g bx (roundKeys key) ∧ w.heap.size ≤ g ∧ w.heap.size ≤ bx ∧ Below w.heap.size w w' := by
  have CE := Aside0.mk (expand_ok key hr A c hc w hC)
  have CN := Aside0.mk newbox_c
  clear hC hr hc
  go_enter Try.func30, Try.ntmps30
  go_wp2_with (first
    | (go_at_call 18; (refine (CE.out).mono ?_); rintro e w1 ⟨v, rfl, hb, Ak, ck, rfl, hck, hF⟩; have HB := Aside0.mk hb; have HS1 := Aside0.mk hb.size; have HF := Aside0.mk hF; have HCK := Aside0.mk hck; clear hb hF hck)
    | (go_at_call 66; (with_reducible refine (CN.out _).mono ?_); rintro e wn ⟨bx, rfl, hg, hF2, hb1⟩; have HBX := Aside0.mk hg; have HX := Aside0.mk (show BoxS wn bx from Or.inl hF2); have HF := Aside0.mk (Kd.F_below (Kd.F_bound HF.out) hb1); have HBS := Aside0.mk hb1.size; have HB := Aside0.mk (below_step HB.out hb1); clear hg hF2 hb1))
  refine bodyPost_ret (results_tmp2 rfl _ _ _) rfl ⟨wn.heap.size, bx, rfl, ⟨⟨Ak, ck, blk_new _ _, HCK.out, ?_⟩, HX.out.below (below_alloc (Below.refl _ _) _)⟩, HB.out.size, Nat.le_trans HS1.out HBX.out, below_alloc HB.out _⟩
  · exact Kd.F_mono (Kd.F_alloc HF.out _) (fun k hk e => by have := HBX.out; have := hk.2; omega)
end Go.Proofs.Ytpdikfmdnlhllaa.Aes
namespace Go.Proofs.Ytpdikfmdnlhllaa.Aes
open Go.RowKit Go.Proofs.Ytpdikfmdnlhllaa.PNib Go.Proofs.YtpdikfmdnlhllaaW.PrintWords Byte Sl Arr Mem Gives ArrEq Mat AesMath
set_option linter.unusedVariables false
abbrev kW : Kd (List Int) := Kd.arr 4 (Kd.int .u8) (by decide)
theorem words_cells {w : World} {A : Option Addr} {n : Nat} {ws : List (List B)} (h : kW.C w A n (ws.map ib)) (i : Nat) (hi : i < n) : ∃ ad, A = some ad ∧ (wordAt ws i).length = 4 ∧ ∀ s, s < 4 → w.cell? (ad.add (i * 4 + s)) = some (.int .u8 (I8 ((wordAt ws i).getD s 0#8))) := by
  obtain ⟨ad, c, e, hc, hR, hcc⟩ := ReadsRow.get_ h [] (i : Int) (by omega) (by omega)
  have hl : i < ws.length := by have := h.1; rw [List.length_map] at this; omega
  have e2 : (ws.map ib).getD (i : Int).toNat [] = ib (wordAt ws i) := by
    unfold wordAt
    rw [Int.toNat_natCast, List.getD_eq_getElem?_getD, List.getD_eq_getElem?_getD, List.getElem?_map, List.getElem?_eq_getElem hl]
    rfl
  rw [e2] at hR
  obtain ⟨h4, hrep⟩ := hR
  rw [ib_length] at h4
  refine ⟨ad, e, h4, fun s hs => ?_⟩
  have hp := hrep.2 s (I8 ((wordAt ws i).getD s 0#8)) (by rw [← ib_getD, List.getD_eq_getElem?_getD, List.getElem?_eq_getElem (by rw [ib_length, h4]; exact hs)]; rfl)
  have hp := show (c.drop (s * 1)).take 1 = [Value.int .u8 (I8 ((wordAt ws i).getD s 0#8))] from hp
  have h5 : c[s]? = some (Value.int .u8 (I8 ((wordAt ws i).getD s 0#8))) := by
    have := congrArg (fun l => l[0]?) hp
    simpa using this
  have := hcc s _ h5
  rw [Int.toNat_natCast] at this
  exact this
/-- Word i, as it is read whole. -/
theorem words_range {w : World} {g o n : Nat} {ws : List (List B)} (h : kW.C w (some ⟨g, o, none⟩) n (ws.map ib)) (i : Nat) (hi : i < n) : (wordAt ws i).length = 4 ∧ w.rangeAt g (o + i * 4) ((ib (wordAt ws i)).map (Value.int .u8)) := by
  obtain ⟨ad, e, h4, hc⟩ := words_cells h i hi
  obtain rfl := Option.some.inj e
  refine ⟨h4, fun j v hv => ?_⟩
  rw [List.getElem?_map] at hv
  obtain ⟨x, hx, rfl⟩ := Option.map_eq_some_iff.1 hv
  have hj : j < 4 := by
    have := (List.getElem?_eq_some_iff.1 hx).1
    rw [ib_length, h4] at this
    exact this
  have h5 := hc j hj
  rw [add_at] at h5
  rw [Nat.add_assoc, h5, ← ib_getD, List.getD_eq_getElem?_getD, hx]
  rfl
end Go.Proofs.Ytpdikfmdnlhllaa.Aes
namespace Go.Proofs.Ytpdikfmdnlhllaa.Aes
open Go.RowKit Go.Proofs.Ytpdikfmdnlhllaa.PNib Go.Proofs.YtpdikfmdnlhllaaW.PrintWords Go.Proofs.YtpdikfmdnlhllaaW.PrintLast Go.Proofs.YtpdikfmdnlhllaaW.PrintMore Byte Sl Arr Mem Gives ArrEq Mat AesMath AesMov AesLin HandKit
set_option linter.unusedVariables false
set_option linter.unusedSimpArgs false
def z4 : List Int := [0, 0, 0, 0]
theorem info4 : (Try.prog.info? 83).map (·.size) = some 4 := by kernel_rfl
theorem i1 (i : Nat) (h : 0 < i) (h2 : i < 100) : wrap64 ((i : Int) - 1) = ((i - 1 : Nat) : Int) ∧ IntKind.i64.wrap ((i : Int) - 1) = ((i - 1 : Nat) : Int) := by
  refine ⟨?_, ?_⟩
  · unfold wrap64; omega
  · rw [IntKind.wrap_i64]; omega
theorem ik_ (i k : Nat) (h : k ≤ i) (h2 : i < 100) : wrap64 ((i : Int) - (k : Int)) = ((i - k : Nat) : Int) ∧ IntKind.i64.wrap ((i : Int) - (k : Int)) = ((i - k : Nat) : Int) := by
  refine ⟨?_, ?_⟩
  · unfold wrap64; omega
  · rw [IntKind.wrap_i64]; omega
theorem qs (q : Nat) (h : q < 100) : wrap64 (q : Int) = (q : Int) ∧ IntKind.i64.wrap (q : Int) = (q : Int) := ⟨by unfold wrap64; omega, by rw [IntKind.wrap_i64]; omega⟩
theorem mods (i k : Nat) (m q : Nat) (hm : m = i % k) (hq : q = i / k) (hk : 0 < k) : Int.tmod (i : Int) (k : Int) = (m : Int) ∧ (i : Int) % (k : Int) = (m : Int) ∧ Int.tdiv (i : Int) (k : Int) = (q : Int) ∧ (i : Int) / (k : Int) = (q : Int) := by
  have h0 : (0 : Int) ≤ (i : Int) := Int.natCast_nonneg _
  refine ⟨?_, ?_, ?_, ?_⟩
  · rw [Int.tmod_eq_emod_of_nonneg h0, hm]; rfl
  · rw [hm]; rfl
  · rw [Int.tdiv_eq_ediv_of_nonneg h0, hq]; rfl
  · rw [hq]; rfl
theorem rmark_c (q : Nat) (h : q < 100) : GivesB 17 #[.int .i64 (q : Int)] (.int .u8 (I8 (AesMath.mark q))) := fun w => (visorref08_Mark.calls 300 _ _ w (rmark_i q (by omega) (by omega))).mono fun _ _ ⟨a, b⟩ => ⟨a, b.below⟩
theorem cell4 {w : World} {g : Nat} {t : TypeId} {p0 p1 p2 p3 : B} (h : Mem .u8 w g t (ib [p0, p1, p2, p3])) : w.cell? ⟨g, 0, none⟩ = some (.int .u8 (I8 p0)) ∧ w.cell? ⟨g, 1, none⟩ = some (.int .u8 (I8 p1)) ∧ w.cell? ⟨g, 2, none⟩ = some (.int .u8 (I8 p2)) ∧ w.cell? ⟨g, 3, none⟩ = some (.int .u8 (I8 p3)) :=
  ⟨h.cell 0 (by show 0 < 4; decide), h.cell 1 (by show 1 < 4; decide), h.cell 2 (by show 2 < 4; decide), h.cell 3 (by show 3 < 4; decide)⟩
theorem store4_yields {o : Oper} {a : Act} {w : World} {x y : Operand} {g : Nat} {l l2 : List Int} (h : Mem .u8 w g 83 l) (hl : l.length = 4) (hl2 : l2.length = 4) (ho : o.op = .store 83 x y) (hx : a.eval x = .pointer (some ⟨g, 0, none⟩)) (hy : a.eval y = .agg (cellsOf .u8 l2)) : (execOp a.eval o).run Try.prog w = .ok .skip (w.setRow g (cellsOf .u8 l2)) :=
  store_yields ho hx hy h (by rw [cellsOf_size, hl2]; exact info4) (by rw [cellsOf_size, cellsOf_size, hl, hl2]) (by simp [cellsOf, Value.oneCell'])
theorem four_of (l : List B) (h : l.length = 4) : ∃ p0 p1 p2 p3, l = [p0, p1, p2, p3] := by
  match l, h with
  | [a, b, c, d], _ => exact ⟨a, b, c, d, rfl⟩
theorem wb_get (ws : List (List B)) (i k j : Nat) (m4 : List B) (hm : madeB (wordAt ws (i - 1)) i k = m4) (h4 : m4.length = 4) (hj : j < 4) : (ib (wordB ws i k)).getD j 0 = I8 (m4.getD j 0#8 ^^^ (wordAt ws (i - k)).getD j 0#8) := by
  rw [ib_getD]
  unfold wordB
  rw [hm, xorL_get _ _ _ (by rw [h4]; exact hj)]
set_option maxHeartbeats 4000000 in
set_option maxRecDepth 100000 in
theorem rword_c (ws : List (List B)) (n : Nat) (i k : Nat) (hik : k ≤ i) (hi : i ≤ n) (hn : n < 100) (hk0 : 0 < k) (hk8 : k ≤ 8) (g o c : Nat) (hc : n ≤ c) (w : World) (hC : kW.C w (some ⟨g, o, none⟩) n (ws.map ib)) : Calls Try.prog 68 #[.slice (some ⟨g, o, none⟩) n c, .int .i64 (i : Int), .int .i64 (k : Int)] w fun e w' => e = .returned (.agg (cellsOf .u8 (ib (wordB ws i k)))) ∧ Below w.heap.size w w' := by
  obtain ⟨hl1, hR1⟩ := words_range hC (i - 1) (by omega)
  obtain ⟨e1, e2⟩ := i1 i (by omega) (by omega)
  obtain ⟨e3, e4⟩ := ik_ i k hik (by omega)
  obtain ⟨ad, ea, hl2, hcell⟩ := words_cells hC (i - k) (by omega)
  obtain rfl := Option.some.inj ea
  obtain ⟨p0, p1, p2, p3, hp⟩ := four_of _ hl1
  have HG0 := fun (m4 : List B) (hm : madeB (wordAt ws (i - 1)) i k = m4) (h4 : m4.length = 4) j (hj : j < 4) => wb_get ws i k j m4 hm h4 hj
  have HRL := Aside0.mk (show (ib (wordB ws i k)).length = 4 by rw [ib_length, wordB_length _ _ _ hl1])
  obtain ⟨ik, hik2⟩ : ∃ z, z = i - k := ⟨_, rfl⟩
  rw [← hik2] at e3 e4 hl2 hcell HG0
  have HOW := Aside0.mk (fun (W : World) (hb : Below w.heap.size w W) (j : Nat) (h : j < 4) => show W.cell? ⟨g, o + ik * 4 + j, none⟩ = some (.int .u8 (I8 ((wordAt ws ik).getD j 0#8))) by
    have := pw_cell_below hb (hcell j h)
    rw [add_at, ← Nat.add_assoc] at this
    exact this)
  have hi0 : (0 : Int) ≤ (ik : Int) := by omega
  have hi9 : (ik : Int) < (n : Int) := by omega
  rw [hp] at hR1 HG0
  obtain ⟨R, hR⟩ : ∃ z, z = wordB ws i k := ⟨_, rfl⟩
  rw [← hR] at HG0 HRL ⊢
  clear hR
  have M1 := Aside0.mk (Mem.alloc (Mem.new .u8 w 83 z4) (.cells (cellsOf .u8 z4) 83))
  have HB := Aside0.mk (below_alloc (below_alloc (Below.refl w.heap.size w) (.cells (cellsOf .u8 z4) 83)) (.cells (cellsOf .u8 z4) 83))
  have HRA := Aside0.mk (show (w.alloc (.cells (cellsOf .u8 z4) 83)).rangeAt g (o + (i - 1) * 4) _ from fun j v hv => pw_cell_below (below_alloc (Below.refl _ _) _) (hR1 j v hv))
  have M2 := Aside0.mk (Mem.new2 .u8 w (.cells (cellsOf .u8 z4) 83) 83 z4)
  have LW := Aside0.mk (show (ib [p0, p1, p2, p3]).length = 4 from rfl)
  have hp0 : (0 : Int) ≤ ((i - 1 : Nat) : Int) := by omega
  have hpn : ((i - 1 : Nat) : Int) < (n : Int) := by omega
  obtain ⟨m, hm⟩ : ∃ m, m = i % k := ⟨_, rfl⟩
  obtain ⟨q, hq⟩ : ∃ q, q = i / k := ⟨_, rfl⟩
  obtain ⟨ht1, ht2, hd1, hd2⟩ := mods i k m q hm hq hk0
  have HQ := Aside0.mk (show q < 100 by rw [hq]; exact Nat.lt_of_le_of_lt (Nat.div_le_self i k) (Nat.lt_of_le_of_lt hi hn))
  obtain ⟨hq6, hq7⟩ := qs q HQ.out
  have hkz : ((k : Int) = 0) = False := by apply eq_false; omega
  have hkz2 : ((k : Int) == 0) = false := by rw [beq_eq_false_iff_ne]; omega
  have hkz3 : (k = 0) = False := by apply eq_false; omega
  clear hR1 hl1 hC hcell hl2 hp
  obtain ⟨m4, hm4⟩ : ∃ z, z = madeB [p0, p1, p2, p3] i k := ⟨_, rfl⟩
  have HG := Aside0.mk (HG0 m4 hm4.symm (by rw [hm4]; exact madeB_length _ _ _ rfl))
  have LM := Aside0.mk (show (ib m4).length = 4 by rw [ib_length, hm4]; exact madeB_length _ _ _ rfl)
  have hcs : (m = 0 ∧ m4 = [subB p1 ^^^ AesMath.mark q, subB p2, subB p3, subB p0]) ∨ (k = 8 ∧ m = 4 ∧ m4 = [subB p0, subB p1, subB p2, subB p3]) ∨ (m ≠ 0 ∧ k = 8 ∧ m ≠ 4 ∧ m4 = [p0, p1, p2, p3]) ∨ (m ≠ 0 ∧ k ≠ 8 ∧ m4 = [p0, p1, p2, p3]) := by
    rw [hm4]
    unfold madeB
    rw [← hm, ← hq]
    by_cases hz : m = 0
    · rw [if_pos hz]; exact .inl ⟨hz, rfl⟩
    · rw [if_neg hz]
      by_cases h8 : k = 8
      · subst h8
        by_cases h4 : m = 4
        · rw [if_pos ⟨rfl, by rw [← hm]; exact h4⟩]; exact .inr (.inl ⟨rfl, h4, rfl⟩)
        · rw [if_neg (fun e => h4 (by rw [hm]; exact e.2))]; exact .inr (.inr (.inl ⟨hz, rfl, h4, rfl⟩))
      · rw [if_neg (fun e => h8 e.1)]; exact .inr (.inr (.inr ⟨hz, h8, rfl⟩))
  have CM := Aside0.mk (rmark_c q HQ.out)
  have CS0 := Aside0.mk (rsub_c p0)
  have CS1 := Aside0.mk (rsub_c p1)
  have CS2 := Aside0.mk (rsub_c p2)
  have CS3 := Aside0.mk (rsub_c p3)
  clear hm4 HG0 hm hq hik hi hn hik2 hk0
  generalize AesMath.mark q = mk at *
  generalize subB p0 = s0 at *
  generalize subB p1 = s1 at *
  generalize subB p2 = s2 at *
  generalize subB p3 = s3 at *
  rcases hcs with ⟨hz, hv⟩ | ⟨hz, hz4, hv⟩ | ⟨hz, hk, h4, hv⟩ | ⟨hz, hk, hv⟩
  case' inl =>
    have HM4 := Aside0.mk hv
    subst hz
    clear hv
    have z1 := xor8 s1 mk
    go_enter Try.func68, Try.ntmps68
    go_wp2_with (first
      | ((with_reducible refine gate_dst (N := 13) rfl ?_); go_loud (refine wpList_load_mid rfl 83 (.tmp 12) rfl g (o + (i - 1) * 4) rfl _ _ HRA.out Try.underlying83 rfl (by rw [List.length_map, LW.out]; exact info4) ?_))
      | ((with_reducible refine gate_store (t := 83) (p := 7) rfl ?_); go_loud (refine Mem.store (l' := ib [p0, p1, p2, p3]) M2.out rfl 83 (.tmp 7) (.tmp 13) rfl rfl rfl info4 rfl ?_; (have M1 := Aside0.mk (Mem.row M1.out (g' := (w.heap.size + 1)) (by omega) (cellsOf .u8 (ib [p0, p1, p2, p3])))); (have HB := Aside0.mk (below_setRow HB.out (by omega : w.heap.size ≤ w.heap.size + 1) (cellsOf .u8 (ib [p0, p1, p2, p3])))); (have M2 := Aside0.mk (Mem.put M2.out (ib [p0, p1, p2, p3]))))))
    refine start_ (n := 19) (S := fun w' => w'.cell? ⟨w.heap.size + 1, 1, none⟩ = some (.int .u8 (I8 p1)) ∧ w'.cell? ⟨w.heap.size + 1, 2, none⟩ = some (.int .u8 (I8 p2)) ∧ w'.cell? ⟨w.heap.size + 1, 3, none⟩ = some (.int .u8 (I8 p3)) ∧ w'.cell? ⟨w.heap.size + 1, 0, none⟩ = some (.int .u8 (I8 p0))) (ds := [18]) #[false, false, false, false, false, false, false, false, false, false, false, false, false, false, false, false, false, false, false] (by kernel_rfl) rfl rfl ⟨(cell4 (Mem.drew M2.out)).2.1, (cell4 (Mem.drew M2.out)).2.2.1, (cell4 (Mem.drew M2.out)).2.2.2, (cell4 (Mem.drew M2.out)).1⟩ (fun hHeld => ?_)
    refine pure_ (i := 0) (N := some 18) (v := ?_) (a' := ?_) #[true, false, false, false, false, false, false, false, false, false, false, false, false, false, false, false, false, false, false] rfl rfl (by kernel_rfl) (fun _ _ _ h => h) (Or.inl ⟨by rfl, ?_⟩) ?_ ?_
    rotate_left
    · intro w'
      go_simp
      with_reducible rfl
    rotate_left
    · simp only [Act.put, List.setIfInBounds_toArray, List.set_cons_zero, List.set_cons_succ, i64_w, i32_w]
      rfl
    refine pure_ (i := 3) (N := some 21) (v := ?_) (a' := ?_) #[true, false, false, true, false, false, false, false, false, false, false, false, false, false, false, false, false, false, false] rfl rfl (by kernel_rfl) (fun _ _ _ h => h) (Or.inl ⟨by rfl, ?_⟩) ?_ ?_
    rotate_left
    · intro w'
      go_simp
      with_reducible rfl
    rotate_left
    · simp only [Act.put, List.setIfInBounds_toArray, List.set_cons_zero, List.set_cons_succ, i64_w, i32_w]
      rfl
    refine pure_ (i := 4) (N := some 22) (v := ?_) (a' := ?_) #[true, false, false, true, true, false, false, false, false, false, false, false, false, false, false, false, false, false, false] rfl rfl (by kernel_rfl) (fun _ _ _ h => h) (Or.inl ⟨by rfl, ?_⟩) ?_ ?_
    rotate_left
    · intro w'
      go_simp
      with_reducible rfl
    rotate_left
    · simp only [Act.put, List.setIfInBounds_toArray, List.set_cons_zero, List.set_cons_succ, i64_w, i32_w]
      rfl
    refine pure_ (i := 5) (N := some 23) (v := ?_) (a' := ?_) #[true, false, false, true, true, true, false, false, false, false, false, false, false, false, false, false, false, false, false] rfl rfl (by kernel_rfl) (fun _ _ _ h => h) (Or.inl ⟨by rfl, ?_⟩) ?_ ?_
    rotate_left
    · intro w'
      go_simp
      with_reducible rfl
    rotate_left
    · simp only [Act.put, List.setIfInBounds_toArray, List.set_cons_zero, List.set_cons_succ, i64_w, i32_w]
      rfl
    refine pure_ (i := 8) (N := some 26) (v := ?_) (a' := ?_) #[true, false, false, true, true, true, false, false, true, false, false, false, false, false, false, false, false, false, false] rfl rfl (by kernel_rfl) (fun _ _ _ h => h) (Or.inl ⟨by rfl, ?_⟩) ?_ ?_
    rotate_left
    · intro w'
      go_simp
      with_reducible rfl
    rotate_left
    · simp only [Act.put, List.setIfInBounds_toArray, List.set_cons_zero, List.set_cons_succ, i64_w, i32_w]
      rfl
    refine pure_ (i := 11) (N := some 29) (v := ?_) (a' := ?_) #[true, false, false, true, true, true, false, false, true, false, false, true, false, false, false, false, false, false, false] rfl rfl (by kernel_rfl) (fun _ _ _ h => h) (Or.inl ⟨by rfl, ?_⟩) ?_ ?_
    rotate_left
    · intro w'
      go_simp
      with_reducible rfl
    rotate_left
    · simp only [Act.put, List.setIfInBounds_toArray, List.set_cons_zero, List.set_cons_succ, i64_w, i32_w]
      rfl
    refine pure_ (i := 14) (N := some 32) (v := ?_) (a' := ?_) #[true, false, false, true, true, true, false, false, true, false, false, true, false, false, true, false, false, false, false] rfl rfl (by kernel_rfl) (fun _ _ _ h => h) (Or.inl ⟨by rfl, ?_⟩) ?_ ?_
    rotate_left
    · intro w'
      go_simp
      with_reducible rfl
    rotate_left
    · simp only [Act.put, List.setIfInBounds_toArray, List.set_cons_zero, List.set_cons_succ, i64_w, i32_w]
      rfl
    refine take_ (i := 1) (N := some 19) (v := ?_) (a' := ?_) #[true, true, false, true, true, true, false, false, true, false, false, true, false, false, true, false, false, false, false] rfl rfl (by kernel_rfl) (fun _ _ _ h => h) (Or.inl ⟨by rfl, ?_⟩) hHeld ?_ ?_
    rotate_left
    · rintro w' ⟨s0, s1, s2, s3⟩
      go_simp
      with_reducible rfl
    rotate_left
    · simp only [Act.put, List.setIfInBounds_toArray, List.set_cons_zero, List.set_cons_succ, i64_w, i32_w]
      rfl
    refine take_ (i := 9) (N := some 27) (v := ?_) (a' := ?_) #[true, true, false, true, true, true, false, false, true, true, false, true, false, false, true, false, false, false, false] rfl rfl (by kernel_rfl) (fun _ _ _ h => h) (Or.inl ⟨by rfl, ?_⟩) hHeld ?_ ?_
    rotate_left
    · rintro w' ⟨s0, s1, s2, s3⟩
      go_simp
      with_reducible rfl
    rotate_left
    · simp only [Act.put, List.setIfInBounds_toArray, List.set_cons_zero, List.set_cons_succ, i64_w, i32_w]
      rfl
    refine take_ (i := 12) (N := some 30) (v := ?_) (a' := ?_) #[true, true, false, true, true, true, false, false, true, true, false, true, true, false, true, false, false, false, false] rfl rfl (by kernel_rfl) (fun _ _ _ h => h) (Or.inl ⟨by rfl, ?_⟩) hHeld ?_ ?_
    rotate_left
    · rintro w' ⟨s0, s1, s2, s3⟩
      go_simp
      with_reducible rfl
    rotate_left
    · simp only [Act.put, List.setIfInBounds_toArray, List.set_cons_zero, List.set_cons_succ, i64_w, i32_w]
      rfl
    refine take_ (i := 15) (N := some 33) (v := ?_) (a' := ?_) #[true, true, false, true, true, true, false, false, true, true, false, true, true, false, true, true, false, false, false] rfl rfl (by kernel_rfl) (fun _ _ _ h => h) (Or.inl ⟨by rfl, ?_⟩) hHeld ?_ ?_
    rotate_left
    · rintro w' ⟨s0, s1, s2, s3⟩
      go_simp
      with_reducible rfl
    rotate_left
    · simp only [Act.put, List.setIfInBounds_toArray, List.set_cons_zero, List.set_cons_succ, i64_w, i32_w]
      rfl
    refine one_ (i := 2) (N := some 20) #[true, true, true, true, true, true, false, false, true, true, false, true, true, false, true, true, false, false, false] rfl rfl (by kernel_rfl) (by decide) (fun K hK => ?_)
    refine goes_ Try.func21 (by kernel_rfl) rfl #[.int .u8 (I8 p1)] (by rfl) rfl rfl (by simp only [List.map_toArray, List.map_cons, List.map_nil]; rfl) ?_
    have M1 := Aside0.mk (Mem.drew M1.out)
    have M2 := Aside0.mk (Mem.drew M2.out)
    have HB := Aside0.mk (below_drew HB.out)
    with_reducible refine (CS1.out.q _).mono ?_
    rintro e w11 ⟨rfl, hb11⟩
    refine ⟨_, rfl, ?_⟩
    have M1 := Aside0.mk (Mem.below M1.out hb11)
    have M2 := Aside0.mk (Mem.below M2.out hb11)
    have HB := Aside0.mk (below_step HB.out hb11)
    clear hb11
    refine hK.out _ _ ⟨(cell4 M2.out).2.1, (cell4 M2.out).2.2.1, (cell4 M2.out).2.2.2, (cell4 M2.out).1⟩ (fun hHeld => ?_)
    clear hK K
    refine norm_ (a' := ?_) ?_ ?_
    rotate_left
    · show Act.put _ (some 20) _ = _
      simp only [Act.put, List.setIfInBounds_toArray, List.set_cons_zero, List.set_cons_succ, i64_w, i32_w]
      rfl
    refine one_ (i := 6) (N := some 24) #[true, true, true, true, true, true, true, false, true, true, false, true, true, false, true, true, false, false, false] rfl rfl (by kernel_rfl) (by decide) (fun K hK => ?_)
    refine goes_ Try.func17 (by kernel_rfl) rfl #[.int .i64 (q : Int)] (by rfl) rfl rfl (by simp only [List.map_toArray, List.map_cons, List.map_nil]; rfl) ?_
    with_reducible refine (CM.out.q _).mono ?_
    rintro e w12 ⟨rfl, hb12⟩
    refine ⟨_, rfl, ?_⟩
    have M1 := Aside0.mk (Mem.below M1.out hb12)
    have M2 := Aside0.mk (Mem.below M2.out hb12)
    have HB := Aside0.mk (below_step HB.out hb12)
    clear hb12
    refine hK.out _ _ ⟨(cell4 M2.out).2.1, (cell4 M2.out).2.2.1, (cell4 M2.out).2.2.2, (cell4 M2.out).1⟩ (fun hHeld => ?_)
    clear hK K
    refine norm_ (a' := ?_) ?_ ?_
    rotate_left
    · show Act.put _ (some 24) _ = _
      simp only [Act.put, List.setIfInBounds_toArray, List.set_cons_zero, List.set_cons_succ, i64_w, i32_w]
      rfl
    refine pure_ (i := 7) (N := some 25) (v := ?_) (a' := ?_) #[true, true, true, true, true, true, true, true, true, true, false, true, true, false, true, true, false, false, false] rfl rfl (by kernel_rfl) (fun _ _ _ h => h) (Or.inl ⟨by rfl, ?_⟩) ?_ ?_
    rotate_left
    · intro w'
      go_simp
      with_reducible rfl
    rotate_left
    · simp only [Act.put, List.setIfInBounds_toArray, List.set_cons_zero, List.set_cons_succ, i64_w, i32_w]
      rfl
    refine one_ (i := 10) (N := some 28) #[true, true, true, true, true, true, true, true, true, true, true, true, true, false, true, true, false, false, false] rfl rfl (by kernel_rfl) (by decide) (fun K hK => ?_)
    refine goes_ Try.func21 (by kernel_rfl) rfl #[.int .u8 (I8 p2)] (by rfl) rfl rfl (by simp only [List.map_toArray, List.map_cons, List.map_nil]; rfl) ?_
    with_reducible refine (CS2.out.q _).mono ?_
    rintro e w13 ⟨rfl, hb13⟩
    refine ⟨_, rfl, ?_⟩
    have M1 := Aside0.mk (Mem.below M1.out hb13)
    have M2 := Aside0.mk (Mem.below M2.out hb13)
    have HB := Aside0.mk (below_step HB.out hb13)
    clear hb13
    refine hK.out _ _ ⟨(cell4 M2.out).2.1, (cell4 M2.out).2.2.1, (cell4 M2.out).2.2.2, (cell4 M2.out).1⟩ (fun hHeld => ?_)
    clear hK K
    refine norm_ (a' := ?_) ?_ ?_
    rotate_left
    · show Act.put _ (some 28) _ = _
      simp only [Act.put, List.setIfInBounds_toArray, List.set_cons_zero, List.set_cons_succ, i64_w, i32_w]
      rfl
    refine one_ (i := 13) (N := some 31) #[true, true, true, true, true, true, true, true, true, true, true, true, true, true, true, true, false, false, false] rfl rfl (by kernel_rfl) (by decide) (fun K hK => ?_)
    refine goes_ Try.func21 (by kernel_rfl) rfl #[.int .u8 (I8 p3)] (by rfl) rfl rfl (by simp only [List.map_toArray, List.map_cons, List.map_nil]; rfl) ?_
    with_reducible refine (CS3.out.q _).mono ?_
    rintro e w14 ⟨rfl, hb14⟩
    refine ⟨_, rfl, ?_⟩
    have M1 := Aside0.mk (Mem.below M1.out hb14)
    have M2 := Aside0.mk (Mem.below M2.out hb14)
    have HB := Aside0.mk (below_step HB.out hb14)
    clear hb14
    refine hK.out _ _ ⟨(cell4 M2.out).2.1, (cell4 M2.out).2.2.1, (cell4 M2.out).2.2.2, (cell4 M2.out).1⟩ (fun hHeld => ?_)
    clear hK K
    refine norm_ (a' := ?_) ?_ ?_
    rotate_left
    · show Act.put _ (some 31) _ = _
      simp only [Act.put, List.setIfInBounds_toArray, List.set_cons_zero, List.set_cons_succ, i64_w, i32_w]
      rfl
    refine one_ (i := 16) (N := some 34) #[true, true, true, true, true, true, true, true, true, true, true, true, true, true, true, true, true, false, false] rfl rfl (by kernel_rfl) (by decide) (fun K hK => ?_)
    refine goes_ Try.func21 (by kernel_rfl) rfl #[.int .u8 (I8 p0)] (by rfl) rfl rfl (by simp only [List.map_toArray, List.map_cons, List.map_nil]; rfl) ?_
    with_reducible refine (CS0.out.q _).mono ?_
    rintro e w15 ⟨rfl, hb15⟩
    refine ⟨_, rfl, ?_⟩
    have M1 := Aside0.mk (Mem.below M1.out hb15)
    have M2 := Aside0.mk (Mem.below M2.out hb15)
    have HB := Aside0.mk (below_step HB.out hb15)
    clear hb15
    refine hK.out _ _ ⟨(cell4 M2.out).2.1, (cell4 M2.out).2.2.1, (cell4 M2.out).2.2.2, (cell4 M2.out).1⟩ (fun hHeld => ?_)
    clear hK K
    refine norm_ (a' := ?_) ?_ ?_
    rotate_left
    · show Act.put _ (some 34) _ = _
      simp only [Act.put, List.setIfInBounds_toArray, List.set_cons_zero, List.set_cons_succ, i64_w, i32_w]
      rfl
    refine pure_ (i := 17) (N := some 35) (v := ?_) (a' := ?_) #[true, true, true, true, true, true, true, true, true, true, true, true, true, true, true, true, true, true, false] rfl rfl (by kernel_rfl) (fun _ _ _ h => h) (Or.inl ⟨by rfl, ?_⟩) ?_ ?_
    rotate_left
    · intro w'
      go_simp
      with_reducible rfl
    rotate_left
    · simp only [Act.put, List.setIfInBounds_toArray, List.set_cons_zero, List.set_cons_succ, i64_w, i32_w]
      rfl
    refine last_ (i := 18) (N := none) #[true, true, true, true, true, true, true, true, true, true, true, true, true, true, true, true, true, true, true] rfl rfl (by kernel_rfl) (by decide) (fun K hK => ?_)
    refine skip_ (w1 := ?_) (by rfl) rfl ?_ ?_
    rotate_left
    · refine store4_yields (l2 := ib m4) (x := .tmp 7) (y := .tmp 35) M2.out rfl LM.out ?_ ?_ ?_
      · rfl
      · rfl
      · rw [HM4.out]; rfl
    have M1 := Aside0.mk (Mem.row M1.out (g' := (w.heap.size + 1)) (by omega) (cellsOf .u8 (ib m4)))
    have HB := Aside0.mk (below_setRow HB.out (by omega : w.heap.size ≤ w.heap.size + 1) (cellsOf .u8 (ib m4)))
    have M2 := Aside0.mk (Mem.put M2.out (ib m4))
    refine hK.out _ _ ?_
    clear hK K
    refine done_ (by kernel_rfl) ?_
    clear z1
    go_wp2
  case' inr.inl =>
    have HM4 := Aside0.mk hv
    subst hz
    subst hz4
    have e3 : wrap64 ((i : Int) - 8) = (ik : Int) := e3
    have e4 : IntKind.i64.wrap ((i : Int) - 8) = (ik : Int) := e4
    have ht1 : Int.tmod (i : Int) 8 = 4 := ht1
    have ht2 : (i : Int) % 8 = 4 := ht2
    have hz1 : ((4 : Int) = 0) = False := by apply eq_false; decide
    clear hv
    go_enter Try.func68, Try.ntmps68
    go_wp2_with (first
      | ((with_reducible refine gate_dst (N := 13) rfl ?_); go_loud (refine wpList_load_mid rfl 83 (.tmp 12) rfl g (o + (i - 1) * 4) rfl _ _ HRA.out Try.underlying83 rfl (by rw [List.length_map, LW.out]; exact info4) ?_))
      | ((with_reducible refine gate_store (t := 83) (p := 7) rfl ?_); go_loud (refine Mem.store (l' := ib [p0, p1, p2, p3]) M2.out rfl 83 (.tmp 7) (.tmp 13) rfl rfl rfl info4 rfl ?_; (have M1 := Aside0.mk (Mem.row M1.out (g' := (w.heap.size + 1)) (by omega) (cellsOf .u8 (ib [p0, p1, p2, p3])))); (have HB := Aside0.mk (below_setRow HB.out (by omega : w.heap.size ≤ w.heap.size + 1) (cellsOf .u8 (ib [p0, p1, p2, p3])))); (have M2 := Aside0.mk (Mem.put M2.out (ib [p0, p1, p2, p3]))))))
    refine start_ (n := 14) (S := fun w' => w'.cell? ⟨w.heap.size + 1, 0, none⟩ = some (.int .u8 (I8 p0)) ∧ w'.cell? ⟨w.heap.size + 1, 1, none⟩ = some (.int .u8 (I8 p1)) ∧ w'.cell? ⟨w.heap.size + 1, 2, none⟩ = some (.int .u8 (I8 p2)) ∧ w'.cell? ⟨w.heap.size + 1, 3, none⟩ = some (.int .u8 (I8 p3))) (ds := [13]) #[false, false, false, false, false, false, false, false, false, false, false, false, false, false] (by kernel_rfl) rfl rfl ⟨(cell4 (Mem.drew M2.out)).1, (cell4 (Mem.drew M2.out)).2.1, (cell4 (Mem.drew M2.out)).2.2.1, (cell4 (Mem.drew M2.out)).2.2.2⟩ (fun hHeld => ?_)
    refine pure_ (i := 0) (N := some 43) (v := ?_) (a' := ?_) #[true, false, false, false, false, false, false, false, false, false, false, false, false, false] rfl rfl (by kernel_rfl) (fun _ _ _ h => h) (Or.inl ⟨by rfl, ?_⟩) ?_ ?_
    rotate_left
    · intro w'
      go_simp
      with_reducible rfl
    rotate_left
    · simp only [Act.put, List.setIfInBounds_toArray, List.set_cons_zero, List.set_cons_succ, i64_w, i32_w]
      rfl
    refine pure_ (i := 3) (N := some 46) (v := ?_) (a' := ?_) #[true, false, false, true, false, false, false, false, false, false, false, false, false, false] rfl rfl (by kernel_rfl) (fun _ _ _ h => h) (Or.inl ⟨by rfl, ?_⟩) ?_ ?_
    rotate_left
    · intro w'
      go_simp
      with_reducible rfl
    rotate_left
    · simp only [Act.put, List.setIfInBounds_toArray, List.set_cons_zero, List.set_cons_succ, i64_w, i32_w]
      rfl
    refine pure_ (i := 6) (N := some 49) (v := ?_) (a' := ?_) #[true, false, false, true, false, false, true, false, false, false, false, false, false, false] rfl rfl (by kernel_rfl) (fun _ _ _ h => h) (Or.inl ⟨by rfl, ?_⟩) ?_ ?_
    rotate_left
    · intro w'
      go_simp
      with_reducible rfl
    rotate_left
    · simp only [Act.put, List.setIfInBounds_toArray, List.set_cons_zero, List.set_cons_succ, i64_w, i32_w]
      rfl
    refine pure_ (i := 9) (N := some 52) (v := ?_) (a' := ?_) #[true, false, false, true, false, false, true, false, false, true, false, false, false, false] rfl rfl (by kernel_rfl) (fun _ _ _ h => h) (Or.inl ⟨by rfl, ?_⟩) ?_ ?_
    rotate_left
    · intro w'
      go_simp
      with_reducible rfl
    rotate_left
    · simp only [Act.put, List.setIfInBounds_toArray, List.set_cons_zero, List.set_cons_succ, i64_w, i32_w]
      rfl
    refine take_ (i := 1) (N := some 44) (v := ?_) (a' := ?_) #[true, true, false, true, false, false, true, false, false, true, false, false, false, false] rfl rfl (by kernel_rfl) (fun _ _ _ h => h) (Or.inl ⟨by rfl, ?_⟩) hHeld ?_ ?_
    rotate_left
    · rintro w' ⟨s0, s1, s2, s3⟩
      go_simp
      with_reducible rfl
    rotate_left
    · simp only [Act.put, List.setIfInBounds_toArray, List.set_cons_zero, List.set_cons_succ, i64_w, i32_w]
      rfl
    refine take_ (i := 4) (N := some 47) (v := ?_) (a' := ?_) #[true, true, false, true, true, false, true, false, false, true, false, false, false, false] rfl rfl (by kernel_rfl) (fun _ _ _ h => h) (Or.inl ⟨by rfl, ?_⟩) hHeld ?_ ?_
    rotate_left
    · rintro w' ⟨s0, s1, s2, s3⟩
      go_simp
      with_reducible rfl
    rotate_left
    · simp only [Act.put, List.setIfInBounds_toArray, List.set_cons_zero, List.set_cons_succ, i64_w, i32_w]
      rfl
    refine take_ (i := 7) (N := some 50) (v := ?_) (a' := ?_) #[true, true, false, true, true, false, true, true, false, true, false, false, false, false] rfl rfl (by kernel_rfl) (fun _ _ _ h => h) (Or.inl ⟨by rfl, ?_⟩) hHeld ?_ ?_
    rotate_left
    · rintro w' ⟨s0, s1, s2, s3⟩
      go_simp
      with_reducible rfl
    rotate_left
    · simp only [Act.put, List.setIfInBounds_toArray, List.set_cons_zero, List.set_cons_succ, i64_w, i32_w]
      rfl
    refine take_ (i := 10) (N := some 53) (v := ?_) (a' := ?_) #[true, true, false, true, true, false, true, true, false, true, true, false, false, false] rfl rfl (by kernel_rfl) (fun _ _ _ h => h) (Or.inl ⟨by rfl, ?_⟩) hHeld ?_ ?_
    rotate_left
    · rintro w' ⟨s0, s1, s2, s3⟩
      go_simp
      with_reducible rfl
    rotate_left
    · simp only [Act.put, List.setIfInBounds_toArray, List.set_cons_zero, List.set_cons_succ, i64_w, i32_w]
      rfl
    refine one_ (i := 2) (N := some 45) #[true, true, true, true, true, false, true, true, false, true, true, false, false, false] rfl rfl (by kernel_rfl) (by decide) (fun K hK => ?_)
    refine goes_ Try.func21 (by kernel_rfl) rfl #[.int .u8 (I8 p0)] (by rfl) rfl rfl (by simp only [List.map_toArray, List.map_cons, List.map_nil]; rfl) ?_
    have M1 := Aside0.mk (Mem.drew M1.out)
    have M2 := Aside0.mk (Mem.drew M2.out)
    have HB := Aside0.mk (below_drew HB.out)
    with_reducible refine (CS0.out.q _).mono ?_
    rintro e w11 ⟨rfl, hb11⟩
    refine ⟨_, rfl, ?_⟩
    have M1 := Aside0.mk (Mem.below M1.out hb11)
    have M2 := Aside0.mk (Mem.below M2.out hb11)
    have HB := Aside0.mk (below_step HB.out hb11)
    clear hb11
    refine hK.out _ _ ⟨(cell4 M2.out).1, (cell4 M2.out).2.1, (cell4 M2.out).2.2.1, (cell4 M2.out).2.2.2⟩ (fun hHeld => ?_)
    clear hK K
    refine norm_ (a' := ?_) ?_ ?_
    rotate_left
    · show Act.put _ (some 45) _ = _
      simp only [Act.put, List.setIfInBounds_toArray, List.set_cons_zero, List.set_cons_succ, i64_w, i32_w]
      rfl
    refine one_ (i := 5) (N := some 48) #[true, true, true, true, true, true, true, true, false, true, true, false, false, false] rfl rfl (by kernel_rfl) (by decide) (fun K hK => ?_)
    refine goes_ Try.func21 (by kernel_rfl) rfl #[.int .u8 (I8 p1)] (by rfl) rfl rfl (by simp only [List.map_toArray, List.map_cons, List.map_nil]; rfl) ?_
    with_reducible refine (CS1.out.q _).mono ?_
    rintro e w12 ⟨rfl, hb12⟩
    refine ⟨_, rfl, ?_⟩
    have M1 := Aside0.mk (Mem.below M1.out hb12)
    have M2 := Aside0.mk (Mem.below M2.out hb12)
    have HB := Aside0.mk (below_step HB.out hb12)
    clear hb12
    refine hK.out _ _ ⟨(cell4 M2.out).1, (cell4 M2.out).2.1, (cell4 M2.out).2.2.1, (cell4 M2.out).2.2.2⟩ (fun hHeld => ?_)
    clear hK K
    refine norm_ (a' := ?_) ?_ ?_
    rotate_left
    · show Act.put _ (some 48) _ = _
      simp only [Act.put, List.setIfInBounds_toArray, List.set_cons_zero, List.set_cons_succ, i64_w, i32_w]
      rfl
    refine one_ (i := 8) (N := some 51) #[true, true, true, true, true, true, true, true, true, true, true, false, false, false] rfl rfl (by kernel_rfl) (by decide) (fun K hK => ?_)
    refine goes_ Try.func21 (by kernel_rfl) rfl #[.int .u8 (I8 p2)] (by rfl) rfl rfl (by simp only [List.map_toArray, List.map_cons, List.map_nil]; rfl) ?_
    with_reducible refine (CS2.out.q _).mono ?_
    rintro e w13 ⟨rfl, hb13⟩
    refine ⟨_, rfl, ?_⟩
    have M1 := Aside0.mk (Mem.below M1.out hb13)
    have M2 := Aside0.mk (Mem.below M2.out hb13)
    have HB := Aside0.mk (below_step HB.out hb13)
    clear hb13
    refine hK.out _ _ ⟨(cell4 M2.out).1, (cell4 M2.out).2.1, (cell4 M2.out).2.2.1, (cell4 M2.out).2.2.2⟩ (fun hHeld => ?_)
    clear hK K
    refine norm_ (a' := ?_) ?_ ?_
    rotate_left
    · show Act.put _ (some 51) _ = _
      simp only [Act.put, List.setIfInBounds_toArray, List.set_cons_zero, List.set_cons_succ, i64_w, i32_w]
      rfl
    refine one_ (i := 11) (N := some 54) #[true, true, true, true, true, true, true, true, true, true, true, true, false, false] rfl rfl (by kernel_rfl) (by decide) (fun K hK => ?_)
    refine goes_ Try.func21 (by kernel_rfl) rfl #[.int .u8 (I8 p3)] (by rfl) rfl rfl (by simp only [List.map_toArray, List.map_cons, List.map_nil]; rfl) ?_
    with_reducible refine (CS3.out.q _).mono ?_
    rintro e w14 ⟨rfl, hb14⟩
    refine ⟨_, rfl, ?_⟩
    have M1 := Aside0.mk (Mem.below M1.out hb14)
    have M2 := Aside0.mk (Mem.below M2.out hb14)
    have HB := Aside0.mk (below_step HB.out hb14)
    clear hb14
    refine hK.out _ _ ⟨(cell4 M2.out).1, (cell4 M2.out).2.1, (cell4 M2.out).2.2.1, (cell4 M2.out).2.2.2⟩ (fun hHeld => ?_)
    clear hK K
    refine norm_ (a' := ?_) ?_ ?_
    rotate_left
    · show Act.put _ (some 54) _ = _
      simp only [Act.put, List.setIfInBounds_toArray, List.set_cons_zero, List.set_cons_succ, i64_w, i32_w]
      rfl
    refine pure_ (i := 12) (N := some 55) (v := ?_) (a' := ?_) #[true, true, true, true, true, true, true, true, true, true, true, true, true, false] rfl rfl (by kernel_rfl) (fun _ _ _ h => h) (Or.inl ⟨by rfl, ?_⟩) ?_ ?_
    rotate_left
    · intro w'
      go_simp
      with_reducible rfl
    rotate_left
    · simp only [Act.put, List.setIfInBounds_toArray, List.set_cons_zero, List.set_cons_succ, i64_w, i32_w]
      rfl
    refine last_ (i := 13) (N := none) #[true, true, true, true, true, true, true, true, true, true, true, true, true, true] rfl rfl (by kernel_rfl) (by decide) (fun K hK => ?_)
    refine skip_ (w1 := ?_) (by rfl) rfl ?_ ?_
    rotate_left
    · refine store4_yields (l2 := ib m4) (x := .tmp 7) (y := .tmp 55) M2.out rfl LM.out ?_ ?_ ?_
      · rfl
      · rfl
      · rw [HM4.out]; rfl
    have M1 := Aside0.mk (Mem.row M1.out (g' := (w.heap.size + 1)) (by omega) (cellsOf .u8 (ib m4)))
    have HB := Aside0.mk (below_setRow HB.out (by omega : w.heap.size ≤ w.heap.size + 1) (cellsOf .u8 (ib m4)))
    have M2 := Aside0.mk (Mem.put M2.out (ib m4))
    refine hK.out _ _ ?_
    clear hK K
    refine done_ (by kernel_rfl) ?_
    go_wp2
  case' inr.inr.inl =>
    have HM4 := Aside0.mk hv
    subst hk
    have e3 : wrap64 ((i : Int) - 8) = (ik : Int) := e3
    have e4 : IntKind.i64.wrap ((i : Int) - 8) = (ik : Int) := e4
    have ht1 : Int.tmod (i : Int) 8 = (m : Int) := ht1
    have ht2 : (i : Int) % 8 = (m : Int) := ht2
    have hz1 : ((m : Int) = 0) = False := by apply eq_false; omega
    have hz2 : ((m : Int) == 0) = false := by rw [beq_eq_false_iff_ne]; omega
    have hz3 : (m = 0) = False := by apply eq_false; omega
    have hm1 : ((m : Int) == 4) = false := by rw [beq_eq_false_iff_ne]; omega
    have hm2 : ((m : Int) != 4) = true := by simp only [bne, hm1]; rfl
    have hm3 : ((m : Int) = 4) = False := by apply eq_false; omega
    clear hv hz h4
    go_enter Try.func68, Try.ntmps68
    go_wp2_with (first
      | ((with_reducible refine gate_dst (N := 13) rfl ?_); go_loud (refine wpList_load_mid rfl 83 (.tmp 12) rfl g (o + (i - 1) * 4) rfl _ _ HRA.out Try.underlying83 rfl (by rw [List.length_map, LW.out]; exact info4) ?_))
      | ((with_reducible refine gate_store (t := 83) (p := 7) rfl ?_); go_loud (refine Mem.store (l' := ib [p0, p1, p2, p3]) M2.out rfl 83 (.tmp 7) (.tmp 13) rfl rfl rfl info4 rfl ?_; (have M1 := Aside0.mk (Mem.row M1.out (g' := (w.heap.size + 1)) (by omega) (cellsOf .u8 (ib [p0, p1, p2, p3])))); (have HB := Aside0.mk (below_setRow HB.out (by omega : w.heap.size ≤ w.heap.size + 1) (cellsOf .u8 (ib [p0, p1, p2, p3])))); (have M2 := Aside0.mk (Mem.put M2.out (ib [p0, p1, p2, p3]))))))
    have M2 := Aside0.mk (show Mem .u8 _ (w.heap.size + 1) 83 (ib m4) by rw [HM4.out]; exact M2.out)
  case' inr.inr.inr =>
    have HM4 := Aside0.mk hv
    have hz1 : ((m : Int) = 0) = False := by apply eq_false; omega
    have hz2 : ((m : Int) == 0) = false := by rw [beq_eq_false_iff_ne]; omega
    have hz3 : (m = 0) = False := by apply eq_false; omega
    have hk1 : ((k : Int) == 8) = false := by rw [beq_eq_false_iff_ne]; omega
    have hk2 : ((k : Int) != 8) = true := by simp only [bne, hk1]; rfl
    have hk3 : ((k : Int) = 8) = False := by apply eq_false; omega
    clear hv hz hk
    go_enter Try.func68, Try.ntmps68
    go_wp2_with (first
      | ((with_reducible refine gate_dst (N := 13) rfl ?_); go_loud (refine wpList_load_mid rfl 83 (.tmp 12) rfl g (o + (i - 1) * 4) rfl _ _ HRA.out Try.underlying83 rfl (by rw [List.length_map, LW.out]; exact info4) ?_))
      | ((with_reducible refine gate_store (t := 83) (p := 7) rfl ?_); go_loud (refine Mem.store (l' := ib [p0, p1, p2, p3]) M2.out rfl 83 (.tmp 7) (.tmp 13) rfl rfl rfl info4 rfl ?_; (have M1 := Aside0.mk (Mem.row M1.out (g' := (w.heap.size + 1)) (by omega) (cellsOf .u8 (ib [p0, p1, p2, p3])))); (have HB := Aside0.mk (below_setRow HB.out (by omega : w.heap.size ≤ w.heap.size + 1) (cellsOf .u8 (ib [p0, p1, p2, p3])))); (have M2 := Aside0.mk (Mem.put M2.out (ib [p0, p1, p2, p3]))))))
    have M2 := Aside0.mk (show Mem .u8 _ (w.heap.size + 1) 83 (ib m4) by rw [HM4.out]; exact M2.out)
  all_goals
    have HS := Aside0.mk (fun j (h : j < 4) => fillTo_set (ib R) (ib m4) (by rw [HRL.out, LM.out]) j (by rw [LM.out]; exact h) _ (HG.out j h))
    have HFG := Aside0.mk (fun j (h : j < 4) => show (fillTo (ib R) (ib m4) j).getD j 0 = I8 (m4.getD j 0#8) by rw [fillTo_ge _ _ (by rw [HRL.out, LM.out]) j j (by rw [LM.out]; omega) (Nat.le_refl _)]; exact ib_getD m4 j)
    have HFL := Aside0.mk (fun j => show (fillTo (ib R) (ib m4) j).length = 4 by rw [fillTo_length _ _ (by rw [HRL.out, LM.out]), LM.out])
    have HE := Aside0.mk (show fillTo (ib R) (ib m4) 4 = ib R by rw [show 4 = (ib m4).length from LM.out.symm]; exact fillTo_end _ _ (by rw [HRL.out, LM.out]))
    have M2 := Aside0.mk (show Mem .u8 _ (w.heap.size + 1) 83 (fillTo (ib R) (ib m4) 0) by rw [fillTo_zero]; exact M2.out)
    generalize hrr : ib R = r at *
    have HRV := Aside0.mk (show (Ending.returned (.agg (cellsOf .u8 r))) = .returned (.agg (cellsOf .u8 (ib R))) by rw [hrr])
    clear hrr HG
    go_loopg [8] 4 (fun kq i w' => ∃ j : Nat, j + kq = 4 ∧ i = .int .i64 (j : Int) ∧ Aside0 (Mem .u8 w' w.heap.size 83 z4) ∧ Aside0 (Mem .u8 w' (w.heap.size + 1) 83 (fillTo r (ib m4) j)) ∧ Aside0 (Below w.heap.size w w'))
    case atStart => exact ⟨0, by omega, rfl, M1, M2, HB⟩
    case round =>
      clear M1 M2 HB
      obtain ⟨j, hj, rfl, M1, M2, HB⟩ := hrel
      cases gk with
      | zero =>
        obtain rfl : j = 4 := by omega
        have M2 := Aside0.mk (show Mem .u8 _ (w.heap.size + 1) 83 r by rw [← HE.out]; exact M2.out)
        clear HS HFL HFG HE
        go_wp2_with (first
          | ((with_reducible refine gate_dst (N := 74) rfl ?_); refine Mem.load M2.out rfl 83 (.tmp 7) rfl rfl Try.underlying83 (by rw [HRL.out]; exact info4) ?_)
          | ((with_reducible refine gate_store (t := 83) (p := 6) rfl ?_); refine Mem.store (l' := r) M1.out rfl 83 (.tmp 6) (.tmp 74) rfl rfl rfl (by rw [HRL.out]; exact info4) (by rw [HRL.out]; rfl) ?_))
        refine bodyPost_ret (v := .agg (cellsOf .u8 r)) (results_cell_row rfl _ _ _ _ _ _ _ rfl (Mem.put M1.out r) Try.underlying83 rfl (by rw [cellsOf_size, HRL.out]; exact info4)) rfl ⟨HRV.out, below_setRow HB.out (Nat.le_refl _) _⟩
      | succ k1 =>
        have hlt : j < 4 := by omega
        have h0 : (0 : Int) ≤ (j : Int) := by omega
        have h1 : (j : Int) < 4 := by omega
        have hx := M2.out.cell j (by rw [HFL.out]; exact hlt)
        rw [HFG.out j hlt] at hx
        have hf := M2.out.free j
        have hy := HOW.out _ HB.out j hlt
        have HV := Aside0.mk (HS.out j hlt)
        generalize fillTo r (ib m4) j = s at *
        generalize m4.getD j 0#8 = xa at *
        generalize (wordAt ws ik).getD j 0#8 = xb at *
        have z1 := xor8 xa xb
        have HJ := Aside0.mk hj
        clear hj HS HFL HFG HE
        go_wp2
        refine start_ (n := 15) (S := fun w' => w'.cell? ⟨w.heap.size + 1, j, none⟩ = some (.int .u8 (I8 xa)) ∧ w'.cell? ⟨g, o + ik * 4 + j, none⟩ = some (.int .u8 (I8 xb))) (ds := [14]) #[false, false, false, false, false, false, false, false, false, false, false, false, false, false, false] (by kernel_rfl) rfl rfl ⟨hx, hy⟩ (fun hHeld => ?_)
        refine pure_ (i := 0) (N := some 60) (v := ?_) (a' := ?_) #[true, false, false, false, false, false, false, false, false, false, false, false, false, false, false] rfl rfl (by kernel_rfl) (fun _ _ _ h => h) (Or.inl ⟨by rfl, ?_⟩) ?_ ?_
        rotate_left
        · intro w'
          go_simp
          with_reducible rfl
        rotate_left
        · simp only [Act.put, List.setIfInBounds_toArray, List.set_cons_zero, List.set_cons_succ, i64_w, i32_w]
          rfl
        refine pure_ (i := 1) (N := some 61) (v := ?_) (a' := ?_) #[true, true, false, false, false, false, false, false, false, false, false, false, false, false, false] rfl rfl (by kernel_rfl) (fun _ _ _ h => h) (Or.inl ⟨by rfl, ?_⟩) ?_ ?_
        rotate_left
        · intro w'
          go_simp
          with_reducible rfl
        rotate_left
        · simp only [Act.put, List.setIfInBounds_toArray, List.set_cons_zero, List.set_cons_succ, i64_w, i32_w]
          rfl
        refine pure_ (i := 2) (N := some 62) (v := ?_) (a' := ?_) #[true, true, true, false, false, false, false, false, false, false, false, false, false, false, false] rfl rfl (by kernel_rfl) (fun _ _ _ h => h) (Or.inl ⟨by rfl, ?_⟩) ?_ ?_
        rotate_left
        · intro w'
          go_simp
          with_reducible rfl
        rotate_left
        · simp only [Act.put, List.setIfInBounds_toArray, List.set_cons_zero, List.set_cons_succ, i64_w, i32_w]
          rfl
        refine pure_ (i := 4) (N := some 64) (v := ?_) (a' := ?_) #[true, true, true, false, true, false, false, false, false, false, false, false, false, false, false] rfl rfl (by kernel_rfl) (fun _ _ _ h => h) (Or.inl ⟨by rfl, ?_⟩) ?_ ?_
        rotate_left
        · intro w'
          go_simp
          with_reducible rfl
        rotate_left
        · simp only [Act.put, List.setIfInBounds_toArray, List.set_cons_zero, List.set_cons_succ, i64_w, i32_w]
          rfl
        refine pure_ (i := 5) (N := some 65) (v := ?_) (a' := ?_) #[true, true, true, false, true, true, false, false, false, false, false, false, false, false, false] rfl rfl (by kernel_rfl) (fun _ _ _ h => h) (Or.inl ⟨by rfl, ?_⟩) ?_ ?_
        rotate_left
        · intro w'
          go_simp
          with_reducible rfl
        rotate_left
        · simp only [Act.put, List.setIfInBounds_toArray, List.set_cons_zero, List.set_cons_succ, i64_w, i32_w]
          rfl
        refine pure_ (i := 6) (N := some 66) (v := ?_) (a' := ?_) #[true, true, true, false, true, true, true, false, false, false, false, false, false, false, false] rfl rfl (by kernel_rfl) (fun _ _ _ h => h) (Or.inl ⟨by rfl, ?_⟩) ?_ ?_
        rotate_left
        · intro w'
          go_simp
          with_reducible rfl
        rotate_left
        · simp only [Act.put, List.setIfInBounds_toArray, List.set_cons_zero, List.set_cons_succ, i64_w, i32_w]
          rfl
        refine pure_ (i := 7) (N := some 67) (v := ?_) (a' := ?_) #[true, true, true, false, true, true, true, true, false, false, false, false, false, false, false] rfl rfl (by kernel_rfl) (fun _ _ _ h => h) (Or.inl ⟨by rfl, ?_⟩) ?_ ?_
        rotate_left
        · intro w'
          go_simp
          with_reducible rfl
        rotate_left
        · simp only [Act.put, List.setIfInBounds_toArray, List.set_cons_zero, List.set_cons_succ, i64_w, i32_w]
          rfl
        refine pure_ (i := 8) (N := some 68) (v := ?_) (a' := ?_) #[true, true, true, false, true, true, true, true, true, false, false, false, false, false, false] rfl rfl (by kernel_rfl) (fun _ _ _ h => h) (Or.inl ⟨by rfl, ?_⟩) ?_ ?_
        rotate_left
        · intro w'
          go_simp
          with_reducible rfl
        rotate_left
        · simp only [Act.put, List.setIfInBounds_toArray, List.set_cons_zero, List.set_cons_succ, i64_w, i32_w]
          rfl
        refine pure_ (i := 9) (N := some 69) (v := ?_) (a' := ?_) #[true, true, true, false, true, true, true, true, true, true, false, false, false, false, false] rfl rfl (by kernel_rfl) (fun _ _ _ h => h) (Or.inl ⟨by rfl, ?_⟩) ?_ ?_
        rotate_left
        · intro w'
          go_simp
          with_reducible rfl
        rotate_left
        · simp only [Act.put, List.setIfInBounds_toArray, List.set_cons_zero, List.set_cons_succ, i64_w, i32_w]
          rfl
        refine pure_ (i := 10) (N := some 70) (v := ?_) (a' := ?_) #[true, true, true, false, true, true, true, true, true, true, true, false, false, false, false] rfl rfl (by kernel_rfl) (fun _ _ _ h => h) (Or.inl ⟨by rfl, ?_⟩) ?_ ?_
        rotate_left
        · intro w'
          go_simp
          with_reducible rfl
        rotate_left
        · simp only [Act.put, List.setIfInBounds_toArray, List.set_cons_zero, List.set_cons_succ, i64_w, i32_w]
          rfl
        refine take_ (i := 3) (N := some 63) (v := ?_) (a' := ?_) #[true, true, true, true, true, true, true, true, true, true, true, false, false, false, false] rfl rfl (by kernel_rfl) (fun _ _ _ h => h) (Or.inl ⟨by rfl, ?_⟩) hHeld ?_ ?_
        rotate_left
        · rintro w' ⟨s0, s1⟩
          go_simp
          with_reducible rfl
        rotate_left
        · simp only [Act.put, List.setIfInBounds_toArray, List.set_cons_zero, List.set_cons_succ, i64_w, i32_w]
          rfl
        refine take_ (i := 11) (N := some 71) (v := ?_) (a' := ?_) #[true, true, true, true, true, true, true, true, true, true, true, true, false, false, false] rfl rfl (by kernel_rfl) (fun _ _ _ h => h) (Or.inl ⟨by rfl, ?_⟩) hHeld ?_ ?_
        rotate_left
        · rintro w' ⟨s0, s1⟩
          go_simp
          with_reducible rfl
        rotate_left
        · simp only [Act.put, List.setIfInBounds_toArray, List.set_cons_zero, List.set_cons_succ, i64_w, i32_w]
          rfl
        refine pure_ (i := 12) (N := some 72) (v := ?_) (a' := ?_) #[true, true, true, true, true, true, true, true, true, true, true, true, true, false, false] rfl rfl (by kernel_rfl) (fun _ _ _ h => h) (Or.inl ⟨by rfl, ?_⟩) ?_ ?_
        rotate_left
        · intro w'
          go_simp
          with_reducible rfl
        rotate_left
        · simp only [Act.put, List.setIfInBounds_toArray, List.set_cons_zero, List.set_cons_succ, i64_w, i32_w]
          rfl
        refine pure_ (i := 13) (N := some 73) (v := ?_) (a' := ?_) #[true, true, true, true, true, true, true, true, true, true, true, true, true, true, false] rfl rfl (by kernel_rfl) (fun _ _ _ h => h) (Or.inl ⟨by rfl, ?_⟩) ?_ ?_
        rotate_left
        · intro w'
          go_simp
          with_reducible rfl
        rotate_left
        · simp only [Act.put, List.setIfInBounds_toArray, List.set_cons_zero, List.set_cons_succ, i64_w, i32_w]
          rfl
        refine last_ (i := 14) (N := none) #[true, true, true, true, true, true, true, true, true, true, true, true, true, true, true] rfl rfl (by kernel_rfl) (by decide) (fun K hK => ?_)
        refine skip_ (w1 := ?_) (by rfl) rfl ?_ ?_
        rotate_left
        · go_simp
          rfl
        refine hK.out _ _ ?_
        clear hK K
        refine done_ (by kernel_rfl) ?_
        go_wp2
        go_roundg k1
        case measure => omega
        case rel => exact ⟨j + 1, by have := HJ.out; omega, by go_num, ⟨Mem.other M1.out (by omega) _ _⟩, ⟨by rw [← HV.out]; exact Mem.set M2.out _ _⟩, ⟨below_drew (below_set (j := j) HB.out (Nat.le_succ _))⟩⟩
end Go.Proofs.Ytpdikfmdnlhllaa.Aes
namespace Go.Proofs.Ytpdikfmdnlhllaa.Aes
open Go.RowKit Go.Proofs.Ytpdikfmdnlhllaa.PNib Go.Proofs.YtpdikfmdnlhllaaW.PrintWords Go.Proofs.YtpdikfmdnlhllaaW.PrintLast Go.Proofs.YtpdikfmdnlhllaaW.PrintMore Byte Sl Arr Mem Gives ArrEq Mat AesMath AesMov AesLin HandKit
set_option linter.unusedVariables false
set_option linter.unusedSimpArgs false
theorem rrounds_c (n : Int) (r : Int) (h : roundsI n = r) : GivesB 15 #[.int .i64 n] (.int .i64 r) := fun w => (visorref08_Rounds.calls n r w (by rw [rrounds_i, h])).mono fun _ _ ⟨a, b⟩ => ⟨a, b.below⟩
theorem info_w4 : (Try.prog.info? 83).map (fun i => (i.zero, i.size, i.bytes)) = some (some (.agg #[.int .u8 0, .int .u8 0, .int .u8 0, .int .u8 0]), 4, 4) := by kernel_rfl
abbrev kB : Kd Int := Kd.int .u8
abbrev kR : Kd (List Int) := Kd.slice 5 (Kd.int .u8)
theorem key_cells {w : World} {A : Option Addr} {key : List B} {L : Nat} (hL : key.length = L) (h0 : 0 < L) (h : Kd.C (Kd.int .u8) w A L (ib key)) : ∃ ad, A = some ad ∧ ∀ p, p < L → w.cell? (ad.add p) = some (.int .u8 (I8 (key.getD p 0#8))) := by
  obtain ⟨ad, rfl, _⟩ := Kd.at_int h (0 : Int) (by decide) (by omega)
  refine ⟨ad, rfl, fun p hp => ?_⟩
  obtain ⟨ad2, e, hx⟩ := Kd.at_int h (p : Int) (by omega) (by omega)
  obtain rfl := Option.some.inj e
  rw [Int.toNat_natCast] at hx
  rw [hx]
  show some (Value.int .u8 ((ib key).getD (p : Int).toNat 0)) = _
  rw [Int.toNat_natCast, ib_getD]
theorem four_list (key : List B) (i : Nat) (h : 4 * i + 4 ≤ key.length) : four key i = [key.getD (4 * i) 0#8, key.getD (4 * i + 1) 0#8, key.getD (4 * i + 2) 0#8, key.getD (4 * i + 3) 0#8] := by
  have hl := four_length key i h
  obtain ⟨a, b, c, d, e⟩ := four_of _ hl
  have g0 := four_get key i 0 (by decide)
  have g1 := four_get key i 1 (by decide)
  have g2 := four_get key i 2 (by decide)
  have g3 := four_get key i 3 (by decide)
  rw [e] at g0 g1 g2 g3 ⊢
  rw [← g1, ← g2, ← g3, show 4 * i = 4 * i + 0 from rfl, ← g0]
  rfl
theorem key_step (key : List B) (k i : Nat) (hk : key.length = 4 * k) (hi : i < k) : ((keyWords key k).take (i + 1)).map ib = ((keyWords key k).take i).map ib ++ [[I8 (key.getD (4 * i) 0#8), I8 (key.getD (4 * i + 1) 0#8), I8 (key.getD (4 * i + 2) 0#8), I8 (key.getD (4 * i + 3) 0#8)]] := by
  have hl : i < (keyWords key k).length := by rw [keyWords_length]; exact hi
  rw [List.take_add_one, List.getElem?_eq_getElem hl, List.map_append]
  congr 1
  have e : (keyWords key k)[i] = four key i := by simp [keyWords]
  rw [e, four_list key i (by omega)]
  rfl
theorem nums4 (i k L p0 p1 p2 p3 : Nat) (hL : L = 4 * k) (hi : i < k) (hk : k ≤ 8) (h0 : p0 = 4 * i) (h1 : p1 = 4 * i + 1) (h2 : p2 = 4 * i + 2) (h3 : p3 = 4 * i + 3) : wrap64 (4 * (i : Int)) = (p0 : Int) ∧ wrap64 ((p0 : Int) + 1) = (p1 : Int) ∧ wrap64 ((p0 : Int) + 2) = (p2 : Int) ∧ wrap64 ((p0 : Int) + 3) = (p3 : Int) := by
  unfold wrap64; omega
theorem nums4b (i k L q p : Nat) (hL : L = 4 * k) (hi : i < k) (hq : q < 4) (hp : p = 4 * i + q) : (0 : Int) ≤ (p : Int) ∧ (p : Int) < (L : Int) ∧ p < L := by omega
theorem add64 (i : Nat) (h : i < 1000) : wrap64 ((i : Int) + 1) = ((i + 1 : Nat) : Int) := by unfold wrap64; omega
def rkL (key : List B) (k M r : Nat) : List B := ((allL key k M).drop (16 * r)).take 16
section
variable (key : List B) (k M rd1 : Nat) (hkl : key.length = 4 * k) (hk0 : 0 < k) (hM : k + M = 4 * rd1)
include hkl hk0 hM
theorem rkL_length (r : Nat) (hr : r < rd1) : (rkL key k M r).length = 16 := by
  unfold rkL
  rw [List.length_take, List.length_drop, allL_length key k M hkl hk0]
  omega
theorem rkL_get (r j : Nat) (hr : r < rd1) (hj : j < 16) : (rkL key k M r).getD j 0#8 = (wordAt (wordsTo key k M) (4 * r + j / 4)).getD (j % 4) 0#8 := by
  unfold rkL
  rw [List.getD_eq_getElem?_getD, List.getElem?_take, if_pos hj, List.getElem?_drop, ← List.getD_eq_getElem?_getD]
  unfold allL
  rw [flat_get (wordsTo_four key k hkl hk0 M) (16 * r + j) (by rw [wordsTo_length]; omega)]
  rw [show (16 * r + j) / 4 = 4 * r + j / 4 by omega, show (16 * r + j) % 4 = j % 4 by omega]
theorem rkL_step (r j : Nat) (hr : r < rd1) (hj : j < 16) : ib ((rkL key k M r).take (j + 1)) = ib ((rkL key k M r).take j) ++ [I8 ((wordAt (wordsTo key k M) (4 * r + j / 4)).getD (j % 4) 0#8)] := by
  have hl := rkL_length key k M rd1 hkl hk0 hM r hr
  rw [← rkL_get key k M rd1 hkl hk0 hM r j hr hj, List.take_add_one, List.getElem?_eq_getElem (by omega), ib_append, List.getD_eq_getElem?_getD, List.getElem?_eq_getElem (by omega)]
  rfl
end
def rksL (key : List B) (k M r : Nat) : List (List Int) := ((List.range r).map (rkL key k M)).map ib
theorem rksL_step (key : List B) (k M r : Nat) : rksL key k M (r + 1) = rksL key k M r ++ [ib (rkL key k M r)] := by
  unfold rksL
  rw [List.range_succ, List.map_append, List.map_append]
  rfl
theorem rksL_length (key : List B) (k M r : Nat) : (rksL key k M r).length = r := by simp [rksL]
theorem wordsTo_step (key : List B) (k m : Nat) : (wordsTo key k (m + 1)).map ib = (wordsTo key k m).map ib ++ [ib (wordB (wordsTo key k m) (k + m) k)] := by
  rw [wordsTo, List.map_append]
  rfl
theorem numsW (ii i m M k1 tot : Nat) (h1 : i + M = tot) (h2 : tot ≤ 60) (hm : m + (k1 + 1) = M) (hii : ii = i + m) : (ii : Int) < (tot : Int) ∧ wrap64 ((ii : Int) + 1) = ((ii + 1 : Nat) : Int) ∧ ii < 100 ∧ i ≤ ii ∧ (ii + 1) * 4 ≤ 140737488355328 ∧ m + 1 + k1 = M ∧ ii + 1 = i + (m + 1) := by
  unfold wrap64; omega
theorem numsR (r k1 rd rd1 : Nat) (hr : r + (k1 + 1) = rd1) (h1 : rd1 = rd + 1) (hrd : rd ≤ 14) : (r : Int) ≤ (rd : Int) ∧ wrap64 ((r : Int) + 1) = ((r + 1 : Nat) : Int) ∧ r < rd1 ∧ (r + 1) * 24 ≤ 140737488355328 ∧ r + 1 + k1 = rd1 := by
  unfold wrap64; omega
theorem numsJ (r j k2 rd1 q s ix rr N : Nat) (hr : r < rd1) (hrd : rd1 ≤ 15) (hj : j + (k2 + 1) = 16) (hq : q = j / 4) (hs : s = j % 4) (hix : ix = 4 * r + q) (hrr : rr = 4 * r) (hN : N = 4 * rd1) : ((j : Int) < 16 ∧ wrap64 (4 * (r : Int)) = (rr : Int) ∧ Int.tdiv (j : Int) 4 = (q : Int) ∧ (j : Int) / 4 = (q : Int) ∧ wrap64 (q : Int) = (q : Int) ∧ wrap64 ((rr : Int) + (q : Int)) = (ix : Int) ∧ Int.tmod (j : Int) 4 = (s : Int) ∧ (j : Int) % 4 = (s : Int) ∧ (0 : Int) ≤ (ix : Int) ∧ (ix : Int) < (N : Int) ∧ (0 : Int) ≤ (s : Int) ∧ (s : Int) < 4) ∧ j < 16 ∧ ix < N ∧ s < 4 ∧ wrap64 ((j : Int) + 1) = ((j + 1 : Nat) : Int) ∧ ∀ z : Nat, (min j z + 1) * 1 ≤ 140737488355328 := by
  have h0 : (0 : Int) ≤ (j : Int) := Int.natCast_nonneg _
  have hj16 : j < 16 := by omega
  have hq4 : q < 4 := by omega
  have hs4 : s < 4 := by omega
  refine ⟨⟨by omega, ?_, ?_, by omega, ?_, ?_, ?_, by omega, by omega, by omega, by omega, by omega⟩, hj16, by omega, hs4, ?_, fun z => ?_⟩
  · unfold wrap64; omega
  · rw [Int.tdiv_eq_ediv_of_nonneg h0]; omega
  · unfold wrap64; omega
  · unfold wrap64; omega
  · rw [Int.tmod_eq_emod_of_nonneg h0]; omega
  · unfold wrap64; omega
  · have := Nat.min_le_left j z; omega
theorem word_cell {W : World} {N0 g cap n : Nat} {ok : Nat → Prop} {key : List B} {i m : Nat} (h : Kd.R kW 83 W N0 ok (.slice (some ⟨g, 0, none⟩) n cap) ((wordsTo key i m).map ib)) (hn : n = i + m) (ix s : Nat) (hix : ix < n) (hs : s < 4) : W.cell? ⟨g, ix * 4 + s, none⟩ = some (.int .u8 (I8 ((wordAt (wordsTo key i m) ix).getD s 0#8))) := by
  obtain ⟨h1, h2, h3⟩ := Kd.R_reads' h
  rw [List.length_map, wordsTo_length, ← hn] at h3
  obtain ⟨ad, ea, h4, hc⟩ := words_cells h3 ix hix
  obtain rfl := Option.some.inj ea
  have := hc s hs
  rw [add_at, Nat.zero_add] at this
  exact this
theorem numsT (rd r4 tot : Nat) (h4 : r4 = 4 * rd) (ht : tot = 4 * (rd + 1)) (hrd : rd ≤ 14) : wrap64 (4 * (rd : Int)) = (r4 : Int) ∧ wrap64 ((r4 : Int) + 4) = (tot : Int) := by
  unfold wrap64; omega
theorem wordsTo_at4 (key : List B) (k : Nat) (h : key.length = 4 * k) (hk : 0 < k) (m i : Nat) (hi : i < k + m) : (wordAt (wordsTo key k m) i).length = 4 := by
  have hl : i < (wordsTo key k m).length := by rw [wordsTo_length]; exact hi
  unfold wordAt
  rw [List.getD_eq_getElem?_getD, List.getElem?_eq_getElem hl]
  exact wordsTo_four key k h hk m _ (List.getElem_mem hl)
theorem wordB_to (key : List B) (k : Nat) (h : key.length = 4 * k) (hk : 0 < k) (m : Nat) : (ib (wordB (wordsTo key k m) (k + m) k)).length = 4 := by
  rw [ib_length]
  have h1 : k + m - 1 < k + m := by omega
  have h2 := wordsTo_at4 key k h hk m (k + m - 1) h1
  exact wordB_length (wordsTo key k m) (k + m) k h2
set_option maxHeartbeats 4000000 in
set_option maxRecDepth 100000 in
theorem rexpand_c (key : List B) (k rd : Nat) (hkl : key.length = 4 * k) (hk0 : 0 < k) (hk8 : k ≤ 8) (hrd0 : 0 < rd) (hrd : rd ≤ 14) (hkr : k ≤ 4 * (rd + 1)) (hrI : roundsI ((4 * k : Nat) : Int) = (rd : Int)) (hrN : roundsN key.length = rd) (A : Option Addr) (c : Nat) (hc : 4 * k ≤ c) (w : World) (hC : Kd.C (Kd.int .u8) w A (4 * k) (ib key)) : Calls Try.prog 19 #[.slice A (4 * k) c] w fun e w' => ∃ v, e = .returned (.tuple #[v, .int .i64 0]) ∧ Below w.heap.size w w' ∧ RK w' w.heap.size v (roundKeys key) := by
  have HRN := Aside0.mk hrN
  clear hrN
  obtain ⟨L, hL⟩ : ∃ z, z = 4 * k := ⟨_, rfl⟩
  rw [← hL] at hrI hC hc ⊢
  have C1 := Aside0.mk (rrounds_c (L : Int) (rd : Int) hrI)
  obtain ⟨ad, rfl, hcells⟩ := key_cells (by rw [hkl, hL]) (by omega) hC
  have HKC := Aside0.mk hcells
  have HB := Aside0.mk (Below.refl w.heap.size w)
  have hrz : ((rd : Int) = 0) = False := by apply eq_false; omega
  have hrz2 : ((rd : Int) == 0) = false := by rw [beq_eq_false_iff_ne]; omega
  have hrz3 : (rd = 0) = False := by apply eq_false; omega
  have hL4 : (L : Int) / 4 = (k : Int) := by omega
  have hL5 : Int.tdiv (L : Int) 4 = (k : Int) := by rw [Int.tdiv_eq_ediv_of_nonneg (by omega)]; omega
  have hk64 : wrap64 (k : Int) = (k : Int) := by unfold wrap64; omega
  have HLK := Aside0.mk hL
  have HKL := Aside0.mk hkl
  have HK0 := Aside0.mk hk0
  have HK8 := Aside0.mk hk8
  have HRD := Aside0.mk hrd
  have HKR := Aside0.mk hkr
  clear hC hrI hL hcells hc hkl hk0 hk8 hrd hrd0 hkr
  go_enter Try.func19, Try.ntmps19
  go_wp2_with (first
    | (go_at_call 15; (with_reducible refine (C1.out.q _).mono ?_); rintro e w1 ⟨rfl, hb⟩; have HB := Aside0.mk (below_step HB.out hb); clear hb)
    | ((with_reducible refine gate_dst (N := 21) rfl ?_); go_loud (refine Kd.R_lit kW w.heap.size 83 ?hg (N := 21) ?hd (w0 := w) (xs := ([] : List (List Int))) (inner := []) (ok := fun k => w.heap.size ≤ k) (okp := fun _ => False) ?hr ?hp (fun _ hk => hk.elim) HB.out.size HB.out HB.out.size (by simp) ?_; (case hd => rfl); (case hg => rfl); (case hr => first | (go_simp; done) | (go_simp; rfl)); (case hp => exact (Reps.none _ _)); intro v5 w5 ho hb hg_ hnew_; have HO := Aside0.mk ho; have HB := Aside0.mk hb; clear ho hb hg_ hnew_)))
  clear hrz hrz2 hrz3 hL4 hL5 hk64
  have HO := Aside0.mk (show Kd.R kW 83 _ w.heap.size (fun k => w.heap.size ≤ k) _ (((keyWords key k).take 0).map ib) from HO.out)
  go_loopg [6, 7] k (fun kq av iv w' => ∃ (i : Nat) (v : Value), i + kq = k ∧ av = v ∧ iv = .int .i64 (i : Int) ∧ Aside0 (Kd.R kW 83 w' w.heap.size (fun k => w.heap.size ≤ k) v (((keyWords key k).take i).map ib)) ∧ Aside0 (Below w.heap.size w w'))
  case atStart => exact ⟨0, _, by omega, rfl, rfl, HO, HB⟩
  case round =>
    clear HO HB
    obtain ⟨i, v, hi, rfl, rfl, HO, HB⟩ := hrel
    cases gk with
    | succ k1 =>
      have hik : i < k := by omega
      have hlt : (i : Int) < (k : Int) := by omega
      have hST := key_step key k i HKL.out hik
      obtain ⟨p0, hp0⟩ : ∃ z, z = 4 * i := ⟨_, rfl⟩
      obtain ⟨p1, hp1⟩ : ∃ z, z = 4 * i + 1 := ⟨_, rfl⟩
      obtain ⟨p2, hp2⟩ : ∃ z, z = 4 * i + 2 := ⟨_, rfl⟩
      obtain ⟨p3, hp3⟩ : ∃ z, z = 4 * i + 3 := ⟨_, rfl⟩
      obtain ⟨n1, n2, n3, n4⟩ := nums4 i k L p0 p1 p2 p3 HLK.out hik HK8.out hp0 hp1 hp2 hp3
      obtain ⟨b0, c0, d0⟩ := nums4b i k L 0 p0 HLK.out hik (by decide) hp0
      obtain ⟨b1, c1, d1⟩ := nums4b i k L 1 p1 HLK.out hik (by decide) hp1
      obtain ⟨b2, c2, d2⟩ := nums4b i k L 2 p2 HLK.out hik (by decide) hp2
      obtain ⟨b3, c3, d3⟩ := nums4b i k L 3 p3 HLK.out hik (by decide) hp3
      rw [← hp3, ← hp2, ← hp1, ← hp0] at hST
      have HX0 := Aside0.mk (HKC.out p0 d0)
      have HX1 := Aside0.mk (HKC.out p1 d1)
      have HX2 := Aside0.mk (HKC.out p2 d2)
      have HX3 := Aside0.mk (HKC.out p3 d3)
      have HYL := Aside0.mk (show ((((keyWords key k).take i).map ib).length + 1) * 4 ≤ 140737488355328 by rw [List.length_map, List.length_take, keyWords_length]; have := HK8.out; omega)
      generalize key.getD p0 0#8 = x0 at *
      generalize key.getD p1 0#8 = x1 at *
      generalize key.getD p2 0#8 = x2 at *
      generalize key.getD p3 0#8 = x3 at *
      obtain ⟨ys, hys⟩ : ∃ z, z = ((keyWords key k).take i).map ib := ⟨_, rfl⟩
      rw [← hys] at HO HYL hST
      have HST := Aside0.mk hST
      have hx0 := pw_cell_below (below_drew HB.out) HX0.out
      have hx1 := pw_cell_below (below_drew HB.out) HX1.out
      have hx2 := pw_cell_below (below_drew HB.out) HX2.out
      have hx3 := pw_cell_below (below_drew HB.out) HX3.out
      have e1 := add64 i (by have := HK8.out; omega)
      have HI := Aside0.mk hi
      clear hi hik hST hys hp0 hp1 hp2 hp3 d0 d1 d2 d3
      go_wp2
      refine start_ (n := 28) (S := fun w' => w'.cell? (ad.add p0) = some (.int .u8 (I8 x0)) ∧ w'.cell? (ad.add p1) = some (.int .u8 (I8 x1)) ∧ w'.cell? (ad.add p2) = some (.int .u8 (I8 x2)) ∧ w'.cell? (ad.add p3) = some (.int .u8 (I8 x3))) (ds := []) #[false, false, false, false, false, false, false, false, false, false, false, false, false, false, false, false, false, false, false, false, false, false, false, false, false, false, false, false] (by kernel_rfl) rfl rfl ⟨hx0, hx1, hx2, hx3⟩ (fun hHeld => ?_)
      refine pure_ (i := 0) (N := some 27) (v := ?_) (a' := ?_) #[true, false, false, false, false, false, false, false, false, false, false, false, false, false, false, false, false, false, false, false, false, false, false, false, false, false, false, false] rfl rfl (by kernel_rfl) (fun _ _ _ h => h) (Or.inl ⟨by rfl, ?_⟩) ?_ ?_
      rotate_left
      · intro w'
        go_simp
        with_reducible rfl
      rotate_left
      · simp only [Act.put, List.setIfInBounds_toArray, List.set_cons_zero, List.set_cons_succ, i64_w, i32_w]
        rfl
      refine pure_ (i := 1) (N := some 28) (v := ?_) (a' := ?_) #[true, true, false, false, false, false, false, false, false, false, false, false, false, false, false, false, false, false, false, false, false, false, false, false, false, false, false, false] rfl rfl (by kernel_rfl) (fun _ _ _ h => h) (Or.inl ⟨by rfl, ?_⟩) ?_ ?_
      rotate_left
      · intro w'
        go_simp
        with_reducible rfl
      rotate_left
      · simp only [Act.put, List.setIfInBounds_toArray, List.set_cons_zero, List.set_cons_succ, i64_w, i32_w]
        rfl
      refine pure_ (i := 2) (N := some 29) (v := ?_) (a' := ?_) #[true, true, true, false, false, false, false, false, false, false, false, false, false, false, false, false, false, false, false, false, false, false, false, false, false, false, false, false] rfl rfl (by kernel_rfl) (fun _ _ _ h => h) (Or.inl ⟨by rfl, ?_⟩) ?_ ?_
      rotate_left
      · intro w'
        go_simp
        with_reducible rfl
      rotate_left
      · simp only [Act.put, List.setIfInBounds_toArray, List.set_cons_zero, List.set_cons_succ, i64_w, i32_w]
        rfl
      refine pure_ (i := 3) (N := some 30) (v := ?_) (a' := ?_) #[true, true, true, true, false, false, false, false, false, false, false, false, false, false, false, false, false, false, false, false, false, false, false, false, false, false, false, false] rfl rfl (by kernel_rfl) (fun _ _ _ h => h) (Or.inl ⟨by rfl, ?_⟩) ?_ ?_
      rotate_left
      · intro w'
        go_simp
        with_reducible rfl
      rotate_left
      · simp only [Act.put, List.setIfInBounds_toArray, List.set_cons_zero, List.set_cons_succ, i64_w, i32_w]
        rfl
      refine pure_ (i := 4) (N := some 31) (v := ?_) (a' := ?_) #[true, true, true, true, true, false, false, false, false, false, false, false, false, false, false, false, false, false, false, false, false, false, false, false, false, false, false, false] rfl rfl (by kernel_rfl) (fun _ _ _ h => h) (Or.inl ⟨by rfl, ?_⟩) ?_ ?_
      rotate_left
      · intro w'
        go_simp
        with_reducible rfl
      rotate_left
      · simp only [Act.put, List.setIfInBounds_toArray, List.set_cons_zero, List.set_cons_succ, i64_w, i32_w]
        rfl
      refine pure_ (i := 6) (N := some 33) (v := ?_) (a' := ?_) #[true, true, true, true, true, false, true, false, false, false, false, false, false, false, false, false, false, false, false, false, false, false, false, false, false, false, false, false] rfl rfl (by kernel_rfl) (fun _ _ _ h => h) (Or.inl ⟨by rfl, ?_⟩) ?_ ?_
      rotate_left
      · intro w'
        go_simp
        with_reducible rfl
      rotate_left
      · simp only [Act.put, List.setIfInBounds_toArray, List.set_cons_zero, List.set_cons_succ, i64_w, i32_w]
        rfl
      refine pure_ (i := 7) (N := some 34) (v := ?_) (a' := ?_) #[true, true, true, true, true, false, true, true, false, false, false, false, false, false, false, false, false, false, false, false, false, false, false, false, false, false, false, false] rfl rfl (by kernel_rfl) (fun _ _ _ h => h) (Or.inl ⟨by rfl, ?_⟩) ?_ ?_
      rotate_left
      · intro w'
        go_simp
        with_reducible rfl
      rotate_left
      · simp only [Act.put, List.setIfInBounds_toArray, List.set_cons_zero, List.set_cons_succ, i64_w, i32_w]
        rfl
      refine pure_ (i := 8) (N := some 35) (v := ?_) (a' := ?_) #[true, true, true, true, true, false, true, true, true, false, false, false, false, false, false, false, false, false, false, false, false, false, false, false, false, false, false, false] rfl rfl (by kernel_rfl) (fun _ _ _ h => h) (Or.inl ⟨by rfl, ?_⟩) ?_ ?_
      rotate_left
      · intro w'
        go_simp
        with_reducible rfl
      rotate_left
      · simp only [Act.put, List.setIfInBounds_toArray, List.set_cons_zero, List.set_cons_succ, i64_w, i32_w]
        rfl
      refine pure_ (i := 9) (N := some 36) (v := ?_) (a' := ?_) #[true, true, true, true, true, false, true, true, true, true, false, false, false, false, false, false, false, false, false, false, false, false, false, false, false, false, false, false] rfl rfl (by kernel_rfl) (fun _ _ _ h => h) (Or.inl ⟨by rfl, ?_⟩) ?_ ?_
      rotate_left
      · intro w'
        go_simp
        with_reducible rfl
      rotate_left
      · simp only [Act.put, List.setIfInBounds_toArray, List.set_cons_zero, List.set_cons_succ, i64_w, i32_w]
        rfl
      refine pure_ (i := 10) (N := some 37) (v := ?_) (a' := ?_) #[true, true, true, true, true, false, true, true, true, true, true, false, false, false, false, false, false, false, false, false, false, false, false, false, false, false, false, false] rfl rfl (by kernel_rfl) (fun _ _ _ h => h) (Or.inl ⟨by rfl, ?_⟩) ?_ ?_
      rotate_left
      · intro w'
        go_simp
        with_reducible rfl
      rotate_left
      · simp only [Act.put, List.setIfInBounds_toArray, List.set_cons_zero, List.set_cons_succ, i64_w, i32_w]
        rfl
      refine pure_ (i := 12) (N := some 39) (v := ?_) (a' := ?_) #[true, true, true, true, true, false, true, true, true, true, true, false, true, false, false, false, false, false, false, false, false, false, false, false, false, false, false, false] rfl rfl (by kernel_rfl) (fun _ _ _ h => h) (Or.inl ⟨by rfl, ?_⟩) ?_ ?_
      rotate_left
      · intro w'
        go_simp
        with_reducible rfl
      rotate_left
      · simp only [Act.put, List.setIfInBounds_toArray, List.set_cons_zero, List.set_cons_succ, i64_w, i32_w]
        rfl
      refine pure_ (i := 13) (N := some 40) (v := ?_) (a' := ?_) #[true, true, true, true, true, false, true, true, true, true, true, false, true, true, false, false, false, false, false, false, false, false, false, false, false, false, false, false] rfl rfl (by kernel_rfl) (fun _ _ _ h => h) (Or.inl ⟨by rfl, ?_⟩) ?_ ?_
      rotate_left
      · intro w'
        go_simp
        with_reducible rfl
      rotate_left
      · simp only [Act.put, List.setIfInBounds_toArray, List.set_cons_zero, List.set_cons_succ, i64_w, i32_w]
        rfl
      refine pure_ (i := 14) (N := some 41) (v := ?_) (a' := ?_) #[true, true, true, true, true, false, true, true, true, true, true, false, true, true, true, false, false, false, false, false, false, false, false, false, false, false, false, false] rfl rfl (by kernel_rfl) (fun _ _ _ h => h) (Or.inl ⟨by rfl, ?_⟩) ?_ ?_
      rotate_left
      · intro w'
        go_simp
        with_reducible rfl
      rotate_left
      · simp only [Act.put, List.setIfInBounds_toArray, List.set_cons_zero, List.set_cons_succ, i64_w, i32_w]
        rfl
      refine pure_ (i := 15) (N := some 42) (v := ?_) (a' := ?_) #[true, true, true, true, true, false, true, true, true, true, true, false, true, true, true, true, false, false, false, false, false, false, false, false, false, false, false, false] rfl rfl (by kernel_rfl) (fun _ _ _ h => h) (Or.inl ⟨by rfl, ?_⟩) ?_ ?_
      rotate_left
      · intro w'
        go_simp
        with_reducible rfl
      rotate_left
      · simp only [Act.put, List.setIfInBounds_toArray, List.set_cons_zero, List.set_cons_succ, i64_w, i32_w]
        rfl
      refine pure_ (i := 16) (N := some 43) (v := ?_) (a' := ?_) #[true, true, true, true, true, false, true, true, true, true, true, false, true, true, true, true, true, false, false, false, false, false, false, false, false, false, false, false] rfl rfl (by kernel_rfl) (fun _ _ _ h => h) (Or.inl ⟨by rfl, ?_⟩) ?_ ?_
      rotate_left
      · intro w'
        go_simp
        with_reducible rfl
      rotate_left
      · simp only [Act.put, List.setIfInBounds_toArray, List.set_cons_zero, List.set_cons_succ, i64_w, i32_w]
        rfl
      refine pure_ (i := 18) (N := some 45) (v := ?_) (a' := ?_) #[true, true, true, true, true, false, true, true, true, true, true, false, true, true, true, true, true, false, true, false, false, false, false, false, false, false, false, false] rfl rfl (by kernel_rfl) (fun _ _ _ h => h) (Or.inl ⟨by rfl, ?_⟩) ?_ ?_
      rotate_left
      · intro w'
        go_simp
        with_reducible rfl
      rotate_left
      · simp only [Act.put, List.setIfInBounds_toArray, List.set_cons_zero, List.set_cons_succ, i64_w, i32_w]
        rfl
      refine pure_ (i := 19) (N := some 46) (v := ?_) (a' := ?_) #[true, true, true, true, true, false, true, true, true, true, true, false, true, true, true, true, true, false, true, true, false, false, false, false, false, false, false, false] rfl rfl (by kernel_rfl) (fun _ _ _ h => h) (Or.inl ⟨by rfl, ?_⟩) ?_ ?_
      rotate_left
      · intro w'
        go_simp
        with_reducible rfl
      rotate_left
      · simp only [Act.put, List.setIfInBounds_toArray, List.set_cons_zero, List.set_cons_succ, i64_w, i32_w]
        rfl
      refine pure_ (i := 20) (N := some 47) (v := ?_) (a' := ?_) #[true, true, true, true, true, false, true, true, true, true, true, false, true, true, true, true, true, false, true, true, true, false, false, false, false, false, false, false] rfl rfl (by kernel_rfl) (fun _ _ _ h => h) (Or.inl ⟨by rfl, ?_⟩) ?_ ?_
      rotate_left
      · intro w'
        go_simp
        with_reducible rfl
      rotate_left
      · simp only [Act.put, List.setIfInBounds_toArray, List.set_cons_zero, List.set_cons_succ, i64_w, i32_w]
        rfl
      refine pure_ (i := 21) (N := some 48) (v := ?_) (a' := ?_) #[true, true, true, true, true, false, true, true, true, true, true, false, true, true, true, true, true, false, true, true, true, true, false, false, false, false, false, false] rfl rfl (by kernel_rfl) (fun _ _ _ h => h) (Or.inl ⟨by rfl, ?_⟩) ?_ ?_
      rotate_left
      · intro w'
        go_simp
        with_reducible rfl
      rotate_left
      · simp only [Act.put, List.setIfInBounds_toArray, List.set_cons_zero, List.set_cons_succ, i64_w, i32_w]
        rfl
      refine pure_ (i := 22) (N := some 49) (v := ?_) (a' := ?_) #[true, true, true, true, true, false, true, true, true, true, true, false, true, true, true, true, true, false, true, true, true, true, true, false, false, false, false, false] rfl rfl (by kernel_rfl) (fun _ _ _ h => h) (Or.inl ⟨by rfl, ?_⟩) ?_ ?_
      rotate_left
      · intro w'
        go_simp
        with_reducible rfl
      rotate_left
      · simp only [Act.put, List.setIfInBounds_toArray, List.set_cons_zero, List.set_cons_succ, i64_w, i32_w]
        rfl
      refine take_ (i := 5) (N := some 32) (v := ?_) (a' := ?_) #[true, true, true, true, true, true, true, true, true, true, true, false, true, true, true, true, true, false, true, true, true, true, true, false, false, false, false, false] rfl rfl (by kernel_rfl) (fun _ _ _ h => h) (Or.inl ⟨by rfl, ?_⟩) hHeld ?_ ?_
      rotate_left
      · rintro w' ⟨s0, s1, s2, s3⟩
        go_simp
        with_reducible rfl
      rotate_left
      · simp only [Act.put, List.setIfInBounds_toArray, List.set_cons_zero, List.set_cons_succ, i64_w, i32_w]
        rfl
      refine take_ (i := 11) (N := some 38) (v := ?_) (a' := ?_) #[true, true, true, true, true, true, true, true, true, true, true, true, true, true, true, true, true, false, true, true, true, true, true, false, false, false, false, false] rfl rfl (by kernel_rfl) (fun _ _ _ h => h) (Or.inl ⟨by rfl, ?_⟩) hHeld ?_ ?_
      rotate_left
      · rintro w' ⟨s0, s1, s2, s3⟩
        go_simp
        with_reducible rfl
      rotate_left
      · simp only [Act.put, List.setIfInBounds_toArray, List.set_cons_zero, List.set_cons_succ, i64_w, i32_w]
        rfl
      refine take_ (i := 17) (N := some 44) (v := ?_) (a' := ?_) #[true, true, true, true, true, true, true, true, true, true, true, true, true, true, true, true, true, true, true, true, true, true, true, false, false, false, false, false] rfl rfl (by kernel_rfl) (fun _ _ _ h => h) (Or.inl ⟨by rfl, ?_⟩) hHeld ?_ ?_
      rotate_left
      · rintro w' ⟨s0, s1, s2, s3⟩
        go_simp
        with_reducible rfl
      rotate_left
      · simp only [Act.put, List.setIfInBounds_toArray, List.set_cons_zero, List.set_cons_succ, i64_w, i32_w]
        rfl
      refine take_ (i := 23) (N := some 50) (v := ?_) (a' := ?_) #[true, true, true, true, true, true, true, true, true, true, true, true, true, true, true, true, true, true, true, true, true, true, true, true, false, false, false, false] rfl rfl (by kernel_rfl) (fun _ _ _ h => h) (Or.inl ⟨by rfl, ?_⟩) hHeld ?_ ?_
      rotate_left
      · rintro w' ⟨s0, s1, s2, s3⟩
        go_simp
        with_reducible rfl
      rotate_left
      · simp only [Act.put, List.setIfInBounds_toArray, List.set_cons_zero, List.set_cons_succ, i64_w, i32_w]
        rfl
      refine pure_ (i := 24) (N := some 51) (v := ?_) (a' := ?_) #[true, true, true, true, true, true, true, true, true, true, true, true, true, true, true, true, true, true, true, true, true, true, true, true, true, false, false, false] rfl rfl (by kernel_rfl) (fun _ _ _ h => h) (Or.inl ⟨by rfl, ?_⟩) ?_ ?_
      rotate_left
      · intro w'
        go_simp
        with_reducible rfl
      rotate_left
      · simp only [Act.put, List.setIfInBounds_toArray, List.set_cons_zero, List.set_cons_succ, i64_w, i32_w]
        rfl
      refine one_ (i := 25) (N := some 52) #[true, true, true, true, true, true, true, true, true, true, true, true, true, true, true, true, true, true, true, true, true, true, true, true, true, true, false, false] rfl rfl (by kernel_rfl) (by decide) (fun K hK => ?_)
      refine value_ (w1 := ?_) (v := ?_) (by rfl) rfl ?_ ?_
      rotate_left 2
      · go_simp
        constructor
        · rfl
        · rfl
      refine hK.out _ _ ⟨(pw_cell_below (below_alloc (below_drew HB.out) _) HX0.out), (pw_cell_below (below_alloc (below_drew HB.out) _) HX1.out), (pw_cell_below (below_alloc (below_drew HB.out) _) HX2.out), (pw_cell_below (below_alloc (below_drew HB.out) _) HX3.out)⟩ (fun hHeld => ?_)
      clear hK K
      refine norm_ (a' := ?_) ?_ ?_
      rotate_left
      · show Act.put _ (some 52) _ = _
        simp only [Act.put, List.setIfInBounds_toArray, List.set_cons_zero, List.set_cons_succ, i64_w, i32_w]
        rfl
      refine one_ (i := 26) (N := some 53) #[true, true, true, true, true, true, true, true, true, true, true, true, true, true, true, true, true, true, true, true, true, true, true, true, true, true, true, false] rfl rfl (by kernel_rfl) (by decide) (fun K hK => ?_)
      rw [show (wr.alloc (.cells #[.int .u8 (I8 x0), .int .u8 (I8 x1), .int .u8 (I8 x2), .int .u8 (I8 x3)] 83)).drew = (wr.drew).alloc (.cells ([.int .u8 (I8 x0), .int .u8 (I8 x1), .int .u8 (I8 x2), .int .u8 (I8 x3)] : List Value).toArray 83) from rfl]
      refine Kd.R_append_step kW (w0 := w) w.heap.size (by rfl) (.tmp 27) (.tmp 52) 82 83 (.agg #[.int .u8 0, .int .u8 0, .int .u8 0, .int .u8 0]) 4 rfl Try.underlying82 info_w4 rfl (by decide) (by decide) _ ys [I8 x0, I8 x1, I8 x2, I8 x3] [.int .u8 (I8 x0), .int .u8 (I8 x1), .int .u8 (I8 x2), .int .u8 (I8 x3)] (fun k => w.heap.size ≤ k) (fun _ => False) rfl rfl ?aP (fun _ hk => hk.elim) ?aF ?aO ?aB ?aS ?aL ?_
      (case aP => exact Kd.arr_of_cells (xs := [I8 x0, I8 x1, I8 x2, I8 x3]) rfl)
      (case aF => exact (fun k hk => Nat.le_trans (below_drew HB.out).size hk))
      (case aO => exact Kd.R_drew HO.out)
      (case aB => exact below_drew HB.out)
      (case aS => exact (below_drew HB.out).size)
      (case aL => exact HYL.out)
      intro v6 w6 ho hb hg hat
      rw [← HST.out] at ho
      have HO := Aside0.mk ho
      have HB := Aside0.mk hb
      clear ho hb hg hat
      refine hK.out _ _ ⟨(pw_cell_below HB.out HX0.out), (pw_cell_below HB.out HX1.out), (pw_cell_below HB.out HX2.out), (pw_cell_below HB.out HX3.out)⟩ (fun hHeld => ?_)
      clear hK K
      refine norm_ (a' := ?_) ?_ ?_
      rotate_left
      · show Act.put _ (some 53) _ = _
        simp only [Act.put, List.setIfInBounds_toArray, List.set_cons_zero, List.set_cons_succ, i64_w, i32_w]
        rfl
      refine pure_ (i := 27) (N := some 6) (v := ?_) (a' := ?_) #[true, true, true, true, true, true, true, true, true, true, true, true, true, true, true, true, true, true, true, true, true, true, true, true, true, true, true, true] rfl rfl (by kernel_rfl) (fun _ _ _ h => h) (Or.inl ⟨by rfl, ?_⟩) ?_ ?_
      rotate_left
      · intro w'
        go_simp
        with_reducible rfl
      rotate_left
      · simp only [Act.put, List.setIfInBounds_toArray, List.set_cons_zero, List.set_cons_succ, i64_w, i32_w]
        rfl
      refine done_ (by kernel_rfl) ?_
      clear hx0 hx1 hx2 hx3 n1 n2 n3 n4 b0 b1 b2 b3 c0 c1 c2 c3
      go_wp2
      go_roundg k1
      case measure => omega
      case rel => exact ⟨i + 1, _, by have := HI.out; omega, rfl, by first | rfl | rw [e1] | go_num, HO, HB⟩
    | zero =>
      obtain rfl : i = k := by omega
      have HO := Aside0.mk (show Kd.R kW 83 _ w.heap.size (fun k => w.heap.size ≤ k) _ ((wordsTo key i 0).map ib) by have h := HO.out; rwa [List.take_of_length_le (by rw [keyWords_length]; exact Nat.le_refl _)] at h)
      obtain ⟨M, hM⟩ : ∃ z, z = 4 * (rd + 1) - i := ⟨_, rfl⟩
      have HM := Aside0.mk (show i + M = 4 * (rd + 1) by have := HKR.out; omega)
      obtain ⟨tot, htot⟩ : ∃ z, z = 4 * (rd + 1) := ⟨_, rfl⟩
      obtain ⟨r4, hr4⟩ : ∃ z, z = 4 * rd := ⟨_, rfl⟩
      obtain ⟨t1, t2⟩ := numsT rd r4 tot hr4 htot HRD.out
      have HTOT := Aside0.mk (show i + M = tot by rw [htot]; exact HM.out)
      have HT9 := Aside0.mk (show tot ≤ 60 by have := HRD.out; omega)
      have hlt : ¬ (i : Int) < (i : Int) := by omega
      clear hi hM htot hr4 HKC
      go_wp2
      go_loopg [6, 8] M (fun kq av iv w' => ∃ (m ii : Nat) (v : Value), m + kq = M ∧ ii = i + m ∧ av = v ∧ iv = .int .i64 (ii : Int) ∧ Aside0 (Kd.R kW 83 w' w.heap.size (fun k => w.heap.size ≤ k) v ((wordsTo key i m).map ib)) ∧ Aside0 (Below w.heap.size w w'))
      case atStart => exact ⟨0, i, _, by omega, by omega, rfl, rfl, HO, HB⟩
      case round =>
        clear HO HB
        obtain ⟨m, ii, v, hm, hii, rfl, rfl, HO, HB⟩ := hrel
        cases gk with
        | succ k1 =>
          have HW := Aside0.mk (numsW ii i m M k1 tot HTOT.out HT9.out hm hii)
          have hilt := HW.out.1
          have e1 := HW.out.2.1
          have HST := Aside0.mk (wordsTo_step key i m)
          obtain ⟨x0, x1, x2, x3, hx4⟩ := four_of _ (by have h := wordB_to key i HKL.out HK0.out m; rw [ib_length] at h; exact h)
          obtain ⟨g, cap, hv, -, -, -⟩ := Kd.R_form HO.out (by rw [List.length_map, wordsTo_length]; exact Nat.lt_of_lt_of_le HK0.out (Nat.le_add_right _ _))
          rw [List.length_map, wordsTo_length, ← hii] at hv
          subst hv
          have CW := Aside0.mk (fun (W : World) (hR : Kd.R kW 83 W w.heap.size (fun k => w.heap.size ≤ k) (.slice (some ⟨g, 0, none⟩) ii cap) ((wordsTo key i m).map ib)) => show Calls Try.prog 68 #[.slice (some ⟨g, 0, none⟩) ii cap, .int .i64 (ii : Int), .int .i64 (i : Int)] W fun e w' => e = .returned (.agg #[.int .u8 (I8 x0), .int .u8 (I8 x1), .int .u8 (I8 x2), .int .u8 (I8 x3)]) ∧ Below W.heap.size W w' from by
            obtain ⟨hn, hcc, hCC⟩ := Kd.R_reads' hR
            rw [List.length_map, wordsTo_length] at hn hCC
            rw [← hn] at hCC
            have h := rword_c (wordsTo key i m) ii ii i HW.out.2.2.2.1 (Nat.le_refl _) HW.out.2.2.1 HK0.out HK8.out g 0 cap hcc W hCC
            rw [hii, hx4, ← hii] at h
            exact h)
          have HNL := Aside0.mk (show (((wordsTo key i m).map ib).length + 1) * 4 ≤ 140737488355328 by rw [List.length_map, wordsTo_length, ← hii]; exact HW.out.2.2.2.2.1)
          have HST := Aside0.mk (show (wordsTo key i (m + 1)).map ib = (wordsTo key i m).map ib ++ [[I8 x0, I8 x1, I8 x2, I8 x3]] by rw [HST.out, hx4]; rfl)
          have HI := Aside0.mk (And.intro hm hii)
          clear hm hii hx4
          go_wp2_with (first
            | (go_at_call 68; go_loud ((refine (CW.out _ HO.out).mono ?_); rintro e w4 ⟨rfl, hb⟩; have HO := Aside0.mk (Kd.R_below HO.out hb); have HB := Aside0.mk (below_step HB.out hb); clear hb))
            | ((with_reducible refine gate_builtin (b := .append) (xs := #[.tmp 62, .tmp 67]) rfl ?_); at_builtin; go_loud (refine Kd.R_append kW (w0 := w) w.heap.size rfl (.tmp 62) (.tmp 67) 82 83 (.agg #[.int .u8 0, .int .u8 0, .int .u8 0, .int .u8 0]) 4 rfl Try.underlying82 info_w4 rfl (by decide) (by decide) _ ((wordsTo key i m).map ib) [I8 x0, I8 x1, I8 x2, I8 x3] [.int .u8 (I8 x0), .int .u8 (I8 x1), .int .u8 (I8 x2), .int .u8 (I8 x3)] (fun k => w.heap.size ≤ k) (fun _ => False) rfl rfl ?aP ?aK ?aF ?aO ?aB ?aS ?aL ?_; (case aP => exact Kd.arr_of_cells (xs := [I8 x0, I8 x1, I8 x2, I8 x3]) rfl); (case aK => exact (fun _ hk => hk.elim)); (case aF => exact (fun k hk => Nat.le_trans HB.out.size hk)); (case aO => exact HO.out); (case aB => exact HB.out); (case aS => exact HB.out.size); (case aL => exact HNL.out); intro v6 w6 ho hb hg hat; rw [← HST.out] at ho; have HO := Aside0.mk ho; have HB := Aside0.mk hb; clear ho hb hg hat)))
          go_roundg k1
          case measure => omega
          case rel => exact ⟨m + 1, ii + 1, _, HW.out.2.2.2.2.2.1, HW.out.2.2.2.2.2.2, rfl, by first | rfl | rw [e1] | go_num, HO, HB⟩
        | zero =>
          obtain rfl : m = M := by omega
          have htn : ¬ (ii : Int) < (tot : Int) := by have := HTOT.out; omega
          obtain ⟨g, cap, hv, -, -, -⟩ := Kd.R_form HO.out (by rw [List.length_map, wordsTo_length]; exact Nat.lt_of_lt_of_le HK0.out (Nat.le_add_right _ _))
          rw [List.length_map, wordsTo_length, ← hii] at hv
          subst hv
          have HII := Aside0.mk hii
          have HIT := Aside0.mk (show ii = tot by rw [hii]; exact HTOT.out)
          obtain ⟨rd1, hrd1⟩ : ∃ z, z = rd + 1 := ⟨_, rfl⟩
          have HR1 := Aside0.mk hrd1
          have HT4 := Aside0.mk (show i + m = 4 * rd1 by rw [hrd1]; exact HM.out)
          have HRKS := Aside0.mk (show (roundKeys key).map ib = rksL key i m rd1 by rw [roundKeys_all key i rd m HKL.out HRN.out HM.out, hrd1]; rfl)
          have HRKN := Aside0.mk (show (roundKeys key).length = rd1 by rw [roundKeys_all key i rd m HKL.out HRN.out HM.out, hrd1]; simp)
          generalize wr = wb at *
          have HBQ := HB
          have HOb := HO
          have HBB := Aside0.mk (Below.refl wb.heap.size wb)
          clear HB HO hm hii hrd1
          go_wp2_with (first
            | ((with_reducible refine gate_dst (N := 69) rfl ?_); go_loud (refine Kd.R_lit kR wb.heap.size 22 ?hg (N := 69) ?hd (w0 := wb) (xs := ([] : List (List Int))) (inner := []) (ok := fun k => wb.heap.size ≤ k) (okp := fun _ => False) ?hr ?hp (fun _ hk => hk.elim) HBB.out.size HBB.out HBB.out.size (by simp) ?_; (case hd => rfl); (case hg => rfl); (case hr => first | (go_simp; done) | (go_simp; rfl)); (case hp => exact (Reps.none _ _)); intro v5 w5 ho hb hg_ hnew_; have HOUT := Aside0.mk ho; have HBB := Aside0.mk hb; clear ho hb hg_ hnew_)))
          clear htn t1 t2
          go_loopg [9, 10] rd1 (fun kq av iv w' => ∃ (r : Nat) (v : Value), r + kq = rd1 ∧ av = v ∧ iv = .int .i64 (r : Int) ∧ Aside0 (Kd.R kR 22 w' wb.heap.size (fun k => wb.heap.size ≤ k) v (rksL key i m r)) ∧ Aside0 (Below wb.heap.size wb w'))
          case atStart => exact ⟨0, _, by omega, rfl, rfl, HOUT, HBB⟩
          case round =>
            clear HOUT HBB
            obtain ⟨r, v, hr, rfl, rfl, HOUT, HBB⟩ := hrel
            cases gk with
            | zero =>
              obtain rfl : r = rd1 := by omega
              have hnl : ¬ (r : Int) ≤ (rd : Int) := by have := HR1.out; omega
              clear hr
              go_wp2
              obtain ⟨Ao, co, eo⟩ := Kd.R_slice HOUT.out
              have hO := HOUT.out
              rw [eo] at hO
              subst eo
              rw [rksL_length] at hO ⊢
              clear HOUT
              refine bodyPost_ret (results_tmp2 rfl _ _ _) rfl ⟨_, rfl, below_step HBQ.out HBB.out, Ao, co, by rw [HRKN.out]; rfl, by rw [HRKN.out]; exact (Kd.R_reads' hO).2.1, ?_⟩
              rw [HRKN.out, HRKS.out]
              exact Kd.R_F (Kd.R_mono hO (fun q hq => Nat.le_trans HBQ.out.size hq))
            | succ k1 =>
              have HRR := Aside0.mk (numsR r k1 rd rd1 hr HR1.out HRD.out)
              have hle := HRR.out.1
              have e1 := HRR.out.2.1
              generalize wr = wn at *
              have HBN := HBB
              have HOUTN := HOUT
              have HN := Aside0.mk (Below.refl wn.heap.size wn)
              clear HBB HOUT hr
              go_wp2_with (first
                | ((with_reducible refine gate_dst (N := 75) rfl ?_); go_loud (refine Kd.R_lit kB wn.heap.size 5 ?hg (N := 75) ?hd (w0 := wn) (xs := ([] : List Int)) (inner := []) (ok := fun k => wn.heap.size ≤ k) (okp := fun _ => False) ?hr ?hp (fun _ hk => hk.elim) HN.out.size HN.out HN.out.size (by simp) ?_; (case hd => rfl); (case hg => rfl); (case hr => first | (go_simp; done) | (go_simp; rfl)); (case hp => exact (Reps.none _ _)); intro v5 w5 ho hb hg_ hnew_; have HOB := Aside0.mk ho; have HN := Aside0.mk hb; clear ho hb hg_ hnew_)))
              go_loopg [11, 12] 16 (fun kq av iv w' => ∃ (j : Nat) (v : Value), j + kq = 16 ∧ av = v ∧ iv = .int .i64 (j : Int) ∧ Aside0 (Kd.R kB 5 w' wn.heap.size (fun k => wn.heap.size ≤ k) v (ib ((rkL key i m r).take j))) ∧ Aside0 (Below wn.heap.size wn w'))
              case atStart => exact ⟨0, _, by omega, rfl, rfl, HOB, HN⟩
              case round =>
                clear HOB HN
                obtain ⟨j, v, hj, rfl, rfl, HOB, HN⟩ := hrel
                cases gk with
                | zero =>
                  obtain rfl : j = 16 := by omega
                  have HOB := Aside0.mk (show Kd.R kB 5 _ wn.heap.size (fun k => wn.heap.size ≤ k) _ (ib (rkL key i m r)) by have h := HOB.out; rwa [List.take_of_length_le (by rw [rkL_length key i m rd1 HKL.out HK0.out HT4.out r HRR.out.2.2.1]; exact Nat.le_refl _)] at h)
                  obtain ⟨Ab, cb, eb⟩ := Kd.R_slice HOB.out
                  subst eb
                  have HOUT := Aside0.mk (Kd.R_below HOUTN.out HN.out)
                  have HBB := Aside0.mk (below_step HBN.out HN.out)
                  have HRL := Aside0.mk (show ((rksL key i m r).length + 1) * 24 ≤ 140737488355328 by rw [rksL_length]; exact HRR.out.2.2.2.1)
                  clear hj
                  go_wp2_with (first
                    | ((with_reducible refine gate_builtin (b := .append) (xs := #[.tmp 94, .tmp 96]) rfl ?_); at_builtin; go_loud (refine Kd.R_append kR (w0 := wb) wb.heap.size rfl (.tmp 94) (.tmp 96) 25 22 (.slice none 0 0) 24 rfl Try.underlying25 info_sl rfl (by decide) (by decide) _ (rksL key i m r) (ib (rkL key i m r)) _ (fun k => wb.heap.size ≤ k) (fun q => wn.heap.size ≤ q) rfl rfl ?aP ?aK ?aF ?aO ?aB ?aS ?aL ?_; (case aP => exact ⟨_, rfl, Kd.R_lower HOB.out HBN.out.size⟩); (case aK => exact (fun q hq => ⟨Nat.le_trans HBN.out.size hq, fun e => Nat.lt_irrefl _ (Nat.lt_of_lt_of_le ((Kd.R_bound HOUTN.out).1 q e.symm).2.2.1 hq)⟩)); (case aF => exact (fun k hk => Nat.le_trans HBB.out.size hk)); (case aO => exact HOUT.out); (case aB => exact HBB.out); (case aS => exact HBB.out.size); (case aL => exact HRL.out); intro v6 w6 ho hb hg hat; rw [← rksL_step] at ho; have HOUT := Aside0.mk ho; have HBB := Aside0.mk hb; clear ho hb hg hat)))
                  go_roundg k1
                  case measure => omega
                  case rel => exact ⟨r + 1, _, HRR.out.2.2.2.2, rfl, by first | rfl | rw [e1] | go_num, HOUT, HBB⟩
                | succ k2 =>
                  have HJ2 := Aside0.mk (show j + 1 + k2 = 16 by omega)
                  obtain ⟨q, hq⟩ : ∃ z, z = j / 4 := ⟨_, rfl⟩
                  obtain ⟨s, hs⟩ : ∃ z, z = j % 4 := ⟨_, rfl⟩
                  obtain ⟨ix, hix⟩ : ∃ z, z = 4 * r + q := ⟨_, rfl⟩
                  obtain ⟨rr, hrr⟩ : ∃ z, z = 4 * r := ⟨_, rfl⟩
                  have HJ := Aside0.mk (numsJ r j k2 rd1 q s ix rr ii HRR.out.2.2.1 (by have := HR1.out; have := HRD.out; omega) hj hq hs hix hrr (by rw [HII.out]; exact HT4.out))
                  obtain ⟨f1, f2, f3, f4, f5, f6, f7, f8, f9, f10, f11, f12⟩ := HJ.out.1
                  have HST := Aside0.mk (rkL_step key i m rd1 HKL.out HK0.out HT4.out r j HRR.out.2.2.1 HJ.out.2.1)
                  rw [← hq, ← hs, ← hix] at HST
                  have hx := word_cell (Kd.R_below (Kd.R_below HOb.out HBN.out) HN.out) HII.out ix s HJ.out.2.2.1 HJ.out.2.2.2.1
                  obtain ⟨xj, hxj⟩ : ∃ z, z = (wordAt (wordsTo key i m) ix).getD s 0#8 := ⟨_, rfl⟩
                  rw [← hxj] at hx HST
                  have HJL := Aside0.mk (show ((ib ((rkL key i m r).take j)).length + 1) * 1 ≤ 140737488355328 by rw [ib_length, List.length_take]; exact HJ.out.2.2.2.2.2 _)
                  have e2 := HJ.out.2.2.2.2.1
                  clear hj hq hs hix hrr hxj f4 f8
                  go_wp2_with (first
                    | ((with_reducible refine gate_builtin (b := .append) (xs := #[.tmp 80, .tmp 92]) rfl ?_); at_builtin; go_loud (refine Kd.R_append kB (w0 := wn) wn.heap.size rfl (.tmp 80) (.tmp 92) 22 5 (.int .u8 0) 1 rfl Try.underlying22 info_u8 rfl (by decide) (by decide) _ (ib ((rkL key i m r).take j)) (I8 xj) [.int .u8 (I8 xj)] (fun k => wn.heap.size ≤ k) (fun _ => False) rfl rfl ?aP ?aK ?aF ?aO ?aB ?aS ?aL ?_; (case aP => exact rfl); (case aK => exact (fun _ hk => hk.elim)); (case aF => exact (fun k hk => Nat.le_trans HN.out.size hk)); (case aO => exact HOB.out); (case aB => exact HN.out); (case aS => exact HN.out.size); (case aL => exact HJL.out); intro v6 w6 ho hb hg hat; rw [← HST.out] at ho; have HOB := Aside0.mk ho; have HN := Aside0.mk hb; clear ho hb hg hat f1 f2 f3 f5 f6 f7 f9 f10 f11 f12 hx)))
                  go_roundg k2
                  case measure => omega
                  case rel => exact ⟨j + 1, _, HJ2.out, rfl, by first | rfl | rw [e2] | go_num, HOB, HN⟩
end Go.Proofs.Ytpdikfmdnlhllaa.Aes
namespace Go.Proofs.Ytpdikfmdnlhllaa.Aes
open Go.RowKit Go.Proofs.Ytpdikfmdnlhllaa.PNib Go.Proofs.YtpdikfmdnlhllaaW.PrintWords Go.Proofs.YtpdikfmdnlhllaaW.PrintLast Go.Proofs.YtpdikfmdnlhllaaW.PrintMore Byte Sl Arr Mem Gives ArrEq Mat AesMath AesMov AesLin HandKit
set_option linter.unusedVariables false
set_option linter.unusedSimpArgs false
theorem round_keys_len (key : List B) (hr : roundsN key.length ≠ 0) : ∃ n, (roundKeys key).length = n + 2 ∧ n + 1 = roundsN key.length ∧ n ≤ 100 ∧ ∀ r, r < n + 2 → (keyAt (roundKeys key) r).length = 16 := by
  obtain ⟨k, rd, M, h1, h2, h3, h4, h5⟩ : ∃ k rd M, key.length = 4 * k ∧ 0 < k ∧ roundsN key.length = rd + 1 ∧ k + M = 4 * (rd + 2) ∧ rd ≤ 100 := by
    rcases roundsN_pos hr with ⟨h, h2⟩ | ⟨h, h2⟩ | ⟨h, h2⟩
    · exact ⟨4, 9, 40, h, by decide, h2, by decide, by decide⟩
    · exact ⟨6, 11, 46, h, by decide, h2, by decide, by decide⟩
    · exact ⟨8, 13, 52, h, by decide, h2, by decide, by decide⟩
  refine ⟨rd, ?_, h3.symm, h5, fun r hr => ?_⟩
  · rw [roundKeys_length, h3]
  · unfold keyAt
    rw [roundKeys_all key k (rd + 1) M h1 h3 (by omega)]
    rw [List.getD_eq_getElem?_getD, List.getElem?_map, List.getElem?_range (by omega)]
    show (((allL key k M).drop (16 * r)).take 16).length = 16
    rw [List.length_take, List.length_drop, allL_length key k M h1 h2]
    omega
end Go.Proofs.Ytpdikfmdnlhllaa.Aes
namespace Go.Proofs.Ytpdikfmdnlhllaa.Aes
open Go.RowKit Go.Proofs.Ytpdikfmdnlhllaa.PNib Go.Proofs.YtpdikfmdnlhllaaW.PrintWords Go.Proofs.YtpdikfmdnlhllaaW.PrintLast Go.Proofs.YtpdikfmdnlhllaaW.PrintMore Byte Sl Arr Mem Gives ArrEq Mat AesMath AesMov AesLin HandKit
set_option linter.unusedVariables false
set_option linter.unusedSimpArgs false
theorem RK.head {w : World} {b : Nat} {A : Option Addr} {ks : List (List B)} (hF : Kd.F (Kd.slice 5 (Kd.int .u8)) w (fun k => b ≤ k) A ks.length (ks.map ib)) (i : Nat) (hi : i < ks.length) : ∃ ad Ai ci, A = some ad ∧ w.cell? (ad.add i) = some (.slice Ai (keyAt ks i).length ci) ∧ (keyAt ks i).length ≤ ci ∧ Kd.C (Kd.int .u8) w Ai (keyAt ks i).length (ib (keyAt ks i)) := by
  obtain ⟨ad, cs, rfl, hcl, hK, hcc⟩ := Kd.C_get (Kd.F_now hF) [] (i : Int) (by omega) (by omega)
  obtain ⟨Ai, ci, rfl, hli, hCi⟩ := hK
  have e : (ks.map ib).getD (i : Int).toNat [] = ib (keyAt ks i) := by
    unfold keyAt
    rw [Int.toNat_natCast, List.getD_eq_getElem?_getD, List.getD_eq_getElem?_getD, List.getElem?_map, List.getElem?_eq_getElem hi]
    rfl
  rw [e] at hcc hCi hli
  rw [ib_length] at hcc hCi hli
  refine ⟨ad, Ai, ci, rfl, ?_, hli, hCi⟩
  have h0 := hcc 0 _ rfl
  rw [Int.toNat_natCast] at h0
  simpa [Kd.slice] using h0
end Go.Proofs.Ytpdikfmdnlhllaa.Aes
namespace Go.Proofs.Ytpdikfmdnlhllaa.Aes
open Go.RowKit Go.Proofs.Ytpdikfmdnlhllaa.PNib Go.Proofs.YtpdikfmdnlhllaaW.PrintWords Go.Proofs.YtpdikfmdnlhllaaW.PrintLast Go.Proofs.YtpdikfmdnlhllaaW.PrintMore Byte Sl Arr Mem Gives ArrEq Mat AesMath AesMov AesLin HandKit
set_option linter.unusedVariables false
set_option linter.unusedSimpArgs false
theorem rexpand_ok (key : List B) (hr : roundsN key.length ≠ 0) (A : Option Addr) (c : Nat) (hc : key.length ≤ c) (w : World) (hC : Kd.C (Kd.int .u8) w A key.length (ib key)) : Calls Try.prog 19 #[.slice A key.length c] w fun e w' => ∃ v, e = .returned (.tuple #[v, .int .i64 0]) ∧ Below w.heap.size w w' ∧ RK w' w.heap.size v (roundKeys key) := by
  rcases roundsN_pos hr with ⟨h, h2⟩ | ⟨h, h2⟩ | ⟨h, h2⟩
  · have := rexpand_c key 4 10 h (by decide) (by decide) (by decide) (by decide) (by decide) (by decide) h2 A c (by omega) w (by rw [h] at hC; exact hC)
    rw [h]; exact this
  · have := rexpand_c key 6 12 h (by decide) (by decide) (by decide) (by decide) (by decide) (by decide) h2 A c (by omega) w (by rw [h] at hC; exact hC)
    rw [h]; exact this
  · have := rexpand_c key 8 14 h (by decide) (by decide) (by decide) (by decide) (by decide) (by decide) h2 A c (by omega) w (by rw [h] at hC; exact hC)
    rw [h]; exact this
end Go.Proofs.Ytpdikfmdnlhllaa.Aes
namespace Go.Proofs.Ytpdikfmdnlhllaa.Aes
open Go.RowKit Go.Proofs.Ytpdikfmdnlhllaa.PNib Go.Proofs.YtpdikfmdnlhllaaW.PrintWords Go.Proofs.YtpdikfmdnlhllaaW.PrintLast Go.Proofs.YtpdikfmdnlhllaaW.PrintMore Byte Sl Arr Mem Gives ArrEq Mat AesMath AesMov AesLin HandKit
set_option linter.unusedVariables false
set_option linter.unusedSimpArgs false
abbrev FR (W : World) (b : Nat) (A : Option Addr) (ks : List (List B)) : Prop := Kd.F (Kd.slice 5 (Kd.int .u8)) W (fun k => b ≤ k) A ks.length (ks.map ib)
theorem FR.below {W w' : World} {b : Nat} {A : Option Addr} {ks : List (List B)} (h : FR W b A ks) (hb : Below W.heap.size W w') : FR w' b A ks := Kd.F_below h hb
theorem FR.row {W : World} {b : Nat} {A : Option Addr} {ks : List (List B)} (h : FR W b A ks) {g : Nat} (hg : g < b) (cs : Array Value) : FR (W.setRow g cs) b A ks :=
  Kd.F_grown h (grown_setRow W g cs) (fun k hk e => by have := Option.some.inj e; omega)
theorem refHead {W : World} {b : Nat} {A : Option Addr} {ks : List (List B)} (h : FR W b A ks) (r : Nat) (hr : r < ks.length) (h16 : (keyAt ks r).length = 16) : ∃ ad K d, A = some ad ∧ W.cell? (ad.add r) = some (.slice K 16 d) ∧ 16 ≤ d ∧ Kd.C (Kd.int .u8) W K 16 (ib (keyAt ks r)) := by
  obtain ⟨ad, K, d, rfl, h1, h2, h3⟩ := RK.head h r hr
  rw [h16] at h1 h2 h3
  exact ⟨ad, K, d, rfl, h1, h2, h3⟩
theorem rowN (n la N2 : Nat) (h1 : N2 = n + 2) (h2 : la = n + 1) (hn : n ≤ 100) : wrap64 ((N2 : Int) - 1) = (la : Int) ∧ IntKind.i64.wrap ((N2 : Int) - 1) = (la : Int) ∧ wrap64 ((N2 : Int) - 2) = (n : Int) ∧ (0 : Int) ≤ (la : Int) ∧ (la : Int) < (N2 : Int) ∧ (0 : Int) < (N2 : Int) := by
  refine ⟨?_, ?_, ?_, ?_, ?_, ?_⟩
  · unfold wrap64; omega
  · rw [IntKind.wrap_i64]; omega
  · unfold wrap64; omega
  · omega
  · omega
  · omega
set_option maxHeartbeats 4000000 in
set_option maxRecDepth 100000 in
theorem rblock_c (key b : List B) (hb : b.length = 16) (hr : roundsN key.length ≠ 0) (n : Nat) (hks : (roundKeys key).length = n + 2) (hk16 : ∀ r, r < n + 2 → (keyAt (roundKeys key) r).length = 16) (hn : n ≤ 100) (A : Option Addr) (c : Nat) (hc : key.length ≤ c) (w : World) (hC : Kd.C (Kd.int .u8) w A key.length (ib key)) : Calls Try.prog 34 #[.slice A key.length c, .agg (cellsOf .u8 (ib b))] w fun e w' => e = .returned (.agg (cellsOf .u8 (ib (encB (roundKeys key) n b)))) ∧ Below w.heap.size w w' := by
  have HC := Aside0.mk hC
  have CE := Aside0.mk (fun W hC => rexpand_ok key hr A c hc W hC)
  have M1 := Aside0.mk (Mem.alloc (Mem.new .u8 w 31 (ib b)) (.cells (cellsOf .u8 z16) 31))
  have M2 := Aside0.mk (Mem.new2 .u8 w (.cells (cellsOf .u8 (ib b)) 31) 31 z16)
  have HB := Aside0.mk (below_alloc (below_alloc (Below.refl w.heap.size w) (.cells (cellsOf .u8 (ib b)) 31)) (.cells (cellsOf .u8 z16) 31))
  obtain ⟨cl, hcl⟩ : ∃ cs, cs = cellsOf .u8 (ib b) := ⟨_, rfl⟩
  rw [← hcl] at M1 M2 HB ⊢
  have HCL := Aside0.mk hcl
  obtain ⟨N2, hN2⟩ : ∃ z, z = n + 2 := ⟨_, rfl⟩
  obtain ⟨la, hla⟩ : ∃ z, z = n + 1 := ⟨_, rfl⟩
  have HLEN := Aside0.mk (show (roundKeys key).length = N2 by rw [hks, hN2])
  have HK16 := Aside0.mk (fun r (h : r < N2) => hk16 r (by rw [← hN2]; exact h))
  have HNN := Aside0.mk (rowN n la N2 hN2 hla hn)
  have HLA := Aside0.mk (And.intro hN2 (And.intro hla hn))
  generalize roundKeys key = ks at *
  clear hC hcl hks hk16 hr hN2 hla hn
  go_enter Try.func34, Try.ntmps34
  go_upto_region 4 with (first
    | (go_at_call 19; go_loud ((refine (CE.out _ (Kd.C_below HC.out HB.out)).mono ?_); rintro e wr ⟨v, rfl, hb1, A1, c1, rfl, hc1, hF⟩; rw [HLEN.out]; obtain ⟨N0, hF0, hlt⟩ : ∃ N0, FR wr N0 A1 ks ∧ w.heap.size + 1 < N0 := ⟨_, hF, M2.out.lt⟩; have M1 := Aside0.mk (Mem.below M1.out hb1); have M2 := Aside0.mk (Mem.below M2.out hb1); have HB := Aside0.mk (below_step HB.out hb1); have HF := Aside0.mk hF0; clear hb1 hF hc1 hF0)))
  have hq1 := HNN.out.1
  have hq2 := HNN.out.2.2.1
  have hq3 := HNN.out.2.2.2.1
  have hq4 := HNN.out.2.2.2.2.1
  have hq5 := HNN.out.2.2.2.2.2
  have hq6 : 0 < N2 := by rw [HLA.out.1]; exact Nat.succ_pos _
  obtain ⟨ad, kA, d, rfl, hxk, hd16, hck⟩ := refHead HF.out 0 (by rw [HLEN.out]; exact (show 0 < N2 by rw [HLA.out.1]; exact Nat.succ_pos _)) (HK16.out 0 (show 0 < N2 by rw [HLA.out.1]; exact Nat.succ_pos _))
  have HKL := Aside0.mk (HK16.out 0 (show 0 < N2 by rw [HLA.out.1]; exact Nat.succ_pos _))
  obtain ⟨kr, ekr⟩ : ∃ z, z = keyAt ks 0 := ⟨_, rfl⟩
  rw [← ekr] at hck HKL
  have HXK := Aside0.mk (show World.cell? _ ad = some (.slice kA 16 d) from by have h := hxk; rwa [show ad.add 0 = ad by simp [Addr.add]] at h)
  have HCK := Aside0.mk hck
  have HKD := Aside0.mk hd16
  clear hxk hck hd16
  obtain ⟨x0, e0⟩ : ∃ z, z = b := ⟨_, rfl⟩
  have l0 : x0.length = 16 := by rw [e0]; exact hb
  obtain ⟨x1, e1⟩ : ∃ z, z = xorL x0 kr := ⟨_, rfl⟩
  have l1 : x1.length = 16 := by rw [e1, xorL_length, l0]
  have CD0 := Aside0.mk (fun (W : World) (h : Kd.C (Kd.int .u8) W kA 16 (ib kr)) => show Calls Try.prog 36 #[.agg (cellsOf .u8 (ib x0)), .slice kA 16 d] W fun e w' => e = .returned (.agg (cellsOf .u8 (ib x1))) ∧ Below W.heap.size W w' from by rw [e1]; exact raddL_c x0 kr l0 HKL.out kA d W h HKD.out)
  have HE := Aside0.mk (show x1 = encTo ks b 0 by rw [e1, e0, ekr] <;> rfl)
  have L0 := Aside0.mk (show (ib x0).length = 16 by rw [ib_length, l0])
  have LX := Aside0.mk (show (ib x1).length = 16 by rw [ib_length, l1])
  rw [← e0] at M1
  have HBR := Aside0.mk (Below.refl (World.heap wr).size wr)
  clear e0 l0 e1 l1 ekr
  have hl0 := mem_loads16 (Mem.drew M1.out) L0.out
  have hl1 := pw_cell_below (below_drew HBR.out) HXK.out
  refine start_ (n := 6) (S := fun w' => (loadVar 31 ⟨w.heap.size, 0, none⟩).run Try.prog w' = .ok (.agg (cellsOf .u8 (ib x0))) w' ∧ w'.cell? ad = some (.slice kA 16 d)) (ds := [5]) #[false, false, false, false, false, false] (by kernel_rfl) rfl rfl ⟨hl0, hl1⟩ (fun hHeld => ?_)
  refine pure_ (i := 1) (N := some 17) (v := ?_) (a' := ?_) #[false, true, false, false, false, false] rfl rfl (by kernel_rfl) (fun _ _ _ h => h) (Or.inl ⟨by rfl, ?_⟩) ?_ ?_
  rotate_left
  · intro w'
    go_simp
    with_reducible rfl
  rotate_left
  · simp only [Act.put, List.setIfInBounds_toArray, List.set_cons_zero, List.set_cons_succ, i64_w, i32_w]
    rfl
  refine pure_ (i := 2) (N := some 18) (v := ?_) (a' := ?_) #[false, true, true, false, false, false] rfl rfl (by kernel_rfl) (fun _ _ _ h => h) (Or.inl ⟨by rfl, ?_⟩) ?_ ?_
  rotate_left
  · intro w'
    go_simp
    with_reducible rfl
  rotate_left
  · simp only [Act.put, List.setIfInBounds_toArray, List.set_cons_zero, List.set_cons_succ, i64_w, i32_w]
    rfl
  refine take_ (i := 0) (N := some 16) (v := ?_) (a' := ?_) #[true, true, true, false, false, false] rfl rfl (by kernel_rfl) (fun _ _ _ h => h) (Or.inl ⟨by rfl, ?_⟩) hHeld ?_ ?_
  rotate_left
  · rintro w' ⟨s0, s1⟩
    refine (load_yields rfl rfl s0).trans ?_
    with_reducible rfl
  rotate_left
  · simp only [Act.put, List.setIfInBounds_toArray, List.set_cons_zero, List.set_cons_succ, i64_w, i32_w]
    rfl
  refine take_ (i := 3) (N := some 19) (v := ?_) (a' := ?_) #[true, true, true, true, false, false] rfl rfl (by kernel_rfl) (fun _ _ _ h => h) (Or.inl ⟨by rfl, ?_⟩) hHeld ?_ ?_
  rotate_left
  · rintro w' ⟨s0, s1⟩
    go_simp
    with_reducible rfl
  rotate_left
  · simp only [Act.put, List.setIfInBounds_toArray, List.set_cons_zero, List.set_cons_succ, i64_w, i32_w]
    rfl
  refine one_ (i := 4) (N := some 20) #[true, true, true, true, true, false] rfl rfl (by kernel_rfl) (by decide) (fun K hK => ?_)
  refine goes_ Try.func36 (by kernel_rfl) rfl #[.agg (cellsOf .u8 (ib x0)), .slice kA 16 d] (by rfl) rfl rfl (by simp only [List.map_toArray, List.map_cons, List.map_nil]; rfl) ?_
  have M1 := Aside0.mk (Mem.drew M1.out)
  have M2 := Aside0.mk (Mem.drew M2.out)
  have HF := Aside0.mk (HF.out.below (below_drew (Below.refl _ _)))
  have HB := Aside0.mk (below_drew HB.out)
  have HBR := Aside0.mk (below_drew HBR.out)
  with_reducible refine (CD0.out _ (Kd.C_below HCK.out HBR.out)).mono ?_
  rintro e w20 ⟨rfl, hb20⟩
  refine ⟨_, rfl, ?_⟩
  have M1 := Aside0.mk (Mem.below M1.out hb20)
  have M2 := Aside0.mk (Mem.below M2.out hb20)
  have HF := Aside0.mk (HF.out.below hb20)
  have HB := Aside0.mk (below_step HB.out hb20)
  have HBR := Aside0.mk (below_step HBR.out hb20)
  clear hb20
  refine hK.out _ _ ⟨(mem_loads16 M1.out L0.out), (pw_cell_below HBR.out HXK.out)⟩ (fun hHeld => ?_)
  clear hK K
  refine norm_ (a' := ?_) ?_ ?_
  rotate_left
  · show Act.put _ (some 20) _ = _
    simp only [Act.put, List.setIfInBounds_toArray, List.set_cons_zero, List.set_cons_succ, i64_w, i32_w]
    rfl
  refine last_ (i := 5) (N := none) #[true, true, true, true, true, true] rfl rfl (by kernel_rfl) (by decide) (fun K hK => ?_)
  refine skip_ (w1 := ?_) (by rfl) rfl ?_ ?_
  rotate_left
  · refine store16_yields (l2 := ib x1) (x := .tmp 3) (y := .tmp 20) M1.out L0.out LX.out ?_ ?_ ?_ <;> rfl
  have M2 := Aside0.mk (Mem.row M2.out (g' := w.heap.size) (by omega) (cellsOf .u8 (ib x1)))
  have HF := Aside0.mk (FR.row HF.out (g := w.heap.size) (by omega) (cellsOf .u8 (ib x1)))
  have HB := Aside0.mk (below_setRow HB.out (by omega : w.heap.size ≤ w.heap.size) (cellsOf .u8 (ib x1)))
  have M1 := Aside0.mk (Mem.put M1.out (ib x1))
  refine hK.out _ _ ?_
  clear hK K
  refine done_ (by kernel_rfl) ?_
  have M1 := Aside0.mk (show Mem .u8 _ w.heap.size 31 (ib (encTo ks b 0)) by rw [← HE.out]; exact M1.out)
  clear hl0 hl1 HXK HCK HKD HKL HE HBR L0 LX CD0
  go_wp2
  go_loopg [7] n (fun kq iv w' => ∃ r : Nat, r + kq = n ∧ iv = .int .i64 ((r + 1 : Nat) : Int) ∧ Aside0 (Mem .u8 w' w.heap.size 31 (ib (encTo ks b r))) ∧ Aside0 (Mem .u8 w' (w.heap.size + 1) 31 z16) ∧ Aside0 (FR w' N0 (some ad) ks) ∧ Aside0 (Below w.heap.size w w'))
  case atStart => exact ⟨0, by omega, rfl, M1, M2, HF, HB⟩
  case round =>
    clear M1 M2 HF HB
    obtain ⟨r, hr, rfl, M1, M2, HF, HB⟩ := hrel
    obtain ⟨r1, hr1⟩ : ∃ z, z = r + 1 := ⟨_, rfl⟩
    rw [← hr1]
    cases gk with
    | zero =>
      obtain rfl : r = n := by omega
      obtain rfl : r1 = la := by rw [hr1, HLA.out.2.1]
      have hnl : ¬ (r1 : Int) < (r1 : Int) := Int.lt_irrefl _
      clear hr
      have HR1 := Aside0.mk hr1
      clear hr1
      obtain ⟨ad', kA, d, ead, hxk, hd16, hck⟩ := refHead HF.out r1 (by rw [HLEN.out]; exact (show r1 < N2 by rw [HLA.out.1, HR1.out]; exact Nat.lt_succ_self _)) (HK16.out r1 (show r1 < N2 by rw [HLA.out.1, HR1.out]; exact Nat.lt_succ_self _))
      obtain rfl := Option.some.inj ead
      have HKL := Aside0.mk (HK16.out r1 (show r1 < N2 by rw [HLA.out.1, HR1.out]; exact Nat.lt_succ_self _))
      obtain ⟨kr, ekr⟩ : ∃ z, z = keyAt ks r1 := ⟨_, rfl⟩
      rw [← ekr] at hck HKL
      have HXK := Aside0.mk (show World.cell? _ (ad.add r1) = some (.slice kA 16 d) from hxk)
      have HCK := Aside0.mk hck
      have HKD := Aside0.mk hd16
      clear hxk hck hd16 ead
      obtain ⟨x0, e0⟩ : ∃ z, z = encTo ks b r := ⟨_, rfl⟩
      have l0 : x0.length = 16 := by rw [e0]; exact encTo_length ks b hb r
      obtain ⟨x1, e1⟩ : ∃ z, z = x0.map subB := ⟨_, rfl⟩
      have l1 : x1.length = 16 := by rw [e1, List.length_map, l0]
      have CD0 := Aside0.mk (fun (W : World) => show Calls Try.prog 77 #[.agg (cellsOf .u8 (ib x0))] W fun e w' => e = .returned (.agg (cellsOf .u8 (ib x1))) ∧ Below W.heap.size W w' from by rw [e1]; exact rsubL_c x0 l0 W)
      obtain ⟨x2, e2⟩ : ∃ z, z = rowsB x1 := ⟨_, rfl⟩
      have l2 : x2.length = 16 := by rw [e2]; exact rowsB_length _
      have CD1 := Aside0.mk (fun (W : World) => show Calls Try.prog 23 #[.agg (cellsOf .u8 (ib x1))] W fun e w' => e = .returned (.agg (cellsOf .u8 (ib x2))) ∧ Below W.heap.size W w' from by rw [e2]; exact (rrowsB_c x1 l1).q W)
      obtain ⟨x3, e3⟩ : ∃ z, z = xorL x2 kr := ⟨_, rfl⟩
      have l3 : x3.length = 16 := by rw [e3, xorL_length, l2]
      have CD2 := Aside0.mk (fun (W : World) (h : Kd.C (Kd.int .u8) W kA 16 (ib kr)) => show Calls Try.prog 36 #[.agg (cellsOf .u8 (ib x2)), .slice kA 16 d] W fun e w' => e = .returned (.agg (cellsOf .u8 (ib x3))) ∧ Below W.heap.size W w' from by rw [e3]; exact raddL_c x2 kr l2 HKL.out kA d W h HKD.out)
      have HE := Aside0.mk (show x3 = xorL (rowsB ((encTo ks b r).map subB)) (keyAt ks r1) by rw [e3, e2, e1, e0, ekr] <;> rfl)
      have L0 := Aside0.mk (show (ib x0).length = 16 by rw [ib_length, l0])
      have LX := Aside0.mk (show (ib x3).length = 16 by rw [ib_length, l3])
      rw [← e0] at M1
      have HBR := Aside0.mk (Below.refl (World.heap wr).size wr)
      clear e0 l0 e1 l1 e2 l2 e3 l3 ekr
      have hl0 := mem_loads16 (Mem.drew M1.out) L0.out
      have hl1 := pw_cell_below (below_drew HBR.out) HXK.out
      have HV := Aside0.mk (show (Ending.returned (.agg (cellsOf .u8 (ib x3)))) = .returned (.agg (cellsOf .u8 (ib (encB ks r b)))) by rw [HE.out, HR1.out]; rfl)
      go_wp2
      refine start_ (n := 11) (S := fun w' => (loadVar 31 ⟨w.heap.size, 0, none⟩).run Try.prog w' = .ok (.agg (cellsOf .u8 (ib x0))) w' ∧ w'.cell? (ad.add r1) = some (.slice kA 16 d)) (ds := [10]) #[false, false, false, false, false, false, false, false, false, false, false] (by kernel_rfl) rfl rfl ⟨hl0, hl1⟩ (fun hHeld => ?_)
      refine pure_ (i := 3) (N := some 40) (v := ?_) (a' := ?_) #[false, false, false, true, false, false, false, false, false, false, false] rfl rfl (by kernel_rfl) (fun _ _ _ h => h) (Or.inl ⟨by rfl, ?_⟩) ?_ ?_
      rotate_left
      · intro w'
        go_simp
        with_reducible rfl
      rotate_left
      · simp only [Act.put, List.setIfInBounds_toArray, List.set_cons_zero, List.set_cons_succ, i64_w, i32_w]
        rfl
      refine pure_ (i := 4) (N := some 41) (v := ?_) (a' := ?_) #[false, false, false, true, true, false, false, false, false, false, false] rfl rfl (by kernel_rfl) (fun _ _ _ h => h) (Or.inl ⟨by rfl, ?_⟩) ?_ ?_
      rotate_left
      · intro w'
        go_simp
        with_reducible rfl
      rotate_left
      · simp only [Act.put, List.setIfInBounds_toArray, List.set_cons_zero, List.set_cons_succ, i64_w, i32_w]
        rfl
      refine pure_ (i := 5) (N := some 42) (v := ?_) (a' := ?_) #[false, false, false, true, true, true, false, false, false, false, false] rfl rfl (by kernel_rfl) (fun _ _ _ h => h) (Or.inl ⟨by rfl, ?_⟩) ?_ ?_
      rotate_left
      · intro w'
        go_simp
        with_reducible rfl
      rotate_left
      · simp only [Act.put, List.setIfInBounds_toArray, List.set_cons_zero, List.set_cons_succ, i64_w, i32_w]
        rfl
      refine pure_ (i := 6) (N := some 43) (v := ?_) (a' := ?_) #[false, false, false, true, true, true, true, false, false, false, false] rfl rfl (by kernel_rfl) (fun _ _ _ h => h) (Or.inl ⟨by rfl, ?_⟩) ?_ ?_
      rotate_left
      · intro w'
        go_simp
        with_reducible rfl
      rotate_left
      · simp only [Act.put, List.setIfInBounds_toArray, List.set_cons_zero, List.set_cons_succ, i64_w, i32_w]
        rfl
      refine pure_ (i := 7) (N := some 44) (v := ?_) (a' := ?_) #[false, false, false, true, true, true, true, true, false, false, false] rfl rfl (by kernel_rfl) (fun _ _ _ h => h) (Or.inl ⟨by rfl, ?_⟩) ?_ ?_
      rotate_left
      · intro w'
        go_simp
        with_reducible rfl
      rotate_left
      · simp only [Act.put, List.setIfInBounds_toArray, List.set_cons_zero, List.set_cons_succ, i64_w, i32_w]
        rfl
      refine take_ (i := 0) (N := some 37) (v := ?_) (a' := ?_) #[true, false, false, true, true, true, true, true, false, false, false] rfl rfl (by kernel_rfl) (fun _ _ _ h => h) (Or.inl ⟨by rfl, ?_⟩) hHeld ?_ ?_
      rotate_left
      · rintro w' ⟨s0, s1⟩
        refine (load_yields rfl rfl s0).trans ?_
        with_reducible rfl
      rotate_left
      · simp only [Act.put, List.setIfInBounds_toArray, List.set_cons_zero, List.set_cons_succ, i64_w, i32_w]
        rfl
      refine take_ (i := 8) (N := some 45) (v := ?_) (a' := ?_) #[true, false, false, true, true, true, true, true, true, false, false] rfl rfl (by kernel_rfl) (fun _ _ _ h => h) (Or.inl ⟨by rfl, ?_⟩) hHeld ?_ ?_
      rotate_left
      · rintro w' ⟨s0, s1⟩
        go_simp
        with_reducible rfl
      rotate_left
      · simp only [Act.put, List.setIfInBounds_toArray, List.set_cons_zero, List.set_cons_succ, i64_w, i32_w]
        rfl
      refine one_ (i := 1) (N := some 38) #[true, true, false, true, true, true, true, true, true, false, false] rfl rfl (by kernel_rfl) (by decide) (fun K hK => ?_)
      refine goes_ Try.func77 (by kernel_rfl) rfl #[.agg (cellsOf .u8 (ib x0))] (by rfl) rfl rfl (by simp only [List.map_toArray, List.map_cons, List.map_nil]; rfl) ?_
      have M1 := Aside0.mk (Mem.drew M1.out)
      have M2 := Aside0.mk (Mem.drew M2.out)
      have HF := Aside0.mk (HF.out.below (below_drew (Below.refl _ _)))
      have HB := Aside0.mk (below_drew HB.out)
      have HBR := Aside0.mk (below_drew HBR.out)
      with_reducible refine (CD0.out _).mono ?_
      rintro e w20 ⟨rfl, hb20⟩
      refine ⟨_, rfl, ?_⟩
      have M1 := Aside0.mk (Mem.below M1.out hb20)
      have M2 := Aside0.mk (Mem.below M2.out hb20)
      have HF := Aside0.mk (HF.out.below hb20)
      have HB := Aside0.mk (below_step HB.out hb20)
      have HBR := Aside0.mk (below_step HBR.out hb20)
      clear hb20
      refine hK.out _ _ ⟨(mem_loads16 M1.out L0.out), (pw_cell_below HBR.out HXK.out)⟩ (fun hHeld => ?_)
      clear hK K
      refine norm_ (a' := ?_) ?_ ?_
      rotate_left
      · show Act.put _ (some 38) _ = _
        simp only [Act.put, List.setIfInBounds_toArray, List.set_cons_zero, List.set_cons_succ, i64_w, i32_w]
        rfl
      refine one_ (i := 2) (N := some 39) #[true, true, true, true, true, true, true, true, true, false, false] rfl rfl (by kernel_rfl) (by decide) (fun K hK => ?_)
      refine goes_ Try.func23 (by kernel_rfl) rfl #[.agg (cellsOf .u8 (ib x1))] (by rfl) rfl rfl (by simp only [List.map_toArray, List.map_cons, List.map_nil]; rfl) ?_
      with_reducible refine (CD1.out _).mono ?_
      rintro e w21 ⟨rfl, hb21⟩
      refine ⟨_, rfl, ?_⟩
      have M1 := Aside0.mk (Mem.below M1.out hb21)
      have M2 := Aside0.mk (Mem.below M2.out hb21)
      have HF := Aside0.mk (HF.out.below hb21)
      have HB := Aside0.mk (below_step HB.out hb21)
      have HBR := Aside0.mk (below_step HBR.out hb21)
      clear hb21
      refine hK.out _ _ ⟨(mem_loads16 M1.out L0.out), (pw_cell_below HBR.out HXK.out)⟩ (fun hHeld => ?_)
      clear hK K
      refine norm_ (a' := ?_) ?_ ?_
      rotate_left
      · show Act.put _ (some 39) _ = _
        simp only [Act.put, List.setIfInBounds_toArray, List.set_cons_zero, List.set_cons_succ, i64_w, i32_w]
        rfl
      refine one_ (i := 9) (N := some 46) #[true, true, true, true, true, true, true, true, true, true, false] rfl rfl (by kernel_rfl) (by decide) (fun K hK => ?_)
      refine goes_ Try.func36 (by kernel_rfl) rfl #[.agg (cellsOf .u8 (ib x2)), .slice kA 16 d] (by rfl) rfl rfl (by simp only [List.map_toArray, List.map_cons, List.map_nil]; rfl) ?_
      with_reducible refine (CD2.out _ (Kd.C_below HCK.out HBR.out)).mono ?_
      rintro e w22 ⟨rfl, hb22⟩
      refine ⟨_, rfl, ?_⟩
      have M1 := Aside0.mk (Mem.below M1.out hb22)
      have M2 := Aside0.mk (Mem.below M2.out hb22)
      have HF := Aside0.mk (HF.out.below hb22)
      have HB := Aside0.mk (below_step HB.out hb22)
      have HBR := Aside0.mk (below_step HBR.out hb22)
      clear hb22
      refine hK.out _ _ ⟨(mem_loads16 M1.out L0.out), (pw_cell_below HBR.out HXK.out)⟩ (fun hHeld => ?_)
      clear hK K
      refine norm_ (a' := ?_) ?_ ?_
      rotate_left
      · show Act.put _ (some 46) _ = _
        simp only [Act.put, List.setIfInBounds_toArray, List.set_cons_zero, List.set_cons_succ, i64_w, i32_w]
        rfl
      refine last_ (i := 10) (N := none) #[true, true, true, true, true, true, true, true, true, true, true] rfl rfl (by kernel_rfl) (by decide) (fun K hK => ?_)
      refine skip_ (w1 := ?_) (by rfl) rfl ?_ ?_
      rotate_left
      · refine store16_yields (l2 := ib x3) (x := .tmp 4) (y := .tmp 46) M2.out rfl LX.out ?_ ?_ ?_ <;> rfl
      have M1 := Aside0.mk (Mem.row M1.out (g' := (w.heap.size + 1)) (by omega) (cellsOf .u8 (ib x3)))
      have HF := Aside0.mk (FR.row HF.out (g := (w.heap.size + 1)) (by omega) (cellsOf .u8 (ib x3)))
      have HB := Aside0.mk (below_setRow HB.out (by omega : w.heap.size ≤ (w.heap.size + 1)) (cellsOf .u8 (ib x3)))
      have M2 := Aside0.mk (Mem.put M2.out (ib x3))
      refine hK.out _ _ ?_
      clear hK K
      refine done_ (by kernel_rfl) ?_
      go_wp2
      refine bodyPost_ret (v := .agg (cellsOf .u8 (ib x3))) (results_cell_row rfl _ _ _ _ _ _ _ rfl M2.out Try.underlying31 rfl (by rw [cellsOf_size, LX.out]; exact info16)) rfl ⟨HV.out, HB.out⟩
    | succ k1 =>
      have HJ := Aside0.mk (show r1 + k1 = n by omega)
      have HR1 := Aside0.mk hr1
      have hlt1 : (r1 : Int) < (la : Int) := by have h1 := HLA.out.2.1; omega
      have HN2 := Aside0.mk (show r1 < N2 by have h1 := HLA.out.1; omega)
      have e9 := add64 r1 (by have h1 := HLA.out.2.2; omega)
      clear hr hr1
      obtain ⟨ad', kA, d, ead, hxk, hd16, hck⟩ := refHead HF.out r1 (by rw [HLEN.out]; exact HN2.out) (HK16.out r1 HN2.out)
      obtain rfl := Option.some.inj ead
      have HKL := Aside0.mk (HK16.out r1 HN2.out)
      obtain ⟨kr, ekr⟩ : ∃ z, z = keyAt ks r1 := ⟨_, rfl⟩
      rw [← ekr] at hck HKL
      have HXK := Aside0.mk (show World.cell? _ (ad.add r1) = some (.slice kA 16 d) from hxk)
      have HCK := Aside0.mk hck
      have HKD := Aside0.mk hd16
      clear hxk hck hd16 ead
      obtain ⟨x0, e0⟩ : ∃ z, z = encTo ks b r := ⟨_, rfl⟩
      have l0 : x0.length = 16 := by rw [e0]; exact encTo_length ks b hb r
      obtain ⟨x1, e1⟩ : ∃ z, z = x0.map subB := ⟨_, rfl⟩
      have l1 : x1.length = 16 := by rw [e1, List.length_map, l0]
      have CD0 := Aside0.mk (fun (W : World) => show Calls Try.prog 77 #[.agg (cellsOf .u8 (ib x0))] W fun e w' => e = .returned (.agg (cellsOf .u8 (ib x1))) ∧ Below W.heap.size W w' from by rw [e1]; exact rsubL_c x0 l0 W)
      obtain ⟨x2, e2⟩ : ∃ z, z = rowsB x1 := ⟨_, rfl⟩
      have l2 : x2.length = 16 := by rw [e2]; exact rowsB_length _
      have CD1 := Aside0.mk (fun (W : World) => show Calls Try.prog 23 #[.agg (cellsOf .u8 (ib x1))] W fun e w' => e = .returned (.agg (cellsOf .u8 (ib x2))) ∧ Below W.heap.size W w' from by rw [e2]; exact (rrowsB_c x1 l1).q W)
      obtain ⟨x3, e3⟩ : ∃ z, z = colsB x2 := ⟨_, rfl⟩
      have l3 : x3.length = 16 := by rw [e3]; exact colsB_length _
      have CD2 := Aside0.mk (fun (W : World) => show Calls Try.prog 25 #[.agg (cellsOf .u8 (ib x2))] W fun e w' => e = .returned (.agg (cellsOf .u8 (ib x3))) ∧ Below W.heap.size W w' from by rw [e3]; exact rcols_c x2 l2 W)
      obtain ⟨x4, e4⟩ : ∃ z, z = xorL x3 kr := ⟨_, rfl⟩
      have l4 : x4.length = 16 := by rw [e4, xorL_length, l3]
      have CD3 := Aside0.mk (fun (W : World) (h : Kd.C (Kd.int .u8) W kA 16 (ib kr)) => show Calls Try.prog 36 #[.agg (cellsOf .u8 (ib x3)), .slice kA 16 d] W fun e w' => e = .returned (.agg (cellsOf .u8 (ib x4))) ∧ Below W.heap.size W w' from by rw [e4]; exact raddL_c x3 kr l3 HKL.out kA d W h HKD.out)
      have HE := Aside0.mk (show x4 = xorL (colsB (rowsB ((encTo ks b r).map subB))) (keyAt ks r1) by rw [e4, e3, e2, e1, e0, ekr] <;> rfl)
      have L0 := Aside0.mk (show (ib x0).length = 16 by rw [ib_length, l0])
      have LX := Aside0.mk (show (ib x4).length = 16 by rw [ib_length, l4])
      rw [← e0] at M1
      have HBR := Aside0.mk (Below.refl (World.heap wr).size wr)
      clear e0 l0 e1 l1 e2 l2 e3 l3 e4 l4 ekr
      have hl0 := mem_loads16 (Mem.drew M1.out) L0.out
      have hl1 := pw_cell_below (below_drew HBR.out) HXK.out
      have HX4 := Aside0.mk (show encTo ks b r1 = x4 by rw [HE.out, HR1.out]; rfl)
      have hi0 : (0 : Int) ≤ (r1 : Int) := Int.natCast_nonneg _
      have hi1 : (r1 : Int) < (N2 : Int) := Int.ofNat_lt.2 HN2.out
      go_wp2
      refine start_ (n := 10) (S := fun w' => (loadVar 31 ⟨w.heap.size, 0, none⟩).run Try.prog w' = .ok (.agg (cellsOf .u8 (ib x0))) w' ∧ w'.cell? (ad.add r1) = some (.slice kA 16 d)) (ds := [9]) #[false, false, false, false, false, false, false, false, false, false] (by kernel_rfl) rfl rfl ⟨hl0, hl1⟩ (fun hHeld => ?_)
      refine pure_ (i := 4) (N := some 32) (v := ?_) (a' := ?_) #[false, false, false, false, true, false, false, false, false, false] rfl rfl (by kernel_rfl) (fun _ _ _ h => h) (Or.inl ⟨by rfl, ?_⟩) ?_ ?_
      rotate_left
      · intro w'
        go_simp
        with_reducible rfl
      rotate_left
      · simp only [Act.put, List.setIfInBounds_toArray, List.set_cons_zero, List.set_cons_succ, i64_w, i32_w]
        rfl
      refine pure_ (i := 5) (N := some 33) (v := ?_) (a' := ?_) #[false, false, false, false, true, true, false, false, false, false] rfl rfl (by kernel_rfl) (fun _ _ _ h => h) (Or.inl ⟨by rfl, ?_⟩) ?_ ?_
      rotate_left
      · intro w'
        go_simp
        with_reducible rfl
      rotate_left
      · simp only [Act.put, List.setIfInBounds_toArray, List.set_cons_zero, List.set_cons_succ, i64_w, i32_w]
        rfl
      refine pure_ (i := 6) (N := some 34) (v := ?_) (a' := ?_) #[false, false, false, false, true, true, true, false, false, false] rfl rfl (by kernel_rfl) (fun _ _ _ h => h) (Or.inl ⟨by rfl, ?_⟩) ?_ ?_
      rotate_left
      · intro w'
        go_simp
        with_reducible rfl
      rotate_left
      · simp only [Act.put, List.setIfInBounds_toArray, List.set_cons_zero, List.set_cons_succ, i64_w, i32_w]
        rfl
      refine take_ (i := 0) (N := some 28) (v := ?_) (a' := ?_) #[true, false, false, false, true, true, true, false, false, false] rfl rfl (by kernel_rfl) (fun _ _ _ h => h) (Or.inl ⟨by rfl, ?_⟩) hHeld ?_ ?_
      rotate_left
      · rintro w' ⟨s0, s1⟩
        refine (load_yields rfl rfl s0).trans ?_
        with_reducible rfl
      rotate_left
      · simp only [Act.put, List.setIfInBounds_toArray, List.set_cons_zero, List.set_cons_succ, i64_w, i32_w]
        rfl
      refine take_ (i := 7) (N := some 35) (v := ?_) (a' := ?_) #[true, false, false, false, true, true, true, true, false, false] rfl rfl (by kernel_rfl) (fun _ _ _ h => h) (Or.inl ⟨by rfl, ?_⟩) hHeld ?_ ?_
      rotate_left
      · rintro w' ⟨s0, s1⟩
        go_simp
        with_reducible rfl
      rotate_left
      · simp only [Act.put, List.setIfInBounds_toArray, List.set_cons_zero, List.set_cons_succ, i64_w, i32_w]
        rfl
      refine one_ (i := 1) (N := some 29) #[true, true, false, false, true, true, true, true, false, false] rfl rfl (by kernel_rfl) (by decide) (fun K hK => ?_)
      refine goes_ Try.func77 (by kernel_rfl) rfl #[.agg (cellsOf .u8 (ib x0))] (by rfl) rfl rfl (by simp only [List.map_toArray, List.map_cons, List.map_nil]; rfl) ?_
      have M1 := Aside0.mk (Mem.drew M1.out)
      have M2 := Aside0.mk (Mem.drew M2.out)
      have HF := Aside0.mk (HF.out.below (below_drew (Below.refl _ _)))
      have HB := Aside0.mk (below_drew HB.out)
      have HBR := Aside0.mk (below_drew HBR.out)
      with_reducible refine (CD0.out _).mono ?_
      rintro e w20 ⟨rfl, hb20⟩
      refine ⟨_, rfl, ?_⟩
      have M1 := Aside0.mk (Mem.below M1.out hb20)
      have M2 := Aside0.mk (Mem.below M2.out hb20)
      have HF := Aside0.mk (HF.out.below hb20)
      have HB := Aside0.mk (below_step HB.out hb20)
      have HBR := Aside0.mk (below_step HBR.out hb20)
      clear hb20
      refine hK.out _ _ ⟨(mem_loads16 M1.out L0.out), (pw_cell_below HBR.out HXK.out)⟩ (fun hHeld => ?_)
      clear hK K
      refine norm_ (a' := ?_) ?_ ?_
      rotate_left
      · show Act.put _ (some 29) _ = _
        simp only [Act.put, List.setIfInBounds_toArray, List.set_cons_zero, List.set_cons_succ, i64_w, i32_w]
        rfl
      refine one_ (i := 2) (N := some 30) #[true, true, true, false, true, true, true, true, false, false] rfl rfl (by kernel_rfl) (by decide) (fun K hK => ?_)
      refine goes_ Try.func23 (by kernel_rfl) rfl #[.agg (cellsOf .u8 (ib x1))] (by rfl) rfl rfl (by simp only [List.map_toArray, List.map_cons, List.map_nil]; rfl) ?_
      with_reducible refine (CD1.out _).mono ?_
      rintro e w21 ⟨rfl, hb21⟩
      refine ⟨_, rfl, ?_⟩
      have M1 := Aside0.mk (Mem.below M1.out hb21)
      have M2 := Aside0.mk (Mem.below M2.out hb21)
      have HF := Aside0.mk (HF.out.below hb21)
      have HB := Aside0.mk (below_step HB.out hb21)
      have HBR := Aside0.mk (below_step HBR.out hb21)
      clear hb21
      refine hK.out _ _ ⟨(mem_loads16 M1.out L0.out), (pw_cell_below HBR.out HXK.out)⟩ (fun hHeld => ?_)
      clear hK K
      refine norm_ (a' := ?_) ?_ ?_
      rotate_left
      · show Act.put _ (some 30) _ = _
        simp only [Act.put, List.setIfInBounds_toArray, List.set_cons_zero, List.set_cons_succ, i64_w, i32_w]
        rfl
      refine one_ (i := 3) (N := some 31) #[true, true, true, true, true, true, true, true, false, false] rfl rfl (by kernel_rfl) (by decide) (fun K hK => ?_)
      refine goes_ Try.func25 (by kernel_rfl) rfl #[.agg (cellsOf .u8 (ib x2))] (by rfl) rfl rfl (by simp only [List.map_toArray, List.map_cons, List.map_nil]; rfl) ?_
      with_reducible refine (CD2.out _).mono ?_
      rintro e w22 ⟨rfl, hb22⟩
      refine ⟨_, rfl, ?_⟩
      have M1 := Aside0.mk (Mem.below M1.out hb22)
      have M2 := Aside0.mk (Mem.below M2.out hb22)
      have HF := Aside0.mk (HF.out.below hb22)
      have HB := Aside0.mk (below_step HB.out hb22)
      have HBR := Aside0.mk (below_step HBR.out hb22)
      clear hb22
      refine hK.out _ _ ⟨(mem_loads16 M1.out L0.out), (pw_cell_below HBR.out HXK.out)⟩ (fun hHeld => ?_)
      clear hK K
      refine norm_ (a' := ?_) ?_ ?_
      rotate_left
      · show Act.put _ (some 31) _ = _
        simp only [Act.put, List.setIfInBounds_toArray, List.set_cons_zero, List.set_cons_succ, i64_w, i32_w]
        rfl
      refine one_ (i := 8) (N := some 36) #[true, true, true, true, true, true, true, true, true, false] rfl rfl (by kernel_rfl) (by decide) (fun K hK => ?_)
      refine goes_ Try.func36 (by kernel_rfl) rfl #[.agg (cellsOf .u8 (ib x3)), .slice kA 16 d] (by rfl) rfl rfl (by simp only [List.map_toArray, List.map_cons, List.map_nil]; rfl) ?_
      with_reducible refine (CD3.out _ (Kd.C_below HCK.out HBR.out)).mono ?_
      rintro e w23 ⟨rfl, hb23⟩
      refine ⟨_, rfl, ?_⟩
      have M1 := Aside0.mk (Mem.below M1.out hb23)
      have M2 := Aside0.mk (Mem.below M2.out hb23)
      have HF := Aside0.mk (HF.out.below hb23)
      have HB := Aside0.mk (below_step HB.out hb23)
      have HBR := Aside0.mk (below_step HBR.out hb23)
      clear hb23
      refine hK.out _ _ ⟨(mem_loads16 M1.out L0.out), (pw_cell_below HBR.out HXK.out)⟩ (fun hHeld => ?_)
      clear hK K
      refine norm_ (a' := ?_) ?_ ?_
      rotate_left
      · show Act.put _ (some 36) _ = _
        simp only [Act.put, List.setIfInBounds_toArray, List.set_cons_zero, List.set_cons_succ, i64_w, i32_w]
        rfl
      refine last_ (i := 9) (N := none) #[true, true, true, true, true, true, true, true, true, true] rfl rfl (by kernel_rfl) (by decide) (fun K hK => ?_)
      refine skip_ (w1 := ?_) (by rfl) rfl ?_ ?_
      rotate_left
      · refine store16_yields (l2 := ib x4) (x := .tmp 3) (y := .tmp 36) M1.out L0.out LX.out ?_ ?_ ?_ <;> rfl
      have M2 := Aside0.mk (Mem.row M2.out (g' := w.heap.size) (by omega) (cellsOf .u8 (ib x4)))
      have HF := Aside0.mk (FR.row HF.out (g := w.heap.size) (by omega) (cellsOf .u8 (ib x4)))
      have HB := Aside0.mk (below_setRow HB.out (by omega : w.heap.size ≤ w.heap.size) (cellsOf .u8 (ib x4)))
      have M1 := Aside0.mk (Mem.put M1.out (ib x4))
      refine hK.out _ _ ?_
      clear hK K
      refine done_ (by kernel_rfl) ?_
      go_wp2
      go_roundg k1
      case measure => omega
      case rel => exact ⟨r1, HJ.out, by first | rfl | rw [e9], ⟨by rw [HX4.out]; exact M1.out⟩, M2, HF, HB⟩
end Go.Proofs.Ytpdikfmdnlhllaa.Aes
