/-
  Merged texts, what is reached of them: AesAwk, KeyAwk, KeyBackM, KeyLaw, KeyRow: walks and plain lemmas; no condition.
-/
import Derived.Test.YtpdikfmdnlhllaaAesKeyAll
import Derived.Test.YtpdikfmdnlhllaaAesKnown
import Derived.Test.YtpdikfmdnlhllaaAesMath
namespace Go.Proofs.Ytpdikfmdnlhllaa.Aes
open Go.RowKit Go.Proofs.Ytpdikfmdnlhllaa.PNib Go.Proofs.YtpdikfmdnlhllaaW.PrintWords Go.Proofs.YtpdikfmdnlhllaaW.PrintLast Go.Proofs.YtpdikfmdnlhllaaW.PrintMore Byte Sl Arr Mem Gives ArrEq Mat AesMath AesMov AesLin HandKit
set_option linter.unusedVariables false
set_option linter.unusedSimpArgs false
theorem mem_C {w : World} {g : Nat} {t : TypeId} {l : List Int} (h : Mem .u8 w g t l) (n : Nat) (hn : n ≤ l.length) (hs : n < 4611686018427387904) : Kd.C (Kd.int .u8) w (some ⟨g, 0, none⟩) n (l.take n) := by
  have hl : (l.take n).length = n := by rw [List.length_take]; omega
  have h1 : Sl .u8 w (.slice (some ⟨g, 0, none⟩) (l.take n).length n) (l.take n) := Sl.of_cells (by omega) (by omega) (fun j x hj => by
    have hj2 : j < n := by
      have := (List.getElem?_eq_some_iff.1 hj).1
      omega
    have := h.cell j (by omega)
    rw [show (⟨g, 0, none⟩ : Addr).add j = ⟨g, j, none⟩ by rw [add_at, Nat.zero_add], this]
    rw [List.getElem?_take_of_lt hj2] at hj
    rw [List.getD_eq_getElem?_getD, hj]
    rfl)
  obtain ⟨A, c, hv, _, hC⟩ := h1
  rw [hl] at hC hv
  injection hv with hA
  rw [hA]
  exact hC
end Go.Proofs.Ytpdikfmdnlhllaa.Aes
namespace Go.Proofs.Ytpdikfmdnlhllaa.Aes
open Go.RowKit Go.Proofs.Ytpdikfmdnlhllaa.PNib Go.Proofs.YtpdikfmdnlhllaaW.PrintWords Go.Proofs.YtpdikfmdnlhllaaW.PrintLast Go.Proofs.YtpdikfmdnlhllaaW.PrintMore Byte Sl Arr Mem Gives ArrEq Mat AesMath AesMov AesLin HandKit
set_option linter.unusedVariables false
set_option linter.unusedSimpArgs false
theorem RK.head {w : World} {b : Nat} {A : Option Addr} {ks : List (List B)} (hF : Kd.F (Kd.slice 5 (Kd.int .u8)) w (fun k => b ≤ k) A ks.length (ks.map ib)) (i : Nat) (hi : i < ks.length) : ∃ ad Ai ci, A = some ad ∧ w.cell? (ad.add i) = some (.slice Ai (keyAt ks i).length ci) ∧ (keyAt ks i).length ≤ ci ∧ Kd.C (Kd.int .u8) w Ai (keyAt ks i).length (ib (keyAt ks i)) := by
  obtain ⟨ad, cs, rfl, hcl, hK, hcc⟩ := Kd.C_get (Kd.F_now hF) [] (i : Int) (by omega) (by omega)
  obtain ⟨Ai, ci, rfl, hli, hCi⟩ := hK
  have e : (ks.map ib).getD (i : Int).toNat [] = ib (keyAt ks i) := by
    unfold keyAt
    rw [Int.toNat_natCast, List.getD_eq_getElem?_getD, List.getD_eq_getElem?_getD, List.getElem?_map, List.getElem?_eq_getElem hi]
    rfl
  rw [e] at hcc hCi hli
  rw [ib_length] at hcc hCi hli
  refine ⟨ad, Ai, ci, rfl, ?_, hli, hCi⟩
  have h0 := hcc 0 _ rfl
  rw [Int.toNat_natCast] at h0
  simpa [Kd.slice] using h0
theorem keyAt_zero1 : keyAt (roundKeys zeroK) 1 = [98#8, 99#8, 99#8, 99#8, 98#8, 99#8, 99#8, 99#8, 98#8, 99#8, 99#8, 99#8, 98#8, 99#8, 99#8, 99#8] := by rw [zeroK_keys]; rfl
theorem rk_zero : (roundKeys zeroK).length = 11 := by rw [roundKeys_length]; decide
theorem ib_zeroK : List.replicate (16 : Int).toNat (0 : Int) = ib zeroK := rfl
set_option maxHeartbeats 4000000 in
set_option maxRecDepth 100000 in
theorem kawake_c : GivesB 20 #[] (.bool true) := by
  intro w
  have HB := Aside0.mk (Below.refl w.heap.size w)
  have CE := Aside0.mk (fun A c hc W (h : Kd.C (Kd.int .u8) W A 16 (ib zeroK)) => show Calls Try.prog 18 #[.slice A 16 c] W fun e w' => ∃ v, e = .returned (.tuple #[v, .int .i64 0]) ∧ Below W.heap.size W w' ∧ RK w' W.heap.size v (roundKeys zeroK) from expand_ok zeroK (by decide) A c hc W h)
  have H1 := Aside0.mk keyAt_zero1
  have H2 := Aside0.mk rk_zero
  have HZ := Aside0.mk ib_zeroK
  have HZL := Aside0.mk (show (ib zeroK).length = 16 from rfl)
  generalize roundKeys zeroK = rk at *
  generalize ib zeroK = zk at *
  go_enter Try.func20, Try.ntmps20
  go_wp2_with (first
    | ((with_reducible refine gate_dst (N := 4) rfl ?_); refine Kd.R_make (Kd.int .u8) w.heap.size 5 rfl (N := 4) rfl 22 _ _ rfl 16 rfl rfl Try.underlying22 (.int .u8 0) 1 info_u8 rfl (by decide) (by omega) 0 (ok := fun _ => True) (okp := fun _ => True) rfl (fun _ hk => hk) trivial (by omega) (by omega) HB.out (Nat.le_refl _) ?_; intro v1 w1 ho hb hg_ hnew_; have HB := Aside0.mk hb; rw [HZ.out] at ho; obtain ⟨A1, c1, rfl, hc1, hC1⟩ := Kd.R_reads ho; rw [HZL.out] at hc1 hC1; have HC1 := Aside0.mk hC1; have Hc1 := Aside0.mk hc1; (try rw [HZL.out]); clear ho hb hg_ hnew_ hc1 hC1)
    | (go_at_call 18; go_loud ((refine (CE.out _ _ Hc1.out _ HC1.out).mono ?_); rintro e w2 ⟨v, rfl, hb, A2, c2, rfl, hc2, hF⟩; have HB := Aside0.mk (below_step HB.out hb); obtain ⟨ad, Ai, ci, rfl, hx1, hci, hCi⟩ := RK.head hF 1 (by rw [H2.out]; decide); rw [H1.out] at hx1 hCi; obtain ⟨ai, rfl, hq0⟩ := Kd.at_int hCi (0 : Int) (by decide) (by decide); obtain ⟨ai2, e1, hq1⟩ := Kd.at_int hCi (1 : Int) (by decide) (by decide); obtain rfl := Option.some.inj e1; obtain ⟨ai3, e3, hq3⟩ := Kd.at_int hCi (3 : Int) (by decide) (by decide); obtain rfl := Option.some.inj e3; have hx1 := show w2.cell? ⟨ad.block, ad.off + 1, none⟩ = some (.slice (some ai) 16 ci) from hx1; have hb0 := show w2.cell? (ai.add 0) = some (.int .u8 98) from hq0; have hb1 := show w2.cell? ⟨ai.block, ai.off + 1, none⟩ = some (.int .u8 99) from hq1; have hb3 := show w2.cell? ⟨ai.block, ai.off + 3, none⟩ = some (.int .u8 99) from hq3; rw [show ai.add 0 = ai by simp [Addr.add]] at hb0; clear hq0 hq1 hq3 e1 e3 hci hCi; (try rw [H2.out]); clear hb hc2 hF)))
  go_ret
  exact ⟨rfl, HB.out⟩
end Go.Proofs.Ytpdikfmdnlhllaa.Aes
namespace Go.Proofs.Ytpdikfmdnlhllaa.AesMath
open Mat GfMath
/-- All of l, the bytes behind j put together with those four ahead. -/
def stepB (l : List B) (j : Nat) : List B := byN 16 fun q => if j < q ∧ 4 ≤ q then l.getD q 0#8 ^^^ l.getD (q - 4) 0#8 else l.getD q 0#8
theorem stepB_length (l : List B) (j : Nat) : (stepB l j).length = 16 := byN_length _ _
theorem stepB_15 (l : List B) (h : l.length = 16) : stepB l 15 = l := by
  unfold stepB
  rw [byN_congr (G := fun q => l.getD q 0#8) (fun q hq => by rw [if_neg (by omega)]), byN_self l 16 h]
theorem stepB_at (l : List B) (j q : Nat) (hq : q < 16) (hj : q ≤ j) : (stepB l j).getD q 0#8 = l.getD q 0#8 := by
  unfold stepB
  rw [byN_get _ _ _ hq, if_neg (by omega)]
theorem stepB_set (l : List B) (j : Nat) (h4 : 4 ≤ j) (hj : j < 16) : (stepB l j).set j ((stepB l j).getD j 0#8 ^^^ (stepB l j).getD (j - 4) 0#8) = stepB l (j - 1) := by
  rw [stepB_at l j j hj (Nat.le_refl _), stepB_at l j (j - 4) (by omega) (by omega)]
  refine getD_ext (by rw [List.length_set, stepB_length, stepB_length]) fun q hq => ?_
  rw [List.length_set, stepB_length] at hq
  rw [List.getD_eq_getElem?_getD, List.getElem?_set, stepB_length]
  by_cases e : j = q
  · subst e
    rw [if_pos rfl, if_pos hj]
    unfold stepB
    rw [byN_get _ _ _ hj, if_pos (by omega)]
    rfl
  · rw [if_neg e, ← List.getD_eq_getElem?_getD]
    unfold stepB
    rw [byN_get _ _ _ hq, byN_get _ _ _ hq]
    by_cases h1 : j < q ∧ 4 ≤ q
    · rw [if_pos h1, if_pos (by omega)]
    · rw [if_neg h1, if_neg (by omega)]
/-- The round key ahead, out of round key i. -/
def backK (l : List B) (i : Nat) : List B :=
  ((((stepB l 3).set 0 ((stepB l 3).getD 0 0#8 ^^^ subB ((stepB l 3).getD 13 0#8) ^^^ mark i)).set 1 ((stepB l 3).getD 1 0#8 ^^^ subB ((stepB l 3).getD 14 0#8))).set 2 ((stepB l 3).getD 2 0#8 ^^^ subB ((stepB l 3).getD 15 0#8))).set 3 ((stepB l 3).getD 3 0#8 ^^^ subB ((stepB l 3).getD 12 0#8))
theorem keyAt_get (key : List B) (h : key.length = 16) (r q : Nat) (hr : r < 11) (hq : q < 16) : (keyAt (roundKeys key) r).getD q 0#8 = (wordAt (wordsTo key 4 40) (4 * r + q / 4)).getD (q % 4) 0#8 := by
  unfold keyAt roundKeys allB
  rw [h, show roundsN 16 = 10 from rfl, show 16 / 4 = 4 from rfl, show 4 * (10 + 1) - 4 = 40 from rfl]
  rw [List.getD_eq_getElem?_getD (l := List.map _ _), List.getElem?_map, List.getElem?_range (by omega)]
  show ((List.drop (16 * r) (wordsTo key 4 40).flatten).take 16).getD q 0#8 = _
  rw [List.getD_eq_getElem?_getD, List.getElem?_take_of_lt hq, List.getElem?_drop, ← List.getD_eq_getElem?_getD, flat_get (wordsTo_four key 4 (by omega) (by decide) 40) _ (by rw [wordsTo_length]; omega)]
  rw [show (16 * r + q) / 4 = 4 * r + q / 4 by omega, show (16 * r + q) % 4 = q % 4 by omega]
theorem keyAt_len (key : List B) (h : key.length = 16) (r : Nat) (hr : r < 11) : (keyAt (roundKeys key) r).length = 16 := by
  unfold keyAt roundKeys allB
  rw [h, show roundsN 16 = 10 from rfl, show 16 / 4 = 4 from rfl, show 4 * (10 + 1) - 4 = 40 from rfl]
  rw [List.getD_eq_getElem?_getD, List.getElem?_map, List.getElem?_range (by omega)]
  show ((List.drop (16 * r) (wordsTo key 4 40).flatten).take 16).length = 16
  rw [List.length_take, List.length_drop, flat_length (wordsTo_four key 4 (by omega) (by decide) 40), wordsTo_length]
  omega
theorem word_step (key : List B) (h : key.length = 16) (i : Nat) (h1 : 4 ≤ i) (h2 : i < 44) (s : Nat) (hs : s < 4) : (wordAt (wordsTo key 4 40) i).getD s 0#8 = (madeB (wordAt (wordsTo key 4 40) (i - 1)) i 4).getD s 0#8 ^^^ (wordAt (wordsTo key 4 40) (i - 4)).getD s 0#8 := by
  have h4 := wordsTo_four key 4 (by omega) (by decide) 40
  conv => lhs; rw [wordsTo_eq key 4 40 i (by decide) h1 (by omega)]
  exact xorL_get _ _ _ (by rw [madeB_length _ _ _ (h4.at_ (by rw [wordsTo_length]; omega))]; exact hs)
theorem back_key (key : List B) (h : key.length = 16) (i : Nat) (h1 : 1 ≤ i) (h2 : i < 11) : backK (keyAt (roundKeys key) i) i = keyAt (roundKeys key) (i - 1) := by
  have hg := fun q (hq : q < 16) => keyAt_get key h i q h2 hq
  have hg' := fun q (hq : q < 16) => keyAt_get key h (i - 1) q (by omega) hq
  have hw := fun n (a : 4 ≤ n) (b : n < 44) s (hs : s < 4) => word_step key h n a b s hs
  -- the later three words
  have hs : ∀ q, 4 ≤ q → q < 16 → (stepB (keyAt (roundKeys key) i) 3).getD q 0#8 = (keyAt (roundKeys key) (i - 1)).getD q 0#8 := by
    intro q h4 h16
    unfold stepB
    rw [byN_get _ _ _ h16, if_pos (by omega), hg q h16, hg (q - 4) (by omega), hg' q h16, hw (4 * i + q / 4) (by omega) (by omega) (q % 4) (by omega)]
    rw [show madeB (wordAt (wordsTo key 4 40) (4 * i + q / 4 - 1)) (4 * i + q / 4) 4 = wordAt (wordsTo key 4 40) (4 * i + q / 4 - 1) by unfold madeB; rw [if_neg (by omega), if_neg (by omega)]]
    rw [show 4 * i + (q - 4) / 4 = 4 * i + q / 4 - 1 by omega, show (q - 4) % 4 = q % 4 by omega, show 4 * (i - 1) + q / 4 = 4 * i + q / 4 - 4 by omega]
    rw [BitVec.xor_comm, xor_lself]
  have h0 : ∀ q, q < 4 → (stepB (keyAt (roundKeys key) i) 3).getD q 0#8 = (madeB (wordAt (wordsTo key 4 40) (4 * i - 1)) (4 * i) 4).getD q 0#8 ^^^ (keyAt (roundKeys key) (i - 1)).getD q 0#8 := by
    intro q hq
    rw [stepB_at _ 3 q (by omega) (by omega), hg q (by omega), hg' q (by omega), show q / 4 = 0 by omega, show q % 4 = q by omega, Nat.add_zero, Nat.add_zero, hw (4 * i) (by omega) (by omega) q hq, show 4 * i - 4 = 4 * (i - 1) by omega]
  have hm : madeB (wordAt (wordsTo key 4 40) (4 * i - 1)) (4 * i) 4 = [subB ((stepB (keyAt (roundKeys key) i) 3).getD 13 0#8) ^^^ mark i, subB ((stepB (keyAt (roundKeys key) i) 3).getD 14 0#8), subB ((stepB (keyAt (roundKeys key) i) 3).getD 15 0#8), subB ((stepB (keyAt (roundKeys key) i) 3).getD 12 0#8)] := by
    rw [hs 13 (by decide) (by decide), hs 14 (by decide) (by decide), hs 15 (by decide) (by decide), hs 12 (by decide) (by decide), hg' 13 (by decide), hg' 14 (by decide), hg' 15 (by decide), hg' 12 (by decide)]
    unfold madeB
    rw [if_pos (by omega), show 4 * i / 4 = i by omega, show 4 * (i - 1) + 13 / 4 = 4 * i - 1 by omega]
  have k0 := h0 0 (by decide)
  have k1 := h0 1 (by decide)
  have k2 := h0 2 (by decide)
  have k3 := h0 3 (by decide)
  rw [hm] at k0 k1 k2 k3
  refine getD_ext (by unfold backK; simp only [List.length_set, stepB_length]; exact (keyAt_len key h _ (by omega)).symm) fun q hq => ?_
  unfold backK at hq ⊢
  simp only [List.length_set, stepB_length] at hq
  simp only [List.getD_eq_getElem?_getD (l := List.set _ _ _), List.getElem?_set, List.length_set, stepB_length]
  rcases (show q = 0 ∨ q = 1 ∨ q = 2 ∨ q = 3 ∨ 4 ≤ q by omega) with rfl | rfl | rfl | rfl | h4
  · simp only [show ¬ (3 = 0) by decide, show ¬ (2 = 0) by decide, show ¬ (1 = 0) by decide, if_false, if_true, show 0 < 16 by decide, Option.getD_some]
    rw [k0]
    show ((subB _ ^^^ mark i) ^^^ _) ^^^ subB _ ^^^ mark i = _
    rw [BitVec.xor_assoc (_ ^^^ _) (subB _) (mark i), BitVec.xor_comm (_ ^^^ _) (subB _ ^^^ mark i), xor_lself]
  · simp only [show ¬ (3 = 1) by decide, show ¬ (2 = 1) by decide, if_false, if_true, show 1 < 16 by decide, Option.getD_some]
    rw [k1]
    show (subB _ ^^^ _) ^^^ subB _ = _
    rw [BitVec.xor_comm (_ ^^^ _) (subB _), xor_lself]
  · simp only [show ¬ (3 = 2) by decide, if_false, if_true, show 2 < 16 by decide, Option.getD_some]
    rw [k2]
    show (subB _ ^^^ _) ^^^ subB _ = _
    rw [BitVec.xor_comm (_ ^^^ _) (subB _), xor_lself]
  · simp only [if_true, show 3 < 16 by decide, Option.getD_some]
    rw [k3]
    show (subB _ ^^^ _) ^^^ subB _ = _
    rw [BitVec.xor_comm (_ ^^^ _) (subB _), xor_lself]
  · rw [if_neg (by omega), if_neg (by omega), if_neg (by omega), if_neg (by omega), ← List.getD_eq_getElem?_getD, hs q h4 hq]
theorem key0 (key : List B) (h : key.length = 16) : keyAt (roundKeys key) 0 = key := getD_ext (by rw [keyAt_len key h 0 (by decide), h]) fun q hq => by
  rw [keyAt_len key h 0 (by decide)] at hq
  rw [keyAt_get key h 0 q (by decide) hq, show 4 * 0 + q / 4 = q / 4 by omega]
  have := wordsTo_le key 4 (q / 4) 40 0 (by omega)
  rw [Nat.zero_add] at this
  rw [this]
  show ((keyWords key 4).getD (q / 4) []).getD (q % 4) 0#8 = _
  unfold keyWords
  rw [List.getD_eq_getElem?_getD (l := List.map _ _), List.getElem?_map, List.getElem?_range (by omega)]
  show (four key (q / 4)).getD (q % 4) 0#8 = _
  rw [four_get _ _ _ (by omega), show 4 * (q / 4) + q % 4 = q by omega]
theorem set_get (l : List B) (i j : Nat) (v : B) (h : i ≠ j) : (l.set i v).getD j 0#8 = l.getD j 0#8 := by
  rw [List.getD_eq_getElem?_getD, List.getElem?_set, if_neg h, ← List.getD_eq_getElem?_getD]
end Go.Proofs.Ytpdikfmdnlhllaa.AesMath
namespace Go.Proofs.Ytpdikfmdnlhllaa.Aes
open Go.RowKit Go.Proofs.Ytpdikfmdnlhllaa.PNib Go.Proofs.YtpdikfmdnlhllaaW.PrintWords Go.Proofs.YtpdikfmdnlhllaaW.PrintLast Go.Proofs.YtpdikfmdnlhllaaW.PrintMore Byte Sl Arr Mem Gives ArrEq Mat AesMath AesMov AesLin HandKit
set_option linter.unusedVariables false
set_option linter.unusedSimpArgs false
section
variable {W w1 : World} {g o co : Nat} {X : List B}
theorem cellB (h : Ow W w1.heap.size (.slice (some ⟨g, o, none⟩) 16 co) (ib X)) (q : Nat) (hq : q < 16) : W.cell? ⟨g, o + q, none⟩ = some (.int .u8 (I8 (X.getD q 0#8))) ∧ W.frozen? ⟨g, o + q, none⟩ = false := by
  obtain ⟨h1, h2⟩ := Kd.Q_cell (0 : Int) h (q : Int) (by omega) (by omega)
  rw [Int.toNat_natCast] at h1 h2
  refine ⟨?_, h2⟩
  rw [h1]
  show some (Value.int .u8 ((ib X).getD (q : Int).toNat 0)) = _
  rw [Int.toNat_natCast, ib_getD]
theorem putB (h : Ow W w1.heap.size (.slice (some ⟨g, o, none⟩) 16 co) (ib X)) (hb : Below w1.heap.size w1 W) (q : Nat) (hq : q < 16) (v : B) : Ow (W.setCell ⟨g, o + q, none⟩ (.int .u8 (I8 v))) w1.heap.size (.slice (some ⟨g, o, none⟩) 16 co) (ib (X.set q v)) ∧ Below w1.heap.size w1 (W.setCell ⟨g, o + q, none⟩ (.int .u8 (I8 v))) := by
  have h1 := (Kd.Q_putg h (q : Int) (by omega) (by omega) (I8 v)).1
  rw [Int.toNat_natCast, ib_set] at h1
  exact ⟨h1, below_set hb (Kd.Q_base h g rfl)⟩
theorem strB {A : Option Addr} {c : Nat} {l : List B} {w' : World} (h : Kd.C (Kd.int .u8) w' A 16 (ib l)) (hl : (ib l).length = 16) : (convert 22 9 (.slice A 16 c)).run Try.prog w' = .ok (.string (strOfNums (ib l))) w' := by
  have := Kd.C_string (P := Try.prog) (A := A) (c := c) Try.underlying22 Try.underlying5 Try.underlying9 h
  exact this
end
theorem memK16 {w : World} {g : Nat} {t : TypeId} {b : List B} (h : Mem .u8 w g t (ib b)) (hb : (ib b).length = 16) : Kd.C (Kd.int .u8) w (some ⟨g, 0, none⟩) 16 (ib b) := by
  have := mem_C h 16 (by rw [hb]; exact Nat.le_refl _) (by decide)
  rwa [List.take_of_length_le (by rw [hb]; exact Nat.le_refl _)] at this
theorem j64 (j : Nat) (h : j < 100) (k : Nat) (K : Int) (hK : K = (k : Int)) (hk : k ≤ j) : wrap64 ((j : Int) - K) = ((j - k : Nat) : Int) ∧ IntKind.i64.wrap ((j : Int) - K) = ((j - k : Nat) : Int) ∧ (j : Int) - K = ((j - k : Nat) : Int) := by
  subst hK
  refine ⟨?_, ?_, ?_⟩
  · unfold wrap64; omega
  · rw [IntKind.wrap_i64]; omega
  · omega
theorem ksub_c (x : B) : GivesB 21 #[.int .u8 (I8 x)] (.int .u8 (I8 (subB x))) := fun w => (visorref07_Sub.calls 300 _ _ w (rsub_eq x)).mono fun _ _ ⟨a, b⟩ => ⟨a, b.below⟩
theorem jb (j : Nat) (h : j < 16) : (0 : Int) ≤ (j : Int) ∧ (j : Int) < 16 := by omega
theorem p11 (p : B) : wrap64 (I8 p) = I8 p ∧ Int.tmod (I8 p) 11 = ((p.toNat % 11 : Nat) : Int) ∧ (I8 p) % 11 = ((p.toNat % 11 : Nat) : Int) := by
  refine ⟨?_, ?_, ?_⟩
  · exact w64 (by unfold I8; omega) (by have := p.isLt; unfold I8; omega)
  · rw [Int.tmod_eq_emod_of_nonneg (by unfold I8; omega)]; unfold I8; omega
  · unfold I8; omega
set_option maxHeartbeats 8000000 in
set_option maxRecDepth 100000 in
theorem klaw_ (key : List B) (hkey : key.length = 16) (p : B) (w : World) : Calls Try.prog 4 #[.agg (cellsOf .u8 (ib key)), .int .u8 (I8 p)] w fun e w' => e = .returned (.bool true) ∧ Below w.heap.size w w' := by
  obtain ⟨m, hm⟩ : ∃ m, m = p.toNat % 11 := ⟨_, rfl⟩
  have hm11 : m < 11 := by omega
  obtain ⟨t0, t1, t2⟩ := p11 p
  rw [← hm] at t1 t2
  have HK0 := Aside0.mk (key0 key hkey)
  have HKL := Aside0.mk (fun r (h : r < 11) => keyAt_len key hkey r h)
  have HBK := Aside0.mk (fun i (h1 : 1 ≤ i) (h2 : i < 11) => back_key key hkey i h1 h2)
  have LK := Aside0.mk (show (ib key).length = 16 by rw [ib_length, hkey])
  have CE := Aside0.mk (fun W (h : Kd.C (Kd.int .u8) W (some ⟨w.heap.size, 0, none⟩) 16 (ib key)) => show Calls Try.prog 18 #[.slice (some ⟨w.heap.size, 0, none⟩) 16 16] W fun e w' => ∃ v, e = .returned (.tuple #[v, .int .i64 0]) ∧ Below W.heap.size W w' ∧ RK w' W.heap.size v (roundKeys key) from by
    have := expand_ok key (by rw [hkey]; decide) (some ⟨w.heap.size, 0, none⟩) 16 (by rw [hkey]; exact Nat.le_refl _) W (by rw [hkey]; exact h)
    rw [hkey] at this
    exact this)
  have H2 := Aside0.mk (show (roundKeys key).length = 11 by rw [roundKeys_length, hkey]; decide)
  have HKK := Aside0.mk hkey
  have CAW := Aside0.mk (fun (W : World) => kawake_c.q W)
  generalize roundKeys key = rk at *
  have M1 := Aside0.mk (Mem.new .u8 w 31 (ib key))
  have HB := Aside0.mk (below_alloc (Below.refl w.heap.size w) (.cells (cellsOf .u8 (ib key)) 31))
  obtain ⟨ka, hka⟩ : ∃ cs, cs = cellsOf .u8 (ib key) := ⟨_, rfl⟩
  rw [← hka] at M1 HB ⊢
  have HC1 := Aside0.mk (memK16 M1.out LK.out)
  have HM := Aside0.mk hm11
  have bm := jb m
  have bm0 : (0 : Int) ≤ (m : Int) := by omega
  have bm1 : (m : Int) < 11 := by omega
  clear hka hm hm11 hkey bm
  generalize I8 p = ip at *
  go_enter Try.func4, Try.ntmps4
  go_wp2_with (first
    | (go_at_call 18; go_loud ((refine (CE.out _ HC1.out).mono ?_); rintro e w1 ⟨v, rfl, hb, A2, c2, rfl, hc2, hF⟩; obtain ⟨ad, Am, cm, rfl, hxm, hcm, hCm⟩ := RK.head hF m (by rw [H2.out]; exact HM.out); obtain ⟨ad', A0, c0, e0, hx0, hc0, hC0⟩ := RK.head hF 0 (by rw [H2.out]; decide); obtain rfl := Option.some.inj e0; rw [HKL.out m HM.out] at hxm hCm hcm; rw [HK0.out, HKK.out] at hx0 hC0; have HXM := Aside0.mk hxm; clear hxm; have HX0 := Aside0.mk (show w1.cell? ad = some (.slice A0 16 c0) from by have h := hx0; rwa [show ad.add 0 = ad by simp [Addr.add]] at h); have HC0 := Aside0.mk hC0; have HCM := Aside0.mk hCm; have HB := Aside0.mk (below_step HB.out hb); have M1 := Aside0.mk (Mem.below M1.out hb); have HB1 := Aside0.mk (Below.refl w1.heap.size w1); (try rw [H2.out]); obtain ⟨row, hrow⟩ : ∃ z, z = keyAt rk m := ⟨_, rfl⟩; rw [← hrow] at HCM; have HL := Aside0.mk (show (ib row).length = 16 by rw [hrow, ib_length]; exact HKL.out m HM.out); have HROW := Aside0.mk hrow; clear hb hc2 hF hcm hCm e0 hx0 hc0 hC0 hrow))
    | ((with_reducible refine gate_dst (N := 26) rfl ?_); refine Kd.R_lit (Kd.int .u8) w1.heap.size 5 ?hg (N := 26) ?hd (w0 := w1) (xs := ([] : List Int)) (inner := []) (ok := fun k => w1.heap.size ≤ k) (okp := fun _ => False) ?hr ?hp (fun _ hk => hk.elim) HB1.out.size HB1.out HB1.out.size (by simp) ?_; (case hd => rfl); (case hg => rfl); (case hr => first | (go_simp; done) | (go_simp; rfl)); (case hp => exact (Reps.none _ _)); intro v1 w3 ho4 hb hg_ hnew_; have HB1 := Aside0.mk hb; obtain ⟨Av, cv, rfl, hcv, hrd⟩ := Kd.R_reads ho4; have HO := Aside0.mk ho4; clear hb ho4 hg_ hnew_ hrd hcv; have hxm := pw_cell_below HB1.out HXM.out)
    | ((with_reducible refine gate_builtin (b := .append) (xs := #[.tmp 26, .tmp 30]) rfl ?_); go_loud (refine Kd.R_append_rows (Kd.int .u8) (w0 := w1) w1.heap.size rfl (.tmp 26) (.tmp 30) 22 5 (.int .u8 0) 1 rfl Try.underlying22 info_u8 rfl (by decide) (by omega) _ [] (ib row) Am _ _ (fun k => w1.heap.size ≤ k) (fun _ => False) rfl rfl HO.out (show ReadsRow _ _ _ _ _ _ from Kd.C_below HCM.out HB1.out) (fun _ _ h => h) (fun _ h => h.elim) (fun k hk => Nat.le_trans HB1.out.size hk) HB1.out HB1.out.size ?aL ?_); (case aL => exact (by simp only [List.length_nil]; omega)); intro v2 w5 ho hb hg hat; have HB1 := Aside0.mk hb; have ho' : Ow w5 w1.heap.size v2 (ib row) := Ow.of_R ho (Nat.le_refl _); obtain ⟨go, oo, co, hv, _⟩ := Kd.Q_form ho' (by rw [HL.out]; decide); rw [HL.out] at hv; subst hv; have HO2 := Aside0.mk ho'; clear HO ho ho' hb hg hat))
  have HO := Aside0.mk (show Ow _ w1.heap.size (.slice (some ⟨go, oo, none⟩) 16 co) (ib (keyAt rk m)) by rw [← HROW.out]; exact HO2.out)
  clear HO2 HROW HL bm0 bm1 t0 t1 t2 hxm
  go_loopg [9] m (fun kq i w' => ∃ r : Nat, r = kq ∧ r ≤ m ∧ i = .int .i64 (r : Int) ∧ Aside0 (Ow w' w1.heap.size (.slice (some ⟨go, oo, none⟩) 16 co) (ib (keyAt rk r))) ∧ Aside0 (Below w1.heap.size w1 w'))
  case atStart => exact ⟨m, rfl, Nat.le_refl _, rfl, HO, HB1⟩
  case round =>
    clear HO HB1
    obtain ⟨r, hr, hrm, rfl, HO, HB1⟩ := hrel
    have HRM := Aside0.mk hrm
    clear hrm
    cases gk with
    | zero =>
      subst hr
      have HO := Aside0.mk (show Ow _ w1.heap.size (.slice (some ⟨go, oo, none⟩) 16 co) (ib (key)) by rw [← HK0.out]; exact HO.out)
      clear HBK HKL HK0
      go_wp2
      have HO := Aside0.mk (Ow.drew HO.out)
      have HB1 := Aside0.mk (below_drew HB1.out)
      refine start_ (n := 18) (S := fun w' => (convert 22 9 (.slice (some ⟨go, oo, none⟩) 16 co)).run Try.prog w' = .ok (.string (strOfNums (ib key))) w' ∧ (convert 22 9 (.slice (some ⟨w.heap.size, 0, none⟩) 16 16)).run Try.prog w' = .ok (.string (strOfNums (ib key))) w' ∧ w'.cell? ad = some (.slice A0 16 c0) ∧ (convert 22 9 (.slice A0 16 c0)).run Try.prog w' = .ok (.string (strOfNums (ib key))) w') (ds := []) #[false, false, false, false, false, false, false, false, false, false, false, false, false, false, false, false, false, false] (by kernel_rfl) rfl rfl ⟨(strB (by have h := (Kd.Q_reads' HO.out).2.2; rwa [LK.out] at h) LK.out), (strB (memK16 (Mem.below M1.out HB1.out) LK.out) LK.out), (pw_cell_below HB1.out HX0.out), (strB (Kd.C_below HC0.out HB1.out) LK.out)⟩ (fun hHeld => ?_)
      refine pure_ (i := 0) (N := some 100) (v := ?_) (a' := ?_) #[true, false, false, false, false, false, false, false, false, false, false, false, false, false, false, false, false, false] rfl rfl (by kernel_rfl) (fun _ _ _ h => h) (Or.inl ⟨by rfl, ?_⟩) ?_ ?_
      rotate_left
      · intro w'
        go_simp
        with_reducible rfl
      rotate_left
      · simp only [Act.put, List.setIfInBounds_toArray, List.set_cons_zero, List.set_cons_succ, i64_w, i32_w]
        rfl
      refine pure_ (i := 2) (N := some 102) (v := ?_) (a' := ?_) #[true, false, true, false, false, false, false, false, false, false, false, false, false, false, false, false, false, false] rfl rfl (by kernel_rfl) (fun _ _ _ h => h) (Or.inl ⟨by rfl, ?_⟩) ?_ ?_
      rotate_left
      · intro w'
        go_simp
        with_reducible rfl
      rotate_left
      · simp only [Act.put, List.setIfInBounds_toArray, List.set_cons_zero, List.set_cons_succ, i64_w, i32_w]
        rfl
      refine take_ (i := 1) (N := some 101) (v := ?_) (a' := ?_) #[true, true, true, false, false, false, false, false, false, false, false, false, false, false, false, false, false, false] rfl rfl (by kernel_rfl) (fun _ _ _ h => h) (Or.inl ⟨by rfl, ?_⟩) hHeld ?_ ?_
      rotate_left
      · rintro w' ⟨s0, s1, s2, s3⟩
        go_simp
        with_reducible rfl
      rotate_left
      · simp only [Act.put, List.setIfInBounds_toArray, List.set_cons_zero, List.set_cons_succ, i64_w, i32_w]
        rfl
      refine take_ (i := 3) (N := some 103) (v := ?_) (a' := ?_) #[true, true, true, true, false, false, false, false, false, false, false, false, false, false, false, false, false, false] rfl rfl (by kernel_rfl) (fun _ _ _ h => h) (Or.inl ⟨by rfl, ?_⟩) hHeld ?_ ?_
      rotate_left
      · rintro w' ⟨s0, s1, s2, s3⟩
        go_simp
        with_reducible rfl
      rotate_left
      · simp only [Act.put, List.setIfInBounds_toArray, List.set_cons_zero, List.set_cons_succ, i64_w, i32_w]
        rfl
      refine pure_ (i := 4) (N := some 104) (v := ?_) (a' := ?_) #[true, true, true, true, true, false, false, false, false, false, false, false, false, false, false, false, false, false] rfl rfl (by kernel_rfl) (fun _ _ _ h => h) (Or.inl ⟨by rfl, ?_⟩) ?_ ?_
      rotate_left
      · intro w'
        go_simp
        with_reducible rfl
      rotate_left
      · simp only [Act.put, List.setIfInBounds_toArray, List.set_cons_zero, List.set_cons_succ, i64_w, i32_w]
        rfl
      refine pure_ (i := 5) (N := some 105) (v := ?_) (a' := ?_) #[true, true, true, true, true, true, false, false, false, false, false, false, false, false, false, false, false, false] rfl rfl (by kernel_rfl) (fun _ _ _ h => h) (Or.inl ⟨by rfl, ?_⟩) ?_ ?_
      rotate_left
      · intro w'
        go_simp
        with_reducible rfl
      rotate_left
      · simp only [Act.put, List.setIfInBounds_toArray, List.set_cons_zero, List.set_cons_succ, i64_w, i32_w]
        rfl
      refine pure_ (i := 6) (N := some 106) (v := ?_) (a' := ?_) #[true, true, true, true, true, true, true, false, false, false, false, false, false, false, false, false, false, false] rfl rfl (by kernel_rfl) (fun _ _ _ h => h) (Or.inl ⟨by rfl, ?_⟩) ?_ ?_
      rotate_left
      · intro w'
        go_simp
        with_reducible rfl
      rotate_left
      · simp only [Act.put, List.setIfInBounds_toArray, List.set_cons_zero, List.set_cons_succ, i64_w, i32_w]
        rfl
      refine pure_ (i := 7) (N := some 107) (v := ?_) (a' := ?_) #[true, true, true, true, true, true, true, true, false, false, false, false, false, false, false, false, false, false] rfl rfl (by kernel_rfl) (fun _ _ _ h => h) (Or.inl ⟨by rfl, ?_⟩) ?_ ?_
      rotate_left
      · intro w'
        go_simp
        with_reducible rfl
      rotate_left
      · simp only [Act.put, List.setIfInBounds_toArray, List.set_cons_zero, List.set_cons_succ, i64_w, i32_w]
        rfl
      refine pure_ (i := 10) (N := some 110) (v := ?_) (a' := ?_) #[true, true, true, true, true, true, true, true, false, false, true, false, false, false, false, false, false, false] rfl rfl (by kernel_rfl) (fun _ _ _ h => h) (Or.inl ⟨by rfl, ?_⟩) ?_ ?_
      rotate_left
      · intro w'
        go_simp
        with_reducible rfl
      rotate_left
      · simp only [Act.put, List.setIfInBounds_toArray, List.set_cons_zero, List.set_cons_succ, i64_w, i32_w]
        rfl
      refine take_ (i := 8) (N := some 108) (v := ?_) (a' := ?_) #[true, true, true, true, true, true, true, true, true, false, true, false, false, false, false, false, false, false] rfl rfl (by kernel_rfl) (fun _ _ _ h => h) (Or.inl ⟨by rfl, ?_⟩) hHeld ?_ ?_
      rotate_left
      · rintro w' ⟨s0, s1, s2, s3⟩
        go_simp
        with_reducible rfl
      rotate_left
      · simp only [Act.put, List.setIfInBounds_toArray, List.set_cons_zero, List.set_cons_succ, i64_w, i32_w]
        rfl
      refine take_ (i := 9) (N := some 109) (v := ?_) (a' := ?_) #[true, true, true, true, true, true, true, true, true, true, true, false, false, false, false, false, false, false] rfl rfl (by kernel_rfl) (fun _ _ _ h => h) (Or.inl ⟨by rfl, ?_⟩) hHeld ?_ ?_
      rotate_left
      · rintro w' ⟨s0, s1, s2, s3⟩
        go_simp
        with_reducible rfl
      rotate_left
      · simp only [Act.put, List.setIfInBounds_toArray, List.set_cons_zero, List.set_cons_succ, i64_w, i32_w]
        rfl
      refine take_ (i := 11) (N := some 111) (v := ?_) (a' := ?_) #[true, true, true, true, true, true, true, true, true, true, true, true, false, false, false, false, false, false] rfl rfl (by kernel_rfl) (fun _ _ _ h => h) (Or.inl ⟨by rfl, ?_⟩) hHeld ?_ ?_
      rotate_left
      · rintro w' ⟨s0, s1, s2, s3⟩
        go_simp
        with_reducible rfl
      rotate_left
      · simp only [Act.put, List.setIfInBounds_toArray, List.set_cons_zero, List.set_cons_succ, i64_w, i32_w]
        rfl
      refine pure_ (i := 12) (N := some 112) (v := ?_) (a' := ?_) #[true, true, true, true, true, true, true, true, true, true, true, true, true, false, false, false, false, false] rfl rfl (by kernel_rfl) (fun _ _ _ h => h) (Or.inl ⟨by rfl, ?_⟩) ?_ ?_
      rotate_left
      · intro w'
        go_simp
        with_reducible rfl
      rotate_left
      · simp only [Act.put, List.setIfInBounds_toArray, List.set_cons_zero, List.set_cons_succ, i64_w, i32_w]
        rfl
      refine pure_ (i := 13) (N := some 113) (v := ?_) (a' := ?_) #[true, true, true, true, true, true, true, true, true, true, true, true, true, true, false, false, false, false] rfl rfl (by kernel_rfl) (fun _ _ _ h => h) (Or.inl ⟨by rfl, ?_⟩) ?_ ?_
      rotate_left
      · intro w'
        go_simp
        with_reducible rfl
      rotate_left
      · simp only [Act.put, List.setIfInBounds_toArray, List.set_cons_zero, List.set_cons_succ, i64_w, i32_w]
        rfl
      refine pure_ (i := 14) (N := some 114) (v := ?_) (a' := ?_) #[true, true, true, true, true, true, true, true, true, true, true, true, true, true, true, false, false, false] rfl rfl (by kernel_rfl) (fun _ _ _ h => h) (Or.inl ⟨by rfl, ?_⟩) ?_ ?_
      rotate_left
      · intro w'
        go_simp
        with_reducible rfl
      rotate_left
      · simp only [Act.put, List.setIfInBounds_toArray, List.set_cons_zero, List.set_cons_succ, i64_w, i32_w]
        rfl
      refine one_ (i := 15) (N := some 115) #[true, true, true, true, true, true, true, true, true, true, true, true, true, true, true, true, false, false] rfl rfl (by kernel_rfl) (by decide) (fun K hK => ?_)
      refine goes_ Try.func20 (by kernel_rfl) rfl #[] (by rfl) rfl rfl (by simp only [List.map_toArray, List.map_cons, List.map_nil]) ?_
      with_reducible refine (CAW.out _).mono ?_
      rintro e w9 ⟨rfl, hb9⟩
      refine ⟨_, rfl, ?_⟩
      have HO := Aside0.mk (Ow.below HO.out hb9)
      have HB1 := Aside0.mk (below_step HB1.out hb9)
      clear hb9
      refine hK.out _ _ ⟨(strB (by have h := (Kd.Q_reads' HO.out).2.2; rwa [LK.out] at h) LK.out), (strB (memK16 (Mem.below M1.out HB1.out) LK.out) LK.out), (pw_cell_below HB1.out HX0.out), (strB (Kd.C_below HC0.out HB1.out) LK.out)⟩ (fun hHeld => ?_)
      clear hK K
      refine norm_ (a' := ?_) ?_ ?_
      rotate_left
      · show Act.put _ (some 115) _ = _
        simp only [Act.put, List.setIfInBounds_toArray, List.set_cons_zero, List.set_cons_succ, i64_w, i32_w]
        rfl
      refine pure_ (i := 16) (N := some 116) (v := ?_) (a' := ?_) #[true, true, true, true, true, true, true, true, true, true, true, true, true, true, true, true, true, false] rfl rfl (by kernel_rfl) (fun _ _ _ h => h) (Or.inl ⟨by rfl, ?_⟩) ?_ ?_
      rotate_left
      · intro w'
        go_simp
        with_reducible rfl
      rotate_left
      · simp only [Act.put, List.setIfInBounds_toArray, List.set_cons_zero, List.set_cons_succ, i64_w, i32_w]
        rfl
      refine pure_ (i := 17) (N := some 4) (v := ?_) (a' := ?_) #[true, true, true, true, true, true, true, true, true, true, true, true, true, true, true, true, true, true] rfl rfl (by kernel_rfl) (fun _ _ _ h => h) (Or.inl ⟨by rfl, ?_⟩) ?_ ?_
      rotate_left
      · intro w'
        go_simp
        with_reducible rfl
      rotate_left
      · simp only [Act.put, List.setIfInBounds_toArray, List.set_cons_zero, List.set_cons_succ, i64_w, i32_w]
        rfl
      refine done_ (by kernel_rfl) ?_
      go_wp2
      go_ret
      exact ⟨rfl, below_step HB.out (HB1.out)⟩
    | succ k1 =>
      have hr0 : (0 : Int) < (r : Int) := by omega
      have HR := Aside0.mk (show r = k1 + 1 from hr)
      have HR1 := Aside0.mk (show 1 ≤ r ∧ r < 11 from by have := HRM.out; have := HM.out; omega)
      have HSTEP := Aside0.mk (HBK.out r HR1.out.1 HR1.out.2)
      have HRL := Aside0.mk (HKL.out r HR1.out.2)
      obtain ⟨R, hR⟩ : ∃ z, z = keyAt rk r := ⟨_, rfl⟩
      rw [← hR] at HO HSTEP HRL
      have HRR := Aside0.mk hR
      clear hR hr
      go_wp2
      go_loopg [10] 12 (fun kq2 i w' => ∃ j : Nat, j = 3 + kq2 ∧ j ≤ 15 ∧ i = .int .i64 (j : Int) ∧ Aside0 (Ow w' w1.heap.size (.slice (some ⟨go, oo, none⟩) 16 co) (ib (stepB R j))) ∧ Aside0 (Below w1.heap.size w1 w'))
      case atStart => exact ⟨15, rfl, Nat.le_refl _, rfl, ⟨by rw [stepB_15 R HRL.out]; exact HO.out⟩, HB1⟩
      case round =>
        clear HO HB1
        obtain ⟨j, hj, hj15, rfl, HO, HB1⟩ := hrel
        cases gk with
        | zero =>
          obtain rfl : j = 3 := hj
          clear hj15
          obtain ⟨X, hX⟩ : ∃ z, z = stepB R 3 := ⟨_, rfl⟩
          have hst := HSTEP.out
          unfold backK at hst
          rw [← hX] at hst HO
          obtain ⟨a0, ha0⟩ : ∃ z, z = X.getD 0 0#8 := ⟨_, rfl⟩
          rw [← ha0] at hst
          have QA0 := Aside0.mk ha0.symm
          clear ha0
          obtain ⟨a1, ha1⟩ : ∃ z, z = X.getD 1 0#8 := ⟨_, rfl⟩
          rw [← ha1] at hst
          have QA1 := Aside0.mk ha1.symm
          clear ha1
          obtain ⟨a2, ha2⟩ : ∃ z, z = X.getD 2 0#8 := ⟨_, rfl⟩
          rw [← ha2] at hst
          have QA2 := Aside0.mk ha2.symm
          clear ha2
          obtain ⟨a3, ha3⟩ : ∃ z, z = X.getD 3 0#8 := ⟨_, rfl⟩
          rw [← ha3] at hst
          have QA3 := Aside0.mk ha3.symm
          clear ha3
          obtain ⟨b0, hb0⟩ : ∃ z, z = X.getD 13 0#8 := ⟨_, rfl⟩
          rw [← hb0] at hst
          have QB0 := Aside0.mk hb0.symm
          clear hb0
          obtain ⟨b1, hb1⟩ : ∃ z, z = X.getD 14 0#8 := ⟨_, rfl⟩
          rw [← hb1] at hst
          have QB1 := Aside0.mk hb1.symm
          clear hb1
          obtain ⟨b2, hb2⟩ : ∃ z, z = X.getD 15 0#8 := ⟨_, rfl⟩
          rw [← hb2] at hst
          have QB2 := Aside0.mk hb2.symm
          clear hb2
          obtain ⟨b3, hb3⟩ : ∃ z, z = X.getD 12 0#8 := ⟨_, rfl⟩
          rw [← hb3] at hst
          have QB3 := Aside0.mk hb3.symm
          clear hb3
          obtain ⟨s0, hs0⟩ : ∃ z, z = subB b0 := ⟨_, rfl⟩
          rw [← hs0] at hst
          have CS0 := Aside0.mk (show GivesB 21 #[.int .u8 (I8 b0)] (.int .u8 (I8 s0)) from by rw [hs0]; exact ksub_c b0)
          clear hs0
          obtain ⟨s1, hs1⟩ : ∃ z, z = subB b1 := ⟨_, rfl⟩
          rw [← hs1] at hst
          have CS1 := Aside0.mk (show GivesB 21 #[.int .u8 (I8 b1)] (.int .u8 (I8 s1)) from by rw [hs1]; exact ksub_c b1)
          clear hs1
          obtain ⟨s2, hs2⟩ : ∃ z, z = subB b2 := ⟨_, rfl⟩
          rw [← hs2] at hst
          have CS2 := Aside0.mk (show GivesB 21 #[.int .u8 (I8 b2)] (.int .u8 (I8 s2)) from by rw [hs2]; exact ksub_c b2)
          clear hs2
          obtain ⟨s3, hs3⟩ : ∃ z, z = subB b3 := ⟨_, rfl⟩
          rw [← hs3] at hst
          have CS3 := Aside0.mk (show GivesB 21 #[.int .u8 (I8 b3)] (.int .u8 (I8 s3)) from by rw [hs3]; exact ksub_c b3)
          clear hs3
          obtain ⟨mk, hmk⟩ : ∃ z, z = AesMath.mark r := ⟨_, rfl⟩
          rw [← hmk] at hst
          have CM := Aside0.mk (show GivesB 16 #[.int .i64 (r : Int)] (.int .u8 (I8 mk)) from by rw [hmk]; exact Gives.b (mark_c r (by have := HR1.out.2; omega) (by omega)))
          have HST := Aside0.mk hst
          obtain ⟨e1, e2, e3⟩ := j64 r (by have := HR1.out.2; omega) 1 1 rfl HR1.out.1
          obtain ⟨r1, hr1⟩ : ∃ z, z = r - 1 := ⟨_, rfl⟩
          rw [← hr1] at e1 e2 HST
          have HRK := Aside0.mk (show r1 = k1 from by have := HR.out; omega)
          clear hst hX hmk e3 hr1 HSTEP HRR HRL
          go_wp2
          have z0 := xor8 a0 s0
          have z9 := xor8 (a0 ^^^ s0) mk
          have hf := (cellB HO.out 0 (by decide)).2
          have hf := show World.frozen? _ ⟨go, oo, none⟩ = _ from hf
          have hxa := (by have h := (cellB HO.out 0 (by decide)).1; rw [QA0.out] at h; exact h : World.cell? _ ⟨go, oo + 0, none⟩ = some (.int .u8 (I8 a0)))
          have hxa := show World.cell? _ ⟨go, oo, none⟩ = some (.int .u8 (I8 a0)) from hxa
          have hxb := (by have h := (cellB HO.out 13 (by decide)).1; rw [QB0.out] at h; exact h : World.cell? _ ⟨go, oo + 13, none⟩ = some (.int .u8 (I8 b0)))
          have hxb := show World.cell? _ ⟨go, oo + 13, none⟩ = some (.int .u8 (I8 b0)) from hxb
          refine start_ (n := 14) (S := fun w' => w'.cell? ⟨go, oo, none⟩ = some (.int .u8 (I8 a0)) ∧ w'.cell? ⟨go, oo + 13, none⟩ = some (.int .u8 (I8 b0))) (ds := [13]) #[false, false, false, false, false, false, false, false, false, false, false, false, false, false] (by kernel_rfl) rfl rfl ⟨hxa, hxb⟩ (fun hHeld => ?_)
          refine pure_ (i := 0) (N := some 57) (v := ?_) (a' := ?_) #[true, false, false, false, false, false, false, false, false, false, false, false, false, false] rfl rfl (by kernel_rfl) (fun _ _ _ h => h) (Or.inl ⟨by rfl, ?_⟩) ?_ ?_
          rotate_left
          · intro w'
            go_simp
            with_reducible rfl
          rotate_left
          · simp only [Act.put, List.setIfInBounds_toArray, List.set_cons_zero, List.set_cons_succ, i64_w, i32_w]
            rfl
          refine pure_ (i := 1) (N := some 58) (v := ?_) (a' := ?_) #[true, true, false, false, false, false, false, false, false, false, false, false, false, false] rfl rfl (by kernel_rfl) (fun _ _ _ h => h) (Or.inl ⟨by rfl, ?_⟩) ?_ ?_
          rotate_left
          · intro w'
            go_simp
            with_reducible rfl
          rotate_left
          · simp only [Act.put, List.setIfInBounds_toArray, List.set_cons_zero, List.set_cons_succ, i64_w, i32_w]
            rfl
          refine pure_ (i := 2) (N := some 59) (v := ?_) (a' := ?_) #[true, true, true, false, false, false, false, false, false, false, false, false, false, false] rfl rfl (by kernel_rfl) (fun _ _ _ h => h) (Or.inl ⟨by rfl, ?_⟩) ?_ ?_
          rotate_left
          · intro w'
            go_simp
            with_reducible rfl
          rotate_left
          · simp only [Act.put, List.setIfInBounds_toArray, List.set_cons_zero, List.set_cons_succ, i64_w, i32_w]
            rfl
          refine pure_ (i := 4) (N := some 61) (v := ?_) (a' := ?_) #[true, true, true, false, true, false, false, false, false, false, false, false, false, false] rfl rfl (by kernel_rfl) (fun _ _ _ h => h) (Or.inl ⟨by rfl, ?_⟩) ?_ ?_
          rotate_left
          · intro w'
            go_simp
            with_reducible rfl
          rotate_left
          · simp only [Act.put, List.setIfInBounds_toArray, List.set_cons_zero, List.set_cons_succ, i64_w, i32_w]
            rfl
          refine pure_ (i := 5) (N := some 62) (v := ?_) (a' := ?_) #[true, true, true, false, true, true, false, false, false, false, false, false, false, false] rfl rfl (by kernel_rfl) (fun _ _ _ h => h) (Or.inl ⟨by rfl, ?_⟩) ?_ ?_
          rotate_left
          · intro w'
            go_simp
            with_reducible rfl
          rotate_left
          · simp only [Act.put, List.setIfInBounds_toArray, List.set_cons_zero, List.set_cons_succ, i64_w, i32_w]
            rfl
          refine pure_ (i := 9) (N := some 66) (v := ?_) (a' := ?_) #[true, true, true, false, true, true, false, false, false, true, false, false, false, false] rfl rfl (by kernel_rfl) (fun _ _ _ h => h) (Or.inl ⟨by rfl, ?_⟩) ?_ ?_
          rotate_left
          · intro w'
            go_simp
            with_reducible rfl
          rotate_left
          · simp only [Act.put, List.setIfInBounds_toArray, List.set_cons_zero, List.set_cons_succ, i64_w, i32_w]
            rfl
          refine take_ (i := 3) (N := some 60) (v := ?_) (a' := ?_) #[true, true, true, true, true, true, false, false, false, true, false, false, false, false] rfl rfl (by kernel_rfl) (fun _ _ _ h => h) (Or.inl ⟨by rfl, ?_⟩) hHeld ?_ ?_
          rotate_left
          · rintro w' ⟨s0, s1⟩
            go_simp
            with_reducible rfl
          rotate_left
          · simp only [Act.put, List.setIfInBounds_toArray, List.set_cons_zero, List.set_cons_succ, i64_w, i32_w]
            rfl
          refine take_ (i := 6) (N := some 63) (v := ?_) (a' := ?_) #[true, true, true, true, true, true, true, false, false, true, false, false, false, false] rfl rfl (by kernel_rfl) (fun _ _ _ h => h) (Or.inl ⟨by rfl, ?_⟩) hHeld ?_ ?_
          rotate_left
          · rintro w' ⟨s0, s1⟩
            go_simp
            with_reducible rfl
          rotate_left
          · simp only [Act.put, List.setIfInBounds_toArray, List.set_cons_zero, List.set_cons_succ, i64_w, i32_w]
            rfl
          refine one_ (i := 7) (N := some 64) #[true, true, true, true, true, true, true, true, false, true, false, false, false, false] rfl rfl (by kernel_rfl) (by decide) (fun K hK => ?_)
          refine goes_ Try.func21 (by kernel_rfl) rfl #[.int .u8 (I8 b0)] (by rfl) rfl rfl (by simp only [List.map_toArray, List.map_cons, List.map_nil]; rfl) ?_
          have HO := Aside0.mk (Ow.drew HO.out)
          have HB1 := Aside0.mk (below_drew HB1.out)
          with_reducible refine (CS0.out.q _).mono ?_
          rintro e w20 ⟨rfl, hb20⟩
          refine ⟨_, rfl, ?_⟩
          have HO := Aside0.mk (Ow.below HO.out hb20)
          have HB1 := Aside0.mk (below_step HB1.out hb20)
          clear hb20
          clear hf
          have hf0 := (cellB HO.out 0 (by decide)).2
          have hf := show World.frozen? _ ⟨go, oo, none⟩ = _ from hf0
          clear hf0
          refine hK.out _ _ ⟨(by have h := (cellB HO.out 0 (by decide)).1; rw [QA0.out] at h; exact h), (by have h := (cellB HO.out 13 (by decide)).1; rw [QB0.out] at h; exact h)⟩ (fun hHeld => ?_)
          clear hK K
          refine norm_ (a' := ?_) ?_ ?_
          rotate_left
          · show Act.put _ (some 64) _ = _
            simp only [Act.put, List.setIfInBounds_toArray, List.set_cons_zero, List.set_cons_succ, i64_w, i32_w]
            rfl
          refine pure_ (i := 8) (N := some 65) (v := ?_) (a' := ?_) #[true, true, true, true, true, true, true, true, true, true, false, false, false, false] rfl rfl (by kernel_rfl) (fun _ _ _ h => h) (Or.inl ⟨by rfl, ?_⟩) ?_ ?_
          rotate_left
          · intro w'
            go_simp
            with_reducible rfl
          rotate_left
          · simp only [Act.put, List.setIfInBounds_toArray, List.set_cons_zero, List.set_cons_succ, i64_w, i32_w]
            rfl
          refine one_ (i := 10) (N := some 67) #[true, true, true, true, true, true, true, true, true, true, true, false, false, false] rfl rfl (by kernel_rfl) (by decide) (fun K hK => ?_)
          refine goes_ Try.func16 (by kernel_rfl) rfl #[.int .i64 (r : Int)] (by rfl) rfl rfl (by simp only [List.map_toArray, List.map_cons, List.map_nil]; rfl) ?_
          with_reducible refine (CM.out.q _).mono ?_
          rintro e w30 ⟨rfl, hb30⟩
          refine ⟨_, rfl, ?_⟩
          have HO := Aside0.mk (Ow.below HO.out hb30)
          have HB1 := Aside0.mk (below_step HB1.out hb30)
          clear hb30
          clear hf
          have hf0 := (cellB HO.out 0 (by decide)).2
          have hf := show World.frozen? _ ⟨go, oo, none⟩ = _ from hf0
          clear hf0
          refine hK.out _ _ ⟨(by have h := (cellB HO.out 0 (by decide)).1; rw [QA0.out] at h; exact h), (by have h := (cellB HO.out 13 (by decide)).1; rw [QB0.out] at h; exact h)⟩ (fun hHeld => ?_)
          clear hK K
          refine norm_ (a' := ?_) ?_ ?_
          rotate_left
          · show Act.put _ (some 67) _ = _
            simp only [Act.put, List.setIfInBounds_toArray, List.set_cons_zero, List.set_cons_succ, i64_w, i32_w]
            rfl
          refine pure_ (i := 11) (N := some 68) (v := ?_) (a' := ?_) #[true, true, true, true, true, true, true, true, true, true, true, true, false, false] rfl rfl (by kernel_rfl) (fun _ _ _ h => h) (Or.inl ⟨by rfl, ?_⟩) ?_ ?_
          rotate_left
          · intro w'
            go_simp
            with_reducible rfl
          rotate_left
          · simp only [Act.put, List.setIfInBounds_toArray, List.set_cons_zero, List.set_cons_succ, i64_w, i32_w]
            rfl
          refine pure_ (i := 12) (N := some 69) (v := ?_) (a' := ?_) #[true, true, true, true, true, true, true, true, true, true, true, true, true, false] rfl rfl (by kernel_rfl) (fun _ _ _ h => h) (Or.inl ⟨by rfl, ?_⟩) ?_ ?_
          rotate_left
          · intro w'
            go_simp
            with_reducible rfl
          rotate_left
          · simp only [Act.put, List.setIfInBounds_toArray, List.set_cons_zero, List.set_cons_succ, i64_w, i32_w]
            rfl
          refine last_ (i := 13) (N := none) #[true, true, true, true, true, true, true, true, true, true, true, true, true, true] rfl rfl (by kernel_rfl) (by decide) (fun K hK => ?_)
          refine skip_ (w1 := ?_) (by rfl) rfl ?_ ?_
          rotate_left
          · go_simp
            rfl
          refine hK.out _ _ ?_
          clear hK K
          refine done_ (by kernel_rfl) ?_
          clear hxa hxb hf z0 z9
          obtain ⟨hO, hB⟩ := putB HO.out HB1.out 0 (by decide) (a0 ^^^ s0 ^^^ mk)
          have HO := Aside0.mk hO
          have HB1 := Aside0.mk hB
          clear hO hB
          go_wp2
          have z1 := xor8 a1 s1
          have hf := (cellB HO.out 1 (by decide)).2
          have hf := show World.frozen? _ ⟨go, oo + 1, none⟩ = _ from hf
          have hxa := (by have h := (cellB HO.out 1 (by decide)).1; rw [set_get _ 0 1 _ (by decide), QA1.out] at h; exact h : World.cell? _ ⟨go, oo + 1, none⟩ = some (.int .u8 (I8 a1)))
          have hxa := show World.cell? _ ⟨go, oo + 1, none⟩ = some (.int .u8 (I8 a1)) from hxa
          have hxb := (by have h := (cellB HO.out 14 (by decide)).1; rw [set_get _ 0 14 _ (by decide), QB1.out] at h; exact h : World.cell? _ ⟨go, oo + 14, none⟩ = some (.int .u8 (I8 b1)))
          have hxb := show World.cell? _ ⟨go, oo + 14, none⟩ = some (.int .u8 (I8 b1)) from hxb
          refine start_ (n := 11) (S := fun w' => w'.cell? ⟨go, oo + 1, none⟩ = some (.int .u8 (I8 a1)) ∧ w'.cell? ⟨go, oo + 14, none⟩ = some (.int .u8 (I8 b1))) (ds := [10]) #[false, false, false, false, false, false, false, false, false, false, false] (by kernel_rfl) rfl rfl ⟨hxa, hxb⟩ (fun hHeld => ?_)
          refine pure_ (i := 0) (N := some 70) (v := ?_) (a' := ?_) #[true, false, false, false, false, false, false, false, false, false, false] rfl rfl (by kernel_rfl) (fun _ _ _ h => h) (Or.inl ⟨by rfl, ?_⟩) ?_ ?_
          rotate_left
          · intro w'
            go_simp
            with_reducible rfl
          rotate_left
          · simp only [Act.put, List.setIfInBounds_toArray, List.set_cons_zero, List.set_cons_succ, i64_w, i32_w]
            rfl
          refine pure_ (i := 1) (N := some 71) (v := ?_) (a' := ?_) #[true, true, false, false, false, false, false, false, false, false, false] rfl rfl (by kernel_rfl) (fun _ _ _ h => h) (Or.inl ⟨by rfl, ?_⟩) ?_ ?_
          rotate_left
          · intro w'
            go_simp
            with_reducible rfl
          rotate_left
          · simp only [Act.put, List.setIfInBounds_toArray, List.set_cons_zero, List.set_cons_succ, i64_w, i32_w]
            rfl
          refine pure_ (i := 2) (N := some 72) (v := ?_) (a' := ?_) #[true, true, true, false, false, false, false, false, false, false, false] rfl rfl (by kernel_rfl) (fun _ _ _ h => h) (Or.inl ⟨by rfl, ?_⟩) ?_ ?_
          rotate_left
          · intro w'
            go_simp
            with_reducible rfl
          rotate_left
          · simp only [Act.put, List.setIfInBounds_toArray, List.set_cons_zero, List.set_cons_succ, i64_w, i32_w]
            rfl
          refine pure_ (i := 4) (N := some 74) (v := ?_) (a' := ?_) #[true, true, true, false, true, false, false, false, false, false, false] rfl rfl (by kernel_rfl) (fun _ _ _ h => h) (Or.inl ⟨by rfl, ?_⟩) ?_ ?_
          rotate_left
          · intro w'
            go_simp
            with_reducible rfl
          rotate_left
          · simp only [Act.put, List.setIfInBounds_toArray, List.set_cons_zero, List.set_cons_succ, i64_w, i32_w]
            rfl
          refine pure_ (i := 5) (N := some 75) (v := ?_) (a' := ?_) #[true, true, true, false, true, true, false, false, false, false, false] rfl rfl (by kernel_rfl) (fun _ _ _ h => h) (Or.inl ⟨by rfl, ?_⟩) ?_ ?_
          rotate_left
          · intro w'
            go_simp
            with_reducible rfl
          rotate_left
          · simp only [Act.put, List.setIfInBounds_toArray, List.set_cons_zero, List.set_cons_succ, i64_w, i32_w]
            rfl
          refine take_ (i := 3) (N := some 73) (v := ?_) (a' := ?_) #[true, true, true, true, true, true, false, false, false, false, false] rfl rfl (by kernel_rfl) (fun _ _ _ h => h) (Or.inl ⟨by rfl, ?_⟩) hHeld ?_ ?_
          rotate_left
          · rintro w' ⟨s0, s1⟩
            go_simp
            with_reducible rfl
          rotate_left
          · simp only [Act.put, List.setIfInBounds_toArray, List.set_cons_zero, List.set_cons_succ, i64_w, i32_w]
            rfl
          refine take_ (i := 6) (N := some 76) (v := ?_) (a' := ?_) #[true, true, true, true, true, true, true, false, false, false, false] rfl rfl (by kernel_rfl) (fun _ _ _ h => h) (Or.inl ⟨by rfl, ?_⟩) hHeld ?_ ?_
          rotate_left
          · rintro w' ⟨s0, s1⟩
            go_simp
            with_reducible rfl
          rotate_left
          · simp only [Act.put, List.setIfInBounds_toArray, List.set_cons_zero, List.set_cons_succ, i64_w, i32_w]
            rfl
          refine one_ (i := 7) (N := some 77) #[true, true, true, true, true, true, true, true, false, false, false] rfl rfl (by kernel_rfl) (by decide) (fun K hK => ?_)
          refine goes_ Try.func21 (by kernel_rfl) rfl #[.int .u8 (I8 b1)] (by rfl) rfl rfl (by simp only [List.map_toArray, List.map_cons, List.map_nil]; rfl) ?_
          have HO := Aside0.mk (Ow.drew HO.out)
          have HB1 := Aside0.mk (below_drew HB1.out)
          with_reducible refine (CS1.out.q _).mono ?_
          rintro e w21 ⟨rfl, hb21⟩
          refine ⟨_, rfl, ?_⟩
          have HO := Aside0.mk (Ow.below HO.out hb21)
          have HB1 := Aside0.mk (below_step HB1.out hb21)
          clear hb21
          clear hf
          have hf0 := (cellB HO.out 1 (by decide)).2
          have hf := show World.frozen? _ ⟨go, oo + 1, none⟩ = _ from hf0
          clear hf0
          refine hK.out _ _ ⟨(by have h := (cellB HO.out 1 (by decide)).1; rw [set_get _ 0 1 _ (by decide), QA1.out] at h; exact h), (by have h := (cellB HO.out 14 (by decide)).1; rw [set_get _ 0 14 _ (by decide), QB1.out] at h; exact h)⟩ (fun hHeld => ?_)
          clear hK K
          refine norm_ (a' := ?_) ?_ ?_
          rotate_left
          · show Act.put _ (some 77) _ = _
            simp only [Act.put, List.setIfInBounds_toArray, List.set_cons_zero, List.set_cons_succ, i64_w, i32_w]
            rfl
          refine pure_ (i := 8) (N := some 78) (v := ?_) (a' := ?_) #[true, true, true, true, true, true, true, true, true, false, false] rfl rfl (by kernel_rfl) (fun _ _ _ h => h) (Or.inl ⟨by rfl, ?_⟩) ?_ ?_
          rotate_left
          · intro w'
            go_simp
            with_reducible rfl
          rotate_left
          · simp only [Act.put, List.setIfInBounds_toArray, List.set_cons_zero, List.set_cons_succ, i64_w, i32_w]
            rfl
          refine pure_ (i := 9) (N := some 79) (v := ?_) (a' := ?_) #[true, true, true, true, true, true, true, true, true, true, false] rfl rfl (by kernel_rfl) (fun _ _ _ h => h) (Or.inl ⟨by rfl, ?_⟩) ?_ ?_
          rotate_left
          · intro w'
            go_simp
            with_reducible rfl
          rotate_left
          · simp only [Act.put, List.setIfInBounds_toArray, List.set_cons_zero, List.set_cons_succ, i64_w, i32_w]
            rfl
          refine last_ (i := 10) (N := none) #[true, true, true, true, true, true, true, true, true, true, true] rfl rfl (by kernel_rfl) (by decide) (fun K hK => ?_)
          refine skip_ (w1 := ?_) (by rfl) rfl ?_ ?_
          rotate_left
          · go_simp
            rfl
          refine hK.out _ _ ?_
          clear hK K
          refine done_ (by kernel_rfl) ?_
          clear hxa hxb hf z1
          obtain ⟨hO, hB⟩ := putB HO.out HB1.out 1 (by decide) (a1 ^^^ s1)
          have HO := Aside0.mk hO
          have HB1 := Aside0.mk hB
          clear hO hB
          go_wp2
          have z2 := xor8 a2 s2
          have hf := (cellB HO.out 2 (by decide)).2
          have hf := show World.frozen? _ ⟨go, oo + 2, none⟩ = _ from hf
          have hxa := (by have h := (cellB HO.out 2 (by decide)).1; rw [set_get _ 1 2 _ (by decide), set_get _ 0 2 _ (by decide), QA2.out] at h; exact h : World.cell? _ ⟨go, oo + 2, none⟩ = some (.int .u8 (I8 a2)))
          have hxa := show World.cell? _ ⟨go, oo + 2, none⟩ = some (.int .u8 (I8 a2)) from hxa
          have hxb := (by have h := (cellB HO.out 15 (by decide)).1; rw [set_get _ 1 15 _ (by decide), set_get _ 0 15 _ (by decide), QB2.out] at h; exact h : World.cell? _ ⟨go, oo + 15, none⟩ = some (.int .u8 (I8 b2)))
          have hxb := show World.cell? _ ⟨go, oo + 15, none⟩ = some (.int .u8 (I8 b2)) from hxb
          refine start_ (n := 11) (S := fun w' => w'.cell? ⟨go, oo + 2, none⟩ = some (.int .u8 (I8 a2)) ∧ w'.cell? ⟨go, oo + 15, none⟩ = some (.int .u8 (I8 b2))) (ds := [10]) #[false, false, false, false, false, false, false, false, false, false, false] (by kernel_rfl) rfl rfl ⟨hxa, hxb⟩ (fun hHeld => ?_)
          refine pure_ (i := 0) (N := some 80) (v := ?_) (a' := ?_) #[true, false, false, false, false, false, false, false, false, false, false] rfl rfl (by kernel_rfl) (fun _ _ _ h => h) (Or.inl ⟨by rfl, ?_⟩) ?_ ?_
          rotate_left
          · intro w'
            go_simp
            with_reducible rfl
          rotate_left
          · simp only [Act.put, List.setIfInBounds_toArray, List.set_cons_zero, List.set_cons_succ, i64_w, i32_w]
            rfl
          refine pure_ (i := 1) (N := some 81) (v := ?_) (a' := ?_) #[true, true, false, false, false, false, false, false, false, false, false] rfl rfl (by kernel_rfl) (fun _ _ _ h => h) (Or.inl ⟨by rfl, ?_⟩) ?_ ?_
          rotate_left
          · intro w'
            go_simp
            with_reducible rfl
          rotate_left
          · simp only [Act.put, List.setIfInBounds_toArray, List.set_cons_zero, List.set_cons_succ, i64_w, i32_w]
            rfl
          refine pure_ (i := 2) (N := some 82) (v := ?_) (a' := ?_) #[true, true, true, false, false, false, false, false, false, false, false] rfl rfl (by kernel_rfl) (fun _ _ _ h => h) (Or.inl ⟨by rfl, ?_⟩) ?_ ?_
          rotate_left
          · intro w'
            go_simp
            with_reducible rfl
          rotate_left
          · simp only [Act.put, List.setIfInBounds_toArray, List.set_cons_zero, List.set_cons_succ, i64_w, i32_w]
            rfl
          refine pure_ (i := 4) (N := some 84) (v := ?_) (a' := ?_) #[true, true, true, false, true, false, false, false, false, false, false] rfl rfl (by kernel_rfl) (fun _ _ _ h => h) (Or.inl ⟨by rfl, ?_⟩) ?_ ?_
          rotate_left
          · intro w'
            go_simp
            with_reducible rfl
          rotate_left
          · simp only [Act.put, List.setIfInBounds_toArray, List.set_cons_zero, List.set_cons_succ, i64_w, i32_w]
            rfl
          refine pure_ (i := 5) (N := some 85) (v := ?_) (a' := ?_) #[true, true, true, false, true, true, false, false, false, false, false] rfl rfl (by kernel_rfl) (fun _ _ _ h => h) (Or.inl ⟨by rfl, ?_⟩) ?_ ?_
          rotate_left
          · intro w'
            go_simp
            with_reducible rfl
          rotate_left
          · simp only [Act.put, List.setIfInBounds_toArray, List.set_cons_zero, List.set_cons_succ, i64_w, i32_w]
            rfl
          refine take_ (i := 3) (N := some 83) (v := ?_) (a' := ?_) #[true, true, true, true, true, true, false, false, false, false, false] rfl rfl (by kernel_rfl) (fun _ _ _ h => h) (Or.inl ⟨by rfl, ?_⟩) hHeld ?_ ?_
          rotate_left
          · rintro w' ⟨s0, s1⟩
            go_simp
            with_reducible rfl
          rotate_left
          · simp only [Act.put, List.setIfInBounds_toArray, List.set_cons_zero, List.set_cons_succ, i64_w, i32_w]
            rfl
          refine take_ (i := 6) (N := some 86) (v := ?_) (a' := ?_) #[true, true, true, true, true, true, true, false, false, false, false] rfl rfl (by kernel_rfl) (fun _ _ _ h => h) (Or.inl ⟨by rfl, ?_⟩) hHeld ?_ ?_
          rotate_left
          · rintro w' ⟨s0, s1⟩
            go_simp
            with_reducible rfl
          rotate_left
          · simp only [Act.put, List.setIfInBounds_toArray, List.set_cons_zero, List.set_cons_succ, i64_w, i32_w]
            rfl
          refine one_ (i := 7) (N := some 87) #[true, true, true, true, true, true, true, true, false, false, false] rfl rfl (by kernel_rfl) (by decide) (fun K hK => ?_)
          refine goes_ Try.func21 (by kernel_rfl) rfl #[.int .u8 (I8 b2)] (by rfl) rfl rfl (by simp only [List.map_toArray, List.map_cons, List.map_nil]; rfl) ?_
          have HO := Aside0.mk (Ow.drew HO.out)
          have HB1 := Aside0.mk (below_drew HB1.out)
          with_reducible refine (CS2.out.q _).mono ?_
          rintro e w22 ⟨rfl, hb22⟩
          refine ⟨_, rfl, ?_⟩
          have HO := Aside0.mk (Ow.below HO.out hb22)
          have HB1 := Aside0.mk (below_step HB1.out hb22)
          clear hb22
          clear hf
          have hf0 := (cellB HO.out 2 (by decide)).2
          have hf := show World.frozen? _ ⟨go, oo + 2, none⟩ = _ from hf0
          clear hf0
          refine hK.out _ _ ⟨(by have h := (cellB HO.out 2 (by decide)).1; rw [set_get _ 1 2 _ (by decide), set_get _ 0 2 _ (by decide), QA2.out] at h; exact h), (by have h := (cellB HO.out 15 (by decide)).1; rw [set_get _ 1 15 _ (by decide), set_get _ 0 15 _ (by decide), QB2.out] at h; exact h)⟩ (fun hHeld => ?_)
          clear hK K
          refine norm_ (a' := ?_) ?_ ?_
          rotate_left
          · show Act.put _ (some 87) _ = _
            simp only [Act.put, List.setIfInBounds_toArray, List.set_cons_zero, List.set_cons_succ, i64_w, i32_w]
            rfl
          refine pure_ (i := 8) (N := some 88) (v := ?_) (a' := ?_) #[true, true, true, true, true, true, true, true, true, false, false] rfl rfl (by kernel_rfl) (fun _ _ _ h => h) (Or.inl ⟨by rfl, ?_⟩) ?_ ?_
          rotate_left
          · intro w'
            go_simp
            with_reducible rfl
          rotate_left
          · simp only [Act.put, List.setIfInBounds_toArray, List.set_cons_zero, List.set_cons_succ, i64_w, i32_w]
            rfl
          refine pure_ (i := 9) (N := some 89) (v := ?_) (a' := ?_) #[true, true, true, true, true, true, true, true, true, true, false] rfl rfl (by kernel_rfl) (fun _ _ _ h => h) (Or.inl ⟨by rfl, ?_⟩) ?_ ?_
          rotate_left
          · intro w'
            go_simp
            with_reducible rfl
          rotate_left
          · simp only [Act.put, List.setIfInBounds_toArray, List.set_cons_zero, List.set_cons_succ, i64_w, i32_w]
            rfl
          refine last_ (i := 10) (N := none) #[true, true, true, true, true, true, true, true, true, true, true] rfl rfl (by kernel_rfl) (by decide) (fun K hK => ?_)
          refine skip_ (w1 := ?_) (by rfl) rfl ?_ ?_
          rotate_left
          · go_simp
            rfl
          refine hK.out _ _ ?_
          clear hK K
          refine done_ (by kernel_rfl) ?_
          clear hxa hxb hf z2
          obtain ⟨hO, hB⟩ := putB HO.out HB1.out 2 (by decide) (a2 ^^^ s2)
          have HO := Aside0.mk hO
          have HB1 := Aside0.mk hB
          clear hO hB
          go_wp2
          have z3 := xor8 a3 s3
          have hf := (cellB HO.out 3 (by decide)).2
          have hf := show World.frozen? _ ⟨go, oo + 3, none⟩ = _ from hf
          have hxa := (by have h := (cellB HO.out 3 (by decide)).1; rw [set_get _ 2 3 _ (by decide), set_get _ 1 3 _ (by decide), set_get _ 0 3 _ (by decide), QA3.out] at h; exact h : World.cell? _ ⟨go, oo + 3, none⟩ = some (.int .u8 (I8 a3)))
          have hxa := show World.cell? _ ⟨go, oo + 3, none⟩ = some (.int .u8 (I8 a3)) from hxa
          have hxb := (by have h := (cellB HO.out 12 (by decide)).1; rw [set_get _ 2 12 _ (by decide), set_get _ 1 12 _ (by decide), set_get _ 0 12 _ (by decide), QB3.out] at h; exact h : World.cell? _ ⟨go, oo + 12, none⟩ = some (.int .u8 (I8 b3)))
          have hxb := show World.cell? _ ⟨go, oo + 12, none⟩ = some (.int .u8 (I8 b3)) from hxb
          refine start_ (n := 11) (S := fun w' => w'.cell? ⟨go, oo + 3, none⟩ = some (.int .u8 (I8 a3)) ∧ w'.cell? ⟨go, oo + 12, none⟩ = some (.int .u8 (I8 b3))) (ds := [10]) #[false, false, false, false, false, false, false, false, false, false, false] (by kernel_rfl) rfl rfl ⟨hxa, hxb⟩ (fun hHeld => ?_)
          refine pure_ (i := 0) (N := some 90) (v := ?_) (a' := ?_) #[true, false, false, false, false, false, false, false, false, false, false] rfl rfl (by kernel_rfl) (fun _ _ _ h => h) (Or.inl ⟨by rfl, ?_⟩) ?_ ?_
          rotate_left
          · intro w'
            go_simp
            with_reducible rfl
          rotate_left
          · simp only [Act.put, List.setIfInBounds_toArray, List.set_cons_zero, List.set_cons_succ, i64_w, i32_w]
            rfl
          refine pure_ (i := 1) (N := some 91) (v := ?_) (a' := ?_) #[true, true, false, false, false, false, false, false, false, false, false] rfl rfl (by kernel_rfl) (fun _ _ _ h => h) (Or.inl ⟨by rfl, ?_⟩) ?_ ?_
          rotate_left
          · intro w'
            go_simp
            with_reducible rfl
          rotate_left
          · simp only [Act.put, List.setIfInBounds_toArray, List.set_cons_zero, List.set_cons_succ, i64_w, i32_w]
            rfl
          refine pure_ (i := 2) (N := some 92) (v := ?_) (a' := ?_) #[true, true, true, false, false, false, false, false, false, false, false] rfl rfl (by kernel_rfl) (fun _ _ _ h => h) (Or.inl ⟨by rfl, ?_⟩) ?_ ?_
          rotate_left
          · intro w'
            go_simp
            with_reducible rfl
          rotate_left
          · simp only [Act.put, List.setIfInBounds_toArray, List.set_cons_zero, List.set_cons_succ, i64_w, i32_w]
            rfl
          refine pure_ (i := 4) (N := some 94) (v := ?_) (a' := ?_) #[true, true, true, false, true, false, false, false, false, false, false] rfl rfl (by kernel_rfl) (fun _ _ _ h => h) (Or.inl ⟨by rfl, ?_⟩) ?_ ?_
          rotate_left
          · intro w'
            go_simp
            with_reducible rfl
          rotate_left
          · simp only [Act.put, List.setIfInBounds_toArray, List.set_cons_zero, List.set_cons_succ, i64_w, i32_w]
            rfl
          refine pure_ (i := 5) (N := some 95) (v := ?_) (a' := ?_) #[true, true, true, false, true, true, false, false, false, false, false] rfl rfl (by kernel_rfl) (fun _ _ _ h => h) (Or.inl ⟨by rfl, ?_⟩) ?_ ?_
          rotate_left
          · intro w'
            go_simp
            with_reducible rfl
          rotate_left
          · simp only [Act.put, List.setIfInBounds_toArray, List.set_cons_zero, List.set_cons_succ, i64_w, i32_w]
            rfl
          refine take_ (i := 3) (N := some 93) (v := ?_) (a' := ?_) #[true, true, true, true, true, true, false, false, false, false, false] rfl rfl (by kernel_rfl) (fun _ _ _ h => h) (Or.inl ⟨by rfl, ?_⟩) hHeld ?_ ?_
          rotate_left
          · rintro w' ⟨s0, s1⟩
            go_simp
            with_reducible rfl
          rotate_left
          · simp only [Act.put, List.setIfInBounds_toArray, List.set_cons_zero, List.set_cons_succ, i64_w, i32_w]
            rfl
          refine take_ (i := 6) (N := some 96) (v := ?_) (a' := ?_) #[true, true, true, true, true, true, true, false, false, false, false] rfl rfl (by kernel_rfl) (fun _ _ _ h => h) (Or.inl ⟨by rfl, ?_⟩) hHeld ?_ ?_
          rotate_left
          · rintro w' ⟨s0, s1⟩
            go_simp
            with_reducible rfl
          rotate_left
          · simp only [Act.put, List.setIfInBounds_toArray, List.set_cons_zero, List.set_cons_succ, i64_w, i32_w]
            rfl
          refine one_ (i := 7) (N := some 97) #[true, true, true, true, true, true, true, true, false, false, false] rfl rfl (by kernel_rfl) (by decide) (fun K hK => ?_)
          refine goes_ Try.func21 (by kernel_rfl) rfl #[.int .u8 (I8 b3)] (by rfl) rfl rfl (by simp only [List.map_toArray, List.map_cons, List.map_nil]; rfl) ?_
          have HO := Aside0.mk (Ow.drew HO.out)
          have HB1 := Aside0.mk (below_drew HB1.out)
          with_reducible refine (CS3.out.q _).mono ?_
          rintro e w23 ⟨rfl, hb23⟩
          refine ⟨_, rfl, ?_⟩
          have HO := Aside0.mk (Ow.below HO.out hb23)
          have HB1 := Aside0.mk (below_step HB1.out hb23)
          clear hb23
          clear hf
          have hf0 := (cellB HO.out 3 (by decide)).2
          have hf := show World.frozen? _ ⟨go, oo + 3, none⟩ = _ from hf0
          clear hf0
          refine hK.out _ _ ⟨(by have h := (cellB HO.out 3 (by decide)).1; rw [set_get _ 2 3 _ (by decide), set_get _ 1 3 _ (by decide), set_get _ 0 3 _ (by decide), QA3.out] at h; exact h), (by have h := (cellB HO.out 12 (by decide)).1; rw [set_get _ 2 12 _ (by decide), set_get _ 1 12 _ (by decide), set_get _ 0 12 _ (by decide), QB3.out] at h; exact h)⟩ (fun hHeld => ?_)
          clear hK K
          refine norm_ (a' := ?_) ?_ ?_
          rotate_left
          · show Act.put _ (some 97) _ = _
            simp only [Act.put, List.setIfInBounds_toArray, List.set_cons_zero, List.set_cons_succ, i64_w, i32_w]
            rfl
          refine pure_ (i := 8) (N := some 98) (v := ?_) (a' := ?_) #[true, true, true, true, true, true, true, true, true, false, false] rfl rfl (by kernel_rfl) (fun _ _ _ h => h) (Or.inl ⟨by rfl, ?_⟩) ?_ ?_
          rotate_left
          · intro w'
            go_simp
            with_reducible rfl
          rotate_left
          · simp only [Act.put, List.setIfInBounds_toArray, List.set_cons_zero, List.set_cons_succ, i64_w, i32_w]
            rfl
          refine pure_ (i := 9) (N := some 99) (v := ?_) (a' := ?_) #[true, true, true, true, true, true, true, true, true, true, false] rfl rfl (by kernel_rfl) (fun _ _ _ h => h) (Or.inl ⟨by rfl, ?_⟩) ?_ ?_
          rotate_left
          · intro w'
            go_simp
            with_reducible rfl
          rotate_left
          · simp only [Act.put, List.setIfInBounds_toArray, List.set_cons_zero, List.set_cons_succ, i64_w, i32_w]
            rfl
          refine last_ (i := 10) (N := none) #[true, true, true, true, true, true, true, true, true, true, true] rfl rfl (by kernel_rfl) (by decide) (fun K hK => ?_)
          refine skip_ (w1 := ?_) (by rfl) rfl ?_ ?_
          rotate_left
          · go_simp
            rfl
          refine hK.out _ _ ?_
          clear hK K
          refine done_ (by kernel_rfl) ?_
          clear hxa hxb hf z3
          obtain ⟨hO, hB⟩ := putB HO.out HB1.out 3 (by decide) (a3 ^^^ s3)
          have HO := Aside0.mk hO
          have HB1 := Aside0.mk hB
          clear hO hB
          clear hr0
          go_wp2
          go_roundg k1
          case measure => omega
          case rel => exact ⟨r1, HRK.out, by have h1 := HRK.out; have h2 := HR.out; have h3 := HRM.out; omega, by first | rfl | rw [e1] | rw [e2], ⟨by rw [← HST.out]; exact HO.out⟩, HB1⟩
        | succ k2 =>
          have hj16 : 3 < j ∧ j < 16 := by omega
          have HJ := Aside0.mk hj
          have HJ15 := Aside0.mk (show j - 1 ≤ 15 by omega)
          clear hj15
          have hfj := (cellB HO.out j hj16.2).2
          have hxj := (cellB HO.out j hj16.2).1
          have hx4 := (cellB HO.out (j - 4) (by omega)).1
          have HS := Aside0.mk (stepB_set R j (by omega) hj16.2)
          obtain ⟨d1, d2, d3⟩ := j64 j (by omega) 4 4 rfl (by omega)
          obtain ⟨e1, e2, e3⟩ := j64 j (by omega) 1 1 rfl (by omega)
          obtain ⟨f1, f2⟩ := jb j hj16.2
          obtain ⟨g1, g2⟩ := jb (j - 4) (by omega)
          have hj4 : (4 : Int) ≤ (j : Int) := by omega
          have HJ16 := Aside0.mk hj16
          obtain ⟨j1, hj1⟩ : ∃ z, z = j - 1 := ⟨_, rfl⟩
          rw [← hj1] at e1 e2 HS HJ15
          have HJ1 := Aside0.mk (show j1 = 3 + k2 from by omega)
          generalize j - 4 = j4 at *
          obtain ⟨X, hX⟩ : ∃ z, z = stepB R j := ⟨_, rfl⟩
          rw [← hX] at HO HS hxj hx4
          obtain ⟨a, ha⟩ : ∃ z, z = X.getD j 0#8 := ⟨_, rfl⟩
          obtain ⟨b, hb⟩ : ∃ z, z = X.getD j4 0#8 := ⟨_, rfl⟩
          rw [← ha] at hxj HS
          rw [← hb] at hx4 HS
          have z1 := xor8 a b
          clear hj hj16 hj1 hX ha hb d3 e3 hr0 HSTEP HRR HRL
          go_wp2
          refine start_ (n := 14) (S := fun w' => w'.cell? ⟨go, oo + j, none⟩ = some (.int .u8 (I8 a)) ∧ w'.cell? ⟨go, oo + j4, none⟩ = some (.int .u8 (I8 b))) (ds := [13]) #[false, false, false, false, false, false, false, false, false, false, false, false, false, false] (by kernel_rfl) rfl rfl ⟨hxj, hx4⟩ (fun hHeld => ?_)
          refine pure_ (i := 0) (N := some 44) (v := ?_) (a' := ?_) #[true, false, false, false, false, false, false, false, false, false, false, false, false, false] rfl rfl (by kernel_rfl) (fun _ _ _ h => h) (Or.inl ⟨by rfl, ?_⟩) ?_ ?_
          rotate_left
          · intro w'
            go_simp
            with_reducible rfl
          rotate_left
          · simp only [Act.put, List.setIfInBounds_toArray, List.set_cons_zero, List.set_cons_succ, i64_w, i32_w]
            rfl
          refine pure_ (i := 1) (N := some 45) (v := ?_) (a' := ?_) #[true, true, false, false, false, false, false, false, false, false, false, false, false, false] rfl rfl (by kernel_rfl) (fun _ _ _ h => h) (Or.inl ⟨by rfl, ?_⟩) ?_ ?_
          rotate_left
          · intro w'
            go_simp
            with_reducible rfl
          rotate_left
          · simp only [Act.put, List.setIfInBounds_toArray, List.set_cons_zero, List.set_cons_succ, i64_w, i32_w]
            rfl
          refine pure_ (i := 2) (N := some 46) (v := ?_) (a' := ?_) #[true, true, true, false, false, false, false, false, false, false, false, false, false, false] rfl rfl (by kernel_rfl) (fun _ _ _ h => h) (Or.inl ⟨by rfl, ?_⟩) ?_ ?_
          rotate_left
          · intro w'
            go_simp
            with_reducible rfl
          rotate_left
          · simp only [Act.put, List.setIfInBounds_toArray, List.set_cons_zero, List.set_cons_succ, i64_w, i32_w]
            rfl
          refine pure_ (i := 3) (N := some 47) (v := ?_) (a' := ?_) #[true, true, true, true, false, false, false, false, false, false, false, false, false, false] rfl rfl (by kernel_rfl) (fun _ _ _ h => h) (Or.inl ⟨by rfl, ?_⟩) ?_ ?_
          rotate_left
          · intro w'
            go_simp
            with_reducible rfl
          rotate_left
          · simp only [Act.put, List.setIfInBounds_toArray, List.set_cons_zero, List.set_cons_succ, i64_w, i32_w]
            rfl
          refine pure_ (i := 4) (N := some 48) (v := ?_) (a' := ?_) #[true, true, true, true, true, false, false, false, false, false, false, false, false, false] rfl rfl (by kernel_rfl) (fun _ _ _ h => h) (Or.inl ⟨by rfl, ?_⟩) ?_ ?_
          rotate_left
          · intro w'
            go_simp
            with_reducible rfl
          rotate_left
          · simp only [Act.put, List.setIfInBounds_toArray, List.set_cons_zero, List.set_cons_succ, i64_w, i32_w]
            rfl
          refine pure_ (i := 6) (N := some 50) (v := ?_) (a' := ?_) #[true, true, true, true, true, false, true, false, false, false, false, false, false, false] rfl rfl (by kernel_rfl) (fun _ _ _ h => h) (Or.inl ⟨by rfl, ?_⟩) ?_ ?_
          rotate_left
          · intro w'
            go_simp
            with_reducible rfl
          rotate_left
          · simp only [Act.put, List.setIfInBounds_toArray, List.set_cons_zero, List.set_cons_succ, i64_w, i32_w]
            rfl
          refine pure_ (i := 7) (N := some 51) (v := ?_) (a' := ?_) #[true, true, true, true, true, false, true, true, false, false, false, false, false, false] rfl rfl (by kernel_rfl) (fun _ _ _ h => h) (Or.inl ⟨by rfl, ?_⟩) ?_ ?_
          rotate_left
          · intro w'
            go_simp
            with_reducible rfl
          rotate_left
          · simp only [Act.put, List.setIfInBounds_toArray, List.set_cons_zero, List.set_cons_succ, i64_w, i32_w]
            rfl
          refine pure_ (i := 8) (N := some 52) (v := ?_) (a' := ?_) #[true, true, true, true, true, false, true, true, true, false, false, false, false, false] rfl rfl (by kernel_rfl) (fun _ _ _ h => h) (Or.inl ⟨by rfl, ?_⟩) ?_ ?_
          rotate_left
          · intro w'
            go_simp
            with_reducible rfl
          rotate_left
          · simp only [Act.put, List.setIfInBounds_toArray, List.set_cons_zero, List.set_cons_succ, i64_w, i32_w]
            rfl
          refine pure_ (i := 9) (N := some 53) (v := ?_) (a' := ?_) #[true, true, true, true, true, false, true, true, true, true, false, false, false, false] rfl rfl (by kernel_rfl) (fun _ _ _ h => h) (Or.inl ⟨by rfl, ?_⟩) ?_ ?_
          rotate_left
          · intro w'
            go_simp
            with_reducible rfl
          rotate_left
          · simp only [Act.put, List.setIfInBounds_toArray, List.set_cons_zero, List.set_cons_succ, i64_w, i32_w]
            rfl
          refine take_ (i := 5) (N := some 49) (v := ?_) (a' := ?_) #[true, true, true, true, true, true, true, true, true, true, false, false, false, false] rfl rfl (by kernel_rfl) (fun _ _ _ h => h) (Or.inl ⟨by rfl, ?_⟩) hHeld ?_ ?_
          rotate_left
          · rintro w' ⟨s0, s1⟩
            go_simp
            with_reducible rfl
          rotate_left
          · simp only [Act.put, List.setIfInBounds_toArray, List.set_cons_zero, List.set_cons_succ, i64_w, i32_w]
            rfl
          refine take_ (i := 10) (N := some 54) (v := ?_) (a' := ?_) #[true, true, true, true, true, true, true, true, true, true, true, false, false, false] rfl rfl (by kernel_rfl) (fun _ _ _ h => h) (Or.inl ⟨by rfl, ?_⟩) hHeld ?_ ?_
          rotate_left
          · rintro w' ⟨s0, s1⟩
            go_simp
            with_reducible rfl
          rotate_left
          · simp only [Act.put, List.setIfInBounds_toArray, List.set_cons_zero, List.set_cons_succ, i64_w, i32_w]
            rfl
          refine pure_ (i := 11) (N := some 55) (v := ?_) (a' := ?_) #[true, true, true, true, true, true, true, true, true, true, true, true, false, false] rfl rfl (by kernel_rfl) (fun _ _ _ h => h) (Or.inl ⟨by rfl, ?_⟩) ?_ ?_
          rotate_left
          · intro w'
            go_simp
            with_reducible rfl
          rotate_left
          · simp only [Act.put, List.setIfInBounds_toArray, List.set_cons_zero, List.set_cons_succ, i64_w, i32_w]
            rfl
          refine pure_ (i := 12) (N := some 56) (v := ?_) (a' := ?_) #[true, true, true, true, true, true, true, true, true, true, true, true, true, false] rfl rfl (by kernel_rfl) (fun _ _ _ h => h) (Or.inl ⟨by rfl, ?_⟩) ?_ ?_
          rotate_left
          · intro w'
            go_simp
            with_reducible rfl
          rotate_left
          · simp only [Act.put, List.setIfInBounds_toArray, List.set_cons_zero, List.set_cons_succ, i64_w, i32_w]
            rfl
          refine last_ (i := 13) (N := none) #[true, true, true, true, true, true, true, true, true, true, true, true, true, true] rfl rfl (by kernel_rfl) (by decide) (fun K hK => ?_)
          refine skip_ (w1 := ?_) (by rfl) rfl ?_ ?_
          rotate_left
          · go_simp
            rfl
          refine hK.out _ _ ?_
          clear hK K
          refine done_ (by kernel_rfl) ?_
          clear hxj hx4 hfj z1 f1 f2 g1 g2 d1 d2
          obtain ⟨hO, hB⟩ := putB (Ow.drew HO.out) (below_drew HB1.out) j HJ16.out.2 (a ^^^ b)
          have HO := Aside0.mk hO
          have HB1 := Aside0.mk hB
          clear hO hB
          go_wp2
          go_roundg k2
          case measure => omega
          case rel => exact ⟨j1, HJ1.out, HJ15.out, by first | rfl | rw [e1] | rw [e2], ⟨by rw [← HS.out]; exact HO.out⟩, HB1⟩
end Go.Proofs.Ytpdikfmdnlhllaa.Aes
namespace Go.Proofs.Ytpdikfmdnlhllaa.Aes
open Go.RowKit Go.Proofs.Ytpdikfmdnlhllaa.PNib Go.Proofs.YtpdikfmdnlhllaaW.PrintWords Byte Sl Arr Mem Gives ArrEq Mat AesMath
theorem kback_walk (l0 : List Int) (p : Int) (w : World) (n0 : l0.length = 16) (w0 : ∀ x ∈ l0, (Lit.int .u8 x).wf = true) (hp : (Lit.int .u8 p).wf = true) :
    Calls Try.prog 4 #[arrV .u8 l0, .int .u8 p] w fun e w' => e = .returned (.bool true) ∧ Below w.heap.size w w' := by
  obtain ⟨k, rfl⟩ := ib_of (fun x hx => wf_u8 (w0 x hx))
  obtain ⟨q, rfl⟩ := byte_of hp
  rw [ib_length] at n0
  rw [arrV_eq]
  exact klaw_ k n0 q w
end Go.Proofs.Ytpdikfmdnlhllaa.Aes
