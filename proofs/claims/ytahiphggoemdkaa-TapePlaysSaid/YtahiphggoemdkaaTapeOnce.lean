/-
  The law of the tape that is drawn once, walked: for any words, and any number.
-/
import Derived.Test.YtahiphggoemdkaaTape
namespace Go.Proofs.Ytahiphggoemdkaa.Tape
open Go.RowKit Go.Proofs.YtahiphggoemdkaaW.PrintWords Go.Proofs.YtahiphggoemdkaaW.PrintLast Go.Proofs.YtahiphggoemdkaaW.PrintMore Sl Gives
set_option linter.unusedVariables false
set_option linter.unusedSimpArgs false
set_option maxHeartbeats 4000000
set_option maxRecDepth 100000
theorem Sl.at {w : World} {A : Option Addr} {c : Nat} {l : List Int} (h : Sl .u64 w (.slice A l.length c) l) (i : Nat) (hi : i < l.length) : ∃ ad, A = some ad ∧ w.cell? (ad.add i) = some (.int .u64 (l.getD i 0)) := by
  obtain ⟨ad, c', hv, hx⟩ := Sl.cell h i hi
  injection hv with e1
  exact ⟨ad, e1, hx⟩
theorem awake_c (w : World) : Calls Try.prog 62 #[] w fun e w' => e = .returned (.bool true) ∧ Below w.heap.size w w' := by
  have hS : Sl .u64 (w.alloc (.cells #[.int .u64 7] 27)) (.slice (some ⟨w.heap.size, 0, none⟩) 1 1) [7] := Sl.of_cells (k := .u64) (ad := ⟨w.heap.size, 0, none⟩) (c := 1) (l := [7]) (by decide) (by decide) (by
    intro j x hj
    cases j with
    | zero =>
      have hr : (w.alloc (.cells #[.int .u64 7] 27)).heap[w.heap.size]? = some (.cells #[.int .u64 7] 27 (0, 0)) := by
        show (w.heap.push _)[w.heap.size]? = _
        rw [Array.getElem?_push_size]
      have hx : x = 7 := by simpa using hj.symm
      subst hx
      exact cell_of_row _ w.heap.size 0 _ _ _ hr
    | succ j => simp at hj)
  have HB := Aside0.mk (below_alloc (Below.refl w.heap.size w) (.cells #[.int .u64 7] 27))
  have C1 := Aside0.mk (new_c _ [7] _ hS (by decide))
  clear hS
  go_enter Try.func62, Try.ntmps62
  go_wp2_with (first
    | (go_at_call 58; (with_reducible refine (C1.out).mono ?_); rintro e w1 ⟨v', g, rfl, hg, hA, hS, hW, hb⟩; obtain ⟨A, c, rfl, hle, hC⟩ := hS; have HA := Aside0.mk hA; have HS : Aside0 (Sl .u64 w1 (.slice A [(7 : Int)].length c) [7]) := ⟨⟨A, c, rfl, hle, hC⟩⟩; have HG := Aside0.mk (Nat.le_trans HB.out.size hg); have HB := Aside0.mk (below_step HB.out hb); have HW := Aside0.mk hW; have D1 := Aside0.mk (reserve_c (u := 0) 2 hA (by decide) (by decide)); clear hg hA hW hb hle hC)
    | (go_at_call 59; (with_reducible refine D1.out.mono ?_); rintro e w2 ⟨rfl, hch, hA⟩; have HB := Aside0.mk (hch.below HB.out HB.out.size HG.out); have HS := Aside0.mk (Sl_keep HS.out HW.out hch); have D2 := Aside0.mk (reserve_c (u := 0) 1 hA (by decide) (by decide)); clear hch hA D1)
    | (go_at_call 59; (with_reducible refine D2.out.mono ?_); rintro e w3 ⟨rfl, hch, hA⟩; have HB := Aside0.mk (hch.below HB.out HB.out.size HG.out); have HS := Aside0.mk (Sl_keep HS.out HW.out hch); obtain ⟨ad, rfl, hx⟩ := Sl.at HS.out 0 (by decide); have D3 := Aside0.mk (draw_yes (u := 0) hA (by decide) (by decide) (by decide) (by decide) hx (HW.out _ _ _ rfl (by decide))); clear hch hA hx D2)
    | (go_at_call 63; (with_reducible refine D3.out.mono ?_); rintro e w4 ⟨rfl, hch, hA⟩; have HB := Aside0.mk (hch.below HB.out HB.out.size HG.out); have D4 := Aside0.mk (draw_no (u := 1) hA (by decide) (by decide) (Or.inr (by decide))); clear hch hA D3)
    | (go_at_call 63; (with_reducible refine D4.out.mono ?_); rintro e w5 ⟨rfl, ⟨n5, rfl⟩⟩; have HB := Aside0.mk (pw_below_drewN HB.out n5); clear D4))
  go_ret
  exact ⟨rfl, HB.out⟩
theorem once_ (A : Option Addr) (c : Nat) (zs : List Int) (n : Int) (w : World) (h0 : Sl .u64 w (.slice A zs.length c) zs) (hl : zs.length * 8 ≤ 140737488351232) : Calls Try.prog 12 #[.slice A zs.length c, .int .i64 n] w fun e w' => e = .returned (.bool true) ∧ Below w.heap.size w w' := by
  have C1 := Aside0.mk (new_c _ zs w h0 hl)
  have HL := Aside0.mk (show zs.length ≤ 140737488351232 by omega)
  have HB := Aside0.mk (Below.refl w.heap.size w)
  have H0 := Aside0.mk h0
  clear h0 hl
  by_cases hn : n < 0
  · have b1 : decide (n < 0) = true := decide_eq_true hn
    have b2 : decide (n > (zs.length : Int)) = false := decide_eq_false (by omega)
    go_enter Try.func12, Try.ntmps12
    go_wp2_with (first
      | (go_at_call 58; (with_reducible refine (C1.out).mono ?_); rintro e w1 ⟨v', g, rfl, hg, hA, hS, hW, hb⟩; obtain ⟨A', c', rfl, hle, hC⟩ := hS; have HA := Aside0.mk hA; have HS : Aside0 (Sl .u64 w1 (.slice A' zs.length c') zs) := ⟨⟨A', c', rfl, hle, hC⟩⟩; have HG := Aside0.mk hg; have HB := Aside0.mk (below_step HB.out hb); have HW := Aside0.mk hW; clear hg hA hW hb hle hC C1)
      | (go_at_call 59; (with_reducible refine (reserve_c (u := 0) n HA.out (Nat.zero_le _) HL.out).mono ?_); rintro e w2 ⟨rfl, hch, hA2⟩; have HB := Aside0.mk (hch.below HB.out HB.out.size HG.out); have HS := Aside0.mk (Sl_keep HS.out HW.out hch); simp only [hn, if_true] at hA2 ⊢; have HA := Aside0.mk hA2; clear hch hA2)
      | (go_at_call 60; (with_reducible refine (left_c (u := 0) HA.out (Nat.zero_le _) HL.out).mono ?_); rintro e w3 ⟨rfl, ⟨n3, rfl⟩⟩; have HB := Aside0.mk (pw_below_drewN HB.out n3); have HA := Aside0.mk (At.drewN HA.out n3))
      | (go_at_call 61; (with_reducible refine (allowed_c HA.out).mono ?_); rintro e w4 ⟨rfl, rfl⟩)
      | (go_at_call 62; (with_reducible refine (awake_c _).mono ?_); rintro e w5 ⟨rfl, hb5⟩; have HB := Aside0.mk (below_step HB.out hb5)))
    go_ret
    exact ⟨rfl, HB.out⟩
  · by_cases hm : n > (zs.length : Int)
    · have b1 : decide (n < 0) = false := decide_eq_false hn
      have b2 : decide (n > (zs.length : Int)) = true := decide_eq_true hm
      have hm' : n > ((zs.length - 0 : Nat) : Int) := hm
      go_enter Try.func12, Try.ntmps12
      go_wp2_with (first
        | (go_at_call 58; (with_reducible refine (C1.out).mono ?_); rintro e w1 ⟨v', g, rfl, hg, hA, hS, hW, hb⟩; obtain ⟨A', c', rfl, hle, hC⟩ := hS; have HA := Aside0.mk hA; have HS : Aside0 (Sl .u64 w1 (.slice A' zs.length c') zs) := ⟨⟨A', c', rfl, hle, hC⟩⟩; have HG := Aside0.mk hg; have HB := Aside0.mk (below_step HB.out hb); have HW := Aside0.mk hW; clear hg hA hW hb hle hC C1)
        | (go_at_call 59; (with_reducible refine (reserve_c (u := 0) n HA.out (Nat.zero_le _) HL.out).mono ?_); rintro e w2 ⟨rfl, hch, hA2⟩; have HB := Aside0.mk (hch.below HB.out HB.out.size HG.out); have HS := Aside0.mk (Sl_keep HS.out HW.out hch); simp only [hn, hm', if_true, if_false] at hA2 ⊢; have HA := Aside0.mk hA2; clear hch hA2)
        | (go_at_call 60; (with_reducible refine (left_c (u := 0) HA.out (Nat.zero_le _) HL.out).mono ?_); rintro e w3 ⟨rfl, ⟨n3, rfl⟩⟩; have HB := Aside0.mk (pw_below_drewN HB.out n3); have HA := Aside0.mk (At.drewN HA.out n3))
        | (go_at_call 61; (with_reducible refine (allowed_c HA.out).mono ?_); rintro e w4 ⟨rfl, rfl⟩)
        | (go_at_call 62; (with_reducible refine (awake_c _).mono ?_); rintro e w5 ⟨rfl, hb5⟩; have HB := Aside0.mk (below_step HB.out hb5)))
      go_ret
      exact ⟨rfl, HB.out⟩
    · obtain ⟨m, rfl⟩ : ∃ m : Nat, n = m := ⟨n.toNat, by omega⟩
      have b1 : decide ((m : Int) < 0) = false := decide_eq_false hn
      have b2 : decide ((m : Int) > (zs.length : Int)) = false := decide_eq_false hm
      have hm' : ¬ (m : Int) > ((zs.length - 0 : Nat) : Int) := hm
      have hml : m ≤ zs.length := by omega
      have b7 : decide (zs.length < m) = false := decide_eq_false (by omega)
      have HN := Aside0.mk hn
      have HM2 := Aside0.mk hm'
      clear hn hm hm'
      go_enter Try.func12, Try.ntmps12
      go_wp2_with (first
        | (go_at_call 58; (with_reducible refine (C1.out).mono ?_); rintro e w1 ⟨v', g, rfl, hg, hA, hS, hW, hb⟩; obtain ⟨A', c', rfl, hle, hC⟩ := hS; have HA := Aside0.mk hA; have HS : Aside0 (Sl .u64 w1 (.slice A' zs.length c') zs) := ⟨⟨A', c', rfl, hle, hC⟩⟩; have HG := Aside0.mk hg; have HB := Aside0.mk (below_step HB.out hb); have HW := Aside0.mk hW; clear hg hA hW hb hle hC C1)
        | (go_at_call 59; (with_reducible refine (reserve_c (u := 0) (m : Int) HA.out (Nat.zero_le _) HL.out).mono ?_); rintro e w2 ⟨rfl, hch, hA2⟩; have HB := Aside0.mk (hch.below HB.out HB.out.size HG.out); have HS := Aside0.mk (Sl_keep HS.out HW.out hch); have e1 : ¬ (m : Int) < 0 := (by omega); have e2 : ¬ (m : Int) > ((zs.length - 0 : Nat) : Int) := (by omega); rw [if_neg e1, if_neg e2] at hA2; rw [if_neg e1, if_neg e2]; clear e1 e2; have HA := Aside0.mk hA2; clear hch hA2))
      go_loopg [7] (min m 3000) (fun kq i w' => ∃ j : Nat, j + kq = min m 3000 ∧ i = .int .i64 j ∧ Aside0 (At w' g (.slice A' zs.length c') j ((m : Int) - (j : Int))) ∧ Aside0 (Sl .u64 w' (.slice A' zs.length c') zs) ∧ Aside0 (Below w.heap.size w w'))
      case atStart => exact ⟨0, by omega, rfl, ⟨by simpa using HA.out⟩, HS, HB⟩
      case round =>
        clear HA HS HB
        obtain ⟨j, hj, rfl, HA, HS, HB⟩ := hrel
        cases gk with
        | zero =>
          by_cases h3 : m ≤ 3000
          · obtain rfl : j = m := by omega
            have b3 : decide ((j : Int) < (j : Int)) = false := decide_eq_false (by omega)
            have b4 : decide ((j : Int) > 3000) = false := decide_eq_false (by omega)
            have f1 : IntKind.i64.wrap ((zs.length : Int) - (j : Int)) = ((zs.length - j : Nat) : Int) := by rw [IntKind.wrap_i64]; have := HL.out; omega
            have f2 : wrap64 ((zs.length : Int) - (j : Int)) = ((zs.length - j : Nat) : Int) := by unfold wrap64; have := HL.out; omega
            have HM := Aside0.mk hml
            go_wp2_with (first
              | (go_at_call 63; (with_reducible refine (draw_no (u := j) HA.out HM.out HL.out (Or.inl (by omega))).mono ?_); rintro e w6 ⟨rfl, ⟨n6, rfl⟩⟩)
              | (go_at_call 64; (with_reducible refine (used_c (At.drewN HA.out n6)).mono ?_); rintro e w4 ⟨rfl, rfl⟩)
              | (go_at_call 60; (with_reducible refine (left_c (u := j) (At.drewN HA.out n6) HM.out HL.out).mono ?_); rintro e w3 ⟨rfl, ⟨n3, rfl⟩⟩)
              | (go_at_call 62; (with_reducible refine (awake_c _).mono ?_); rintro e w5 ⟨rfl, hb5⟩; have HB := Aside0.mk (below_step (pw_below_drewN HB.out (n6 + n3)) hb5)))
            go_ret
            exact ⟨rfl, HB.out⟩
          · obtain rfl : j = 3000 := by omega
            have b3 : decide ((3000 : Int) < (m : Int)) = true := decide_eq_true (by omega)
            have b4 : decide ((m : Int) > 3000) = true := decide_eq_true (by omega)
            go_wp2_with (first
              | (go_at_call 62; (with_reducible refine (awake_c _).mono ?_); rintro e w5 ⟨rfl, hb5⟩; have HB := Aside0.mk (below_step HB.out hb5)))
            go_ret
            exact ⟨rfl, HB.out⟩
        | succ k1 =>
          have hjm : j < m := by omega
          have hj3 : j < 3000 := by omega
          have hjl : j < zs.length := by omega
          have HJ := Aside0.mk hj
          clear hj
          have b3 : decide ((j : Int) < (m : Int)) = true := decide_eq_true (by omega)
          have b4 : decide ((j : Int) < 3000) = true := decide_eq_true (by omega)
          have b5 : (j : Int) < (zs.length : Int) := by omega
          have b6 : (0 : Int) ≤ (j : Int) := by omega
          obtain ⟨ad, rfl, hx⟩ := Sl.at HS.out j hjl
          obtain ⟨ad0, rfl, hx0⟩ := Sl.at H0.out j hjl
          have HX0 := Aside0.mk hx0
          have D1 := Aside0.mk (draw_yes (u := j) HA.out hjl HL.out (by omega) (by have := HL.out; omega) hx (HW.out _ _ _ rfl (by omega)))
          clear hx hx0
          generalize zs.getD j 0 = x at *
          go_wp2_with (first
            | (go_at_call 63; (with_reducible refine D1.out.mono ?_); rintro e w6 ⟨rfl, hch, hA6⟩; have HB := Aside0.mk (hch.below HB.out HB.out.size HG.out); have HS := Aside0.mk (Sl_keep HS.out HW.out hch); have HA := Aside0.mk hA6; have hy := pw_cell_below HB.out HX0.out; clear hch hA6 D1))
          go_roundg k1
          case measure => omega
          case rel => exact ⟨j + 1, by have := HJ.out; omega, by go_num, ⟨by have := HA.out; rwa [show (m : Int) - ((j + 1 : Nat) : Int) = (m : Int) - (j : Int) - 1 by omega]⟩, HS, HB⟩
theorem once_walk (a : Option Addr) (len cap : Nat) (z : List Int) (n : Int) (w : World) (h : Go.Proofs.Ytahiphggoemdkaa.Slices.IsRow .u64 w a len cap z) (y : len * 8 ≤ 140737488351232) (_ : (Lit.int .i64 n).wf = true) : Calls Try.prog 12 #[.slice a len cap, .int .i64 n] w fun e w' => e = .returned (.bool true) ∧ Below w.heap.size w w' := by
  obtain ⟨h1, h2, h3⟩ := h.sl
  have := once_ a cap (z.take len) n w (by rw [h2]; exact h1) (by rw [h2]; exact y)
  rwa [h2] at this
end Go.Proofs.Ytahiphggoemdkaa.Tape
