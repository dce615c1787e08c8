/-
  The document's Bit, Apply, Columns and Mul, and Mul of mat, walked.
-/
import Derived.Test.YtphdlidaigalkaaMatB
namespace Go.Proofs.Ytphdlidaigalkaa.Mat
open Go.RowKit Go.Proofs.YtphdlidaigalkaaW.PrintWords Go.Proofs.YtphdlidaigalkaaW.PrintLast Go.Proofs.YtphdlidaigalkaaW.PrintMore Byte Sl Arr Mem Gives ArrEq
set_option linter.unusedVariables false
set_option linter.unusedSimpArgs false
set_option maxHeartbeats 4000000
set_option maxRecDepth 100000
/-- The first n bits, summed. -/
def xorTo (g : Nat → Bool) : Nat → Bool
  | 0 => false
  | n + 1 => xorTo g n ^^ g n
theorem par_eq (v : BitVec 8) : par v = xorTo (fun j => v.getLsbD j) 8 := by simp [par, xorTo]
theorem I8_mod2' (a : BitVec 8) : (I8 a % 2 == 1) = a.getLsbD 0 := by revert a; decide +kernel
theorem wrapu (j : Nat) (h : j < 256) : IntKind.u64.wrap (j : Int) = (j : Int) := wrap_u64_nat j (by omega)
theorem bit_c (f : Rows) (i j : Nat) (hi : i < 8) (hj : j < 8) : GivesB 95 #[matV f, .int .i64 i, .int .i64 j] (.bool ((f i).getLsbD j)) := by
  intro w
  rw [matV_eq]
  have M1 := Aside0.mk (Mem.new .u8 w 67 (cells8 f))
  have HB := Aside0.mk (below_alloc (Below.refl w.heap.size w) (.cells (cellsOf .u8 (cells8 f)) 67))
  have hx := M1.out.cell i (by rw [cells8_length]; exact hi)
  rw [cells8_get _ _ hi] at hx
  have hm := I8_mod2' (f i >>> j)
  rw [shr_bit] at hm
  have hs := shr8 (f i) j
  have hlo := I8_lo (f i >>> j)
  have ht : Int.tmod (I8 (f i >>> j)) 2 = I8 (f i >>> j) % 2 := Int.tmod_eq_emod_of_nonneg hlo
  have h1 : (i : Int) < 8 := by omega
  have h3 : (0 : Int) ≤ (i : Int) := by omega
  have h4 : (j : Int) < 8 := by omega
  have h5 : (j : Int) ≤ 8 := by omega
  have h6 : (0 : Int) ≤ (j : Int) := by omega
  generalize hb : (f i).getLsbD j = b at *
  clear hb
  generalize f i >>> j = s at *
  go_enter Try.func95, Try.ntmps95
  go_wp2
  go_ret
  exact ⟨rfl, HB.out⟩
theorem ofB_add (g : Nat → Bool) (i : Nat) (hi : i < 8) : (I8 (ofB g i) + I8 (1#8 <<< i)) % 256 = I8 (ofB g i ||| 1#8 <<< i) := by
  have h : ofB g i &&& 1#8 <<< i = 0#8 := ext8 fun k hk => by
    rw [BitVec.getLsbD_and, ofB_bit g i (by omega), BitVec.getLsbD_shiftLeft]
    by_cases h : k < i
    · simp [h]
    · simp [h]
  rw [← BitVec.add_eq_or_of_and_eq_zero _ _ h]
  unfold I8
  rw [BitVec.toNat_add]
  rfl
theorem ofB_yes (g : Nat → Bool) (i : Nat) (h : g i = true) : ofB g (i + 1) = ofB g i ||| 1#8 <<< i := by rw [ofB, h]; rfl
theorem ofB_no (g : Nat → Bool) (i : Nat) (h : g i = false) : ofB g (i + 1) = ofB g i := by rw [ofB, h]; simp
theorem rapp_c (f : Rows) (x : BitVec 8) : GivesB 43 #[matV f, .int .u8 (I8 x)] (.int .u8 (I8 (app f x))) := by
  intro w
  rw [matV_eq]
  have M1 := Aside0.mk (Mem.new .u8 w 67 (cells8 f))
  have HB := Aside0.mk (below_alloc (Below.refl w.heap.size w) (.cells (cellsOf .u8 (cells8 f)) 67))
  go_enter Try.func43, Try.ntmps43
  go_wp2
  go_loopg [5, 6] 8 (fun kq o q w' => ∃ i : Nat, i + kq = 8 ∧ o = .int .u8 (I8 (ofB (fun i => par (f i &&& x)) i)) ∧ q = .int .i64 i ∧ Aside0 (Mem .u8 w' w.heap.size 67 (cells8 f)) ∧ Aside0 (Below w.heap.size w w'))
  case atStart => exact ⟨0, by omega, rfl, rfl, M1, HB⟩
  case round =>
    clear M1 HB
    obtain ⟨i, hi, rfl, rfl, M1, HB⟩ := hrel
    cases gk with
    | zero =>
      obtain rfl : i = 8 := by omega
      go_wp2
      go_ret
      exact ⟨rfl, HB.out⟩
    | succ k1 =>
      have hil : i < 8 := by omega
      have HI := Aside0.mk hi
      clear hi
      have hi1 : (i : Int) < 8 := by omega
      have hi2 : (i : Int) ≤ 8 := by omega
      have hi3 : (0 : Int) ≤ (i : Int) := by omega
      have hiw := wrapu i (by omega)
      go_wp2
      go_loopg [7, 8] 8 (fun kq o q w' => ∃ j : Nat, j + kq = 8 ∧ o = .bool (xorTo (fun j => (f i &&& x).getLsbD j) j) ∧ q = .int .i64 j ∧ Aside0 (Mem .u8 w' w.heap.size 67 (cells8 f)) ∧ Aside0 (Below w.heap.size w w'))
      case atStart => exact ⟨0, by omega, rfl, rfl, M1, HB⟩
      case round =>
        clear M1 HB
        obtain ⟨j, hj, rfl, rfl, M1, HB⟩ := hrel
        cases gk with
        | zero =>
          obtain rfl : j = 8 := by omega
          have hp := par_eq (f i &&& x)
          have hs1 := shl1 i
          have ha := ofB_add (fun i => par (f i &&& x)) i hil
          rcases Bool.eq_false_or_eq_true (par (f i &&& x)) with hb | hb
          · have hy := Aside0.mk (ofB_yes (fun i => par (f i &&& x)) i hb)
            rw [← hp, hb]
            clear hp hb
            generalize ofB (fun i => par (f i &&& x)) i = n at *
            go_wp2
            go_roundg k1
            case measure => omega
            case rel => exact ⟨i + 1, by have := HI.out; omega, by rw [hy.out], by go_num, M1, HB⟩
          · have hy := Aside0.mk (ofB_no (fun i => par (f i &&& x)) i hb)
            rw [← hp, hb]
            clear hp hb ha hs1
            generalize ofB (fun i => par (f i &&& x)) i = n at *
            go_wp2
            go_roundg k1
            case measure => omega
            case rel => exact ⟨i + 1, by have := HI.out; omega, by rw [hy.out], by go_num, M1, HB⟩
        | succ k2 =>
          have hjl : j < 8 := by omega
          have HJ := Aside0.mk hj
          clear hj
          have hj1 : (j : Int) < 8 := by omega
          have hj2 : (j : Int) ≤ 8 := by omega
          have hj3 : (0 : Int) ≤ (j : Int) := by omega
          have hjw := wrapu j (by omega)
          have HC := Aside0.mk (bit_c f i j hil hjl)
          rw [matV_eq] at HC
          have HV := Aside0.mk (show xorTo (fun j => (f i &&& x).getLsbD j) (j + 1) = (xorTo (fun j => (f i &&& x).getLsbD j) j ^^ ((f i).getLsbD j && x.getLsbD j)) by rw [xorTo, BitVec.getLsbD_and])
          have hs := shr8 x j
          have hm := I8_mod2 (x >>> j)
          rw [shr_bit] at hm
          have hlo := I8_lo (x >>> j)
          generalize x >>> j = s at *
          generalize x.getLsbD j = b2 at *
          generalize (f i).getLsbD j = b1 at *
          generalize xorTo (fun j => (f i &&& x).getLsbD j) j = o at *
          cases b1 with
          | false =>
            clear hm hs hlo
            go_wp2_with (first
              | ((with_reducible refine gate_dst (N := 17) rfl ?_); refine Mem.load M1.out rfl 67 (.tmp 2) rfl rfl Try.underlying67 (by rw [cells8_length]; exact info_mat) ?_)
              | (go_at_call 95; (with_reducible refine (HC.out.q _).mono ?_); rintro e w1 ⟨rfl, hb1⟩; have M1 := Aside0.mk (Mem.below M1.out hb1); have HB := Aside0.mk (below_step HB.out hb1)))
            go_roundg k2
            case measure => omega
            case rel => exact ⟨j + 1, by have := HJ.out; omega, by rw [HV.out]; simp, by go_num, M1, HB⟩
          | true =>
            have ht : Int.tmod (I8 s) 2 = I8 s % 2 := Int.tmod_eq_emod_of_nonneg hlo
            have hm2 : I8 s % 2 = if b2 then 1 else 0 := by
              cases b2
              · have : ¬ I8 s % 2 = 1 := by rw [hm]; decide
                rw [if_neg (by decide)]; omega
              · have : I8 s % 2 = 1 := by rw [hm]
                rw [if_pos rfl]; exact this
            clear hm
            cases b2 with
            | false =>
              have hm3 : I8 s % 2 = 0 := hm2
              clear hm2
              go_wp2_with (first
                | ((with_reducible refine gate_dst (N := 17) rfl ?_); refine Mem.load M1.out rfl 67 (.tmp 2) rfl rfl Try.underlying67 (by rw [cells8_length]; exact info_mat) ?_)
                | (go_at_call 95; (with_reducible refine (HC.out.q _).mono ?_); rintro e w1 ⟨rfl, hb1⟩; have M1 := Aside0.mk (Mem.below M1.out hb1); have HB := Aside0.mk (below_step HB.out hb1)))
              go_roundg k2
              case measure => omega
              case rel => exact ⟨j + 1, by have := HJ.out; omega, by rw [HV.out]; simp, by go_num, M1, HB⟩
            | true =>
              have hm3 : I8 s % 2 = 1 := hm2
              clear hm2
              go_wp2_with (first
                | ((with_reducible refine gate_dst (N := 17) rfl ?_); refine Mem.load M1.out rfl 67 (.tmp 2) rfl rfl Try.underlying67 (by rw [cells8_length]; exact info_mat) ?_)
                | (go_at_call 95; (with_reducible refine (HC.out.q _).mono ?_); rintro e w1 ⟨rfl, hb1⟩; have M1 := Aside0.mk (Mem.below M1.out hb1); have HB := Aside0.mk (below_step HB.out hb1)))
              go_roundg k2
              case measure => omega
              case rel => exact ⟨j + 1, by have := HJ.out; omega, by rw [HV.out]; simp, by go_num, M1, HB⟩
theorem flipTo_no (f : Rows) (i j : Nat) (hj : j < 8) (hb : (f i).getLsbD j = false) : cells8 (flipTo f i (j + 1)) = cells8 (flipTo f i j) := cells8_congr fun k hk => by
  unfold flipTo
  by_cases h : k = j
  · subst h
    rw [if_pos (by omega), if_neg (by omega)]; exact ofB_no (fun i => (f i).getLsbD k) i hb
  · by_cases h2 : k < j
    · rw [if_pos h2, if_pos (by omega)]
    · rw [if_neg h2, if_neg (by omega)]
theorem flipTo_yes (f : Rows) (i j : Nat) (hi : i < 8) (hj : j < 8) (hb : (f i).getLsbD j = true) : (cells8 (flipTo f i j)).set j ((I8 (flipTo f i j j) + I8 (1#8 <<< i)) % 256) = cells8 (flipTo f i (j + 1)) := by
  have e : flipTo f i j j = ofB (fun i => (f i).getLsbD j) i := by unfold flipTo; rw [if_neg (by omega)]
  have := flipTo_set f i j hj
  rw [hb, e] at this
  rw [e, ofB_add _ _ hi]
  exact this
theorem rcolumns_c (f : Rows) : GivesB 88 #[matV f] (matV (flipF f)) := by
  intro w
  rw [matV_eq]
  have M1 := Aside0.mk (Mem.alloc (Mem.alloc (Mem.new .u8 w 66 (cells8 f)) (.cells (cellsOf .u8 (cells8 zrow)) 67)) (.cells (cellsOf .u8 (cells8 zrow)) 67))
  have M2 := Aside0.mk (Mem.alloc (Mem.new2 .u8 w (.cells (cellsOf .u8 (cells8 f)) 66) 67 (cells8 zrow)) (.cells (cellsOf .u8 (cells8 zrow)) 67))
  have M3 := Aside0.mk (Mem.new3 .u8 w (.cells (cellsOf .u8 (cells8 f)) 66) (.cells (cellsOf .u8 (cells8 zrow)) 67) 67 (cells8 zrow))
  have HB := Aside0.mk (below_alloc (below_alloc (below_alloc (Below.refl w.heap.size w) (.cells (cellsOf .u8 (cells8 f)) 66)) (.cells (cellsOf .u8 (cells8 zrow)) 67)) (.cells (cellsOf .u8 (cells8 zrow)) 67))
  go_enter Try.func88, Try.ntmps88
  go_wp2_with (first
    | ((with_reducible refine gate_dst (N := 6) rfl ?_); refine wpList_build_zero rfl 67 rfl _ built8 ?_)
    | ((with_reducible refine gate_store (t := 67) (p := 3) rfl ?_); refine Mem.store (l' := cells8 zrow) M3.out rfl 67 (.tmp 3) (.tmp 6) rfl rfl rfl (by rw [cells8_length]; exact info_mat) (by simp only [cells8_length]) ?_))
  have N1 := Aside0.mk (Mem.row M1.out (g' := w.heap.size + 2) (by omega) (cellsOf .u8 (cells8 zrow)))
  have N2 := Aside0.mk (Mem.row M2.out (g' := w.heap.size + 2) (by omega) (cellsOf .u8 (cells8 zrow)))
  have N3 := Aside0.mk (Mem.put M3.out (cells8 zrow))
  have NB := Aside0.mk (below_setRow HB.out (g := w.heap.size + 2) (by omega) (cellsOf .u8 (cells8 zrow)))
  clear M1 M2 M3 HB
  go_loopg [4] 8 (fun kq i w' => ∃ j : Nat, j + kq = 8 ∧ i = .int .i64 j ∧ Aside0 (Mem .u8 w' w.heap.size 66 (cells8 f)) ∧ Aside0 (Mem .u8 w' (w.heap.size + 1) 67 (cells8 zrow)) ∧ Aside0 (Mem .u8 w' (w.heap.size + 2) 67 (cells8 (flipTo f j 0))) ∧ Aside0 (Below w.heap.size w w'))
  case atStart => exact ⟨0, by omega, rfl, N1, N2, ⟨by rw [flipTo_zero]; exact N3.out⟩, NB⟩
  case round =>
    clear N1 N2 N3 NB
    obtain ⟨i, hi, rfl, M1, M2, M3, HB⟩ := hrel
    cases gk with
    | zero =>
      obtain rfl : i = 8 := by omega
      rw [flipTo_end] at M3
      go_wp2_with (first
        | ((with_reducible refine gate_dst (N := 32) rfl ?_); refine Mem.load M3.out rfl 67 (.tmp 3) rfl rfl Try.underlying67 (by rw [cells8_length]; exact info_mat) ?_)
        | ((with_reducible refine gate_store (t := 67) (p := 2) rfl ?_); refine Mem.store (l' := cells8 (flipF f)) M2.out rfl 67 (.tmp 2) (.tmp 32) rfl rfl rfl (by rw [cells8_length]; exact info_mat) (by simp only [cells8_length]) ?_))
      refine bodyPost_ret (v := .agg (cellsOf .u8 (cells8 (flipF f)))) (results_cell_row rfl _ _ _ _ _ _ _ rfl (Mem.put M2.out (cells8 (flipF f))) Try.underlying67 rfl (by rw [cellsOf_size, cells8_length]; exact info_mat)) rfl ⟨rfl, below_setRow HB.out (by omega) _⟩
    | succ k1 =>
      have hil : i < 8 := by omega
      have HI := Aside0.mk hi
      clear hi
      have hb1 : (i : Int) < 8 := by omega
      have hb2 : (i : Int) ≤ 8 := by omega
      have hb3 : (0 : Int) ≤ (i : Int) := by omega
      have hiw := wrapu i (by omega)
      go_wp2
      go_loopg [5] 8 (fun kq q w' => ∃ j : Nat, j + kq = 8 ∧ q = .int .i64 j ∧ Aside0 (Mem .u8 w' w.heap.size 66 (cells8 f)) ∧ Aside0 (Mem .u8 w' (w.heap.size + 1) 67 (cells8 zrow)) ∧ Aside0 (Mem .u8 w' (w.heap.size + 2) 67 (cells8 (flipTo f i j))) ∧ Aside0 (Below w.heap.size w w'))
      case atStart => exact ⟨0, by omega, rfl, M1, M2, M3, HB⟩
      case round =>
        clear M1 M2 M3 HB
        obtain ⟨j, hj, rfl, M1, M2, M3, HB⟩ := hrel
        cases gk with
        | zero =>
          obtain rfl : j = 8 := by omega
          go_wp2
          go_roundg k1
          case measure => omega
          case rel => exact ⟨i + 1, by have := HI.out; omega, by go_num, M1, M2, ⟨by rw [← flipTo_next]; exact M3.out⟩, HB⟩
        | succ k2 =>
          have hjl : j < 8 := by omega
          have HJ := Aside0.mk hj
          clear hj
          have hc := M1.out.cell i (by rw [cells8_length]; exact hil)
          rw [cells8_get _ _ hil] at hc
          have hj1 : (j : Int) < 8 := by omega
          have hj2 : (j : Int) ≤ 8 := by omega
          have hj3 : (0 : Int) ≤ (j : Int) := by omega
          have hjw := wrapu j (by omega)
          have hs := shr8 (f i) j
          have hm := I8_mod2' (f i >>> j)
          rw [shr_bit] at hm
          have hlo := I8_lo (f i >>> j)
          have ht : Int.tmod (I8 (f i >>> j)) 2 = I8 (f i >>> j) % 2 := Int.tmod_eq_emod_of_nonneg hlo
          clear hlo
          rcases Bool.eq_false_or_eq_true ((f i).getLsbD j) with hb | hb
          · have HV := Aside0.mk (flipTo_yes f i j hil hjl hb)
            have hx := M3.out.cell j (by rw [cells8_length]; exact hjl)
            rw [cells8_get _ _ hjl] at hx
            have hf := M3.out.free j
            have hs1 := shl1 i
            rw [hb] at hm
            clear hb
            generalize flipTo f i j j = row at *
            have e2 : (I8 row + I8 (1#8 <<< i)) % 256 = (I8 row + 2 ^ i) % 256 := by rw [← hs1]; generalize (2 : Int) ^ i = z; omega
            rw [e2] at HV
            clear hs1 e2
            generalize f i >>> j = s at *
            go_wp2
            go_roundg k2
            case measure => omega
            case rel => exact ⟨j + 1, by have := HJ.out; omega, by go_num, ⟨Mem.other M1.out (g' := w.heap.size + 2) (by omega) _ _⟩, ⟨Mem.other M2.out (g' := w.heap.size + 2) (by omega) _ _⟩, ⟨by rw [← HV.out]; exact Mem.set M3.out _ _⟩, ⟨below_set HB.out (by omega)⟩⟩
          · have HV := Aside0.mk (flipTo_no f i j hjl hb)
            rw [hb] at hm
            clear hb
            generalize f i >>> j = s at *
            go_wp2
            go_roundg k2
            case measure => omega
            case rel => exact ⟨j + 1, by have := HJ.out; omega, by go_num, M1, M2, ⟨by rw [HV.out]; exact M3.out⟩, HB⟩
end Go.Proofs.Ytphdlidaigalkaa.Mat
