/-
  The document's Inv, and Kernel and Pow of mat, walked.
-/
import Derived.Test.YtphdlidaigalkaaMatG
namespace Go.Proofs.Ytphdlidaigalkaa.Mat
open Go.RowKit Go.Proofs.YtphdlidaigalkaaW.PrintWords Go.Proofs.YtphdlidaigalkaaW.PrintLast Go.Proofs.YtphdlidaigalkaaW.PrintMore Byte Sl Arr Mem Gives ArrEq
set_option linter.unusedVariables false
set_option linter.unusedSimpArgs false
set_option maxHeartbeats 4000000
set_option maxRecDepth 100000
/-- g is what the document's inverse is to be. -/
structure RInvOf (f g : Rows) (ok : Bool) : Prop where
  yes : ok = true → ∀ y, app f (app g y) = y
  no : ok = false → cells8 g = cells8 zrow ∧ ∃ j, j < 8 ∧ ∀ x, app f x ≠ 1#8 <<< j
theorem col_app (c : Rows) (j : Nat) (hj : j < 8) : app (flipF c) (1#8 <<< j) = c j := flip_app c j hj
theorem rinv_yes (f c : Rows) (h : ∀ k, k < 8 → app f (c k) = 1#8 <<< k) : RInvOf f (flipF c) true where
  yes _ y := app_of_units (F := fun y => app f (app (flipF c) y)) (fun x y => by simp only [app_xor]) (fun j hj => by rw [col_app c j hj]; exact h j hj) y
  no h := by cases h
theorem all_byt {P : BitVec 8 → Prop} (h : ∀ n, n < 256 → P (byt n)) (x : BitVec 8) : P x := by
  have := h x.toNat x.isLt
  rwa [byt_toNat] at this
theorem put_at (c : Rows) (j : Nat) (x : BitVec 8) : put c j x j = x := by simp [put]
theorem put_ne (c : Rows) (j k : Nat) (x : BitVec 8) (h : k ≠ j) : put c j x k = c k := by simp [put, h]
theorem rinv_c (f : Rows) (w : World) : Calls Try.prog 89 #[matV f] w fun e w' => ∃ g ok, e = .returned (.tuple #[matV g, .bool ok]) ∧ RInvOf f g ok ∧ Below w.heap.size w w' := by
  rw [matV_eq]
  have M1 := Aside0.mk (Mem.alloc (Mem.alloc (Mem.new .u8 w 67 (cells8 f)) (.cells (cellsOf .u8 (cells8 zrow)) 67)) (.cells (cellsOf .u8 (cells8 zrow)) 66))
  have M2 := Aside0.mk (Mem.alloc (Mem.new2 .u8 w (.cells (cellsOf .u8 (cells8 f)) 67) 67 (cells8 zrow)) (.cells (cellsOf .u8 (cells8 zrow)) 66))
  have M3 := Aside0.mk (Mem.new3 .u8 w (.cells (cellsOf .u8 (cells8 f)) 67) (.cells (cellsOf .u8 (cells8 zrow)) 67) 66 (cells8 zrow))
  have HB := Aside0.mk (below_alloc (below_alloc (below_alloc (Below.refl w.heap.size w) (.cells (cellsOf .u8 (cells8 f)) 67)) (.cells (cellsOf .u8 (cells8 zrow)) 67)) (.cells (cellsOf .u8 (cells8 zrow)) 66))
  go_enter Try.func89, Try.ntmps89
  go_wp2_with (first
    | ((with_reducible refine gate_dst (N := 8) rfl ?_); refine wpList_build_zero rfl 66 rfl _ built8c ?_)
    | ((with_reducible refine gate_store (t := 66) (p := 4) rfl ?_); refine Mem.store (l' := cells8 zrow) M3.out rfl 66 (.tmp 4) (.tmp 8) rfl rfl rfl (by rw [cells8_length]; exact info_c8) (by simp only [cells8_length]) ?_))
  have N1 := Aside0.mk (Mem.row M1.out (g' := w.heap.size + 2) (by omega) (cellsOf .u8 (cells8 zrow)))
  have N2 := Aside0.mk (Mem.row M2.out (g' := w.heap.size + 2) (by omega) (cellsOf .u8 (cells8 zrow)))
  have N3 := Aside0.mk (Mem.put M3.out (cells8 zrow))
  have NB := Aside0.mk (below_setRow HB.out (g := w.heap.size + 2) (by omega) (cellsOf .u8 (cells8 zrow)))
  clear M1 M2 M3 HB
  go_loopg [5] 8 (fun kq jv w' => ∃ (j : Nat) (c : Rows), j + kq = 8 ∧ jv = .int .i64 j ∧ Aside0 (∀ k, k < j → app f (c k) = 1#8 <<< k) ∧ Aside0 (Mem .u8 w' w.heap.size 67 (cells8 f)) ∧ Aside0 (Mem .u8 w' (w.heap.size + 1) 67 (cells8 zrow)) ∧ Aside0 (Mem .u8 w' (w.heap.size + 2) 66 (cells8 c)) ∧ Aside0 (Below w.heap.size w w'))
  case atStart => exact ⟨0, zrow, by omega, rfl, ⟨fun k hk => absurd hk (by omega)⟩, N1, N2, N3, NB⟩
  case round =>
    clear N1 N2 N3 NB
    obtain ⟨j, c, hj, rfl, HU, M1, M2, M3, HB⟩ := hrel
    cases gk with
    | zero =>
      obtain rfl : j = 8 := by omega
      have HC := Aside0.mk (rcolumns_c c)
      rw [matV_eq, matV_eq] at HC
      go_wp2_with (first
        | ((with_reducible refine gate_dst (N := 32) rfl ?_); refine Mem.load M3.out rfl 66 (.tmp 4) rfl rfl Try.underlying66 (by rw [cells8_length]; exact info_c8) ?_)
        | (go_at_call 88; (with_reducible refine (HC.out.q _).mono ?_); rintro e w1 ⟨rfl, hb1⟩; have M2 := Aside0.mk (Mem.below M2.out hb1); have HB := Aside0.mk (below_step HB.out hb1))
        | ((with_reducible refine gate_store (t := 67) (p := 2) rfl ?_); refine Mem.store (l' := cells8 (flipF c)) M2.out rfl 67 (.tmp 2) (.tmp 33) rfl rfl rfl (by rw [cells8_length]; exact info_mat) (by simp only [cells8_length]) ?_))
      refine bodyPost_ret (results_ct rfl _ _ _ _ _ _ _ rfl (Mem.put M2.out (cells8 (flipF c))) Try.underlying67 rfl (by rw [cellsOf_size, cells8_length]; exact info_mat)) rfl ⟨flipF c, true, rfl, rinv_yes f c HU.out, below_setRow HB.out (by omega) _⟩
    | succ k1 =>
      have hjl : j < 8 := by omega
      have HJ := Aside0.mk hj
      clear hj
      have hj1 : (j : Int) < 8 := by omega
      have hj2 : (j : Int) ≤ 8 := by omega
      have hj3 : (0 : Int) ≤ (j : Int) := by omega
      have hjw := wrapu j (by omega)
      go_wp2
      go_loopg [6, 7] 256 (fun kq bv xv w' => ∃ (x : Nat) (b : Bool) (c : Rows), x + kq = 256 ∧ bv = .bool b ∧ xv = .int .i64 x ∧ Aside0 ((b = true → app f (c j) = 1#8 <<< j) ∧ (b = false → ∀ n, n < x → app f (byt n) ≠ 1#8 <<< j)) ∧ Aside0 (∀ k, k < j → app f (c k) = 1#8 <<< k) ∧ Aside0 (Mem .u8 w' w.heap.size 67 (cells8 f)) ∧ Aside0 (Mem .u8 w' (w.heap.size + 1) 67 (cells8 zrow)) ∧ Aside0 (Mem .u8 w' (w.heap.size + 2) 66 (cells8 c)) ∧ Aside0 (Below w.heap.size w w'))
      case atStart => exact ⟨0, false, c, by omega, rfl, rfl, ⟨fun h => (by cases h), fun _ n hn => absurd hn (by omega)⟩, HU, M1, M2, M3, HB⟩
      case round =>
        clear M1 M2 M3 HB HU
        obtain ⟨x, b, c, hx, rfl, rfl, HF, HU, M1, M2, M3, HB⟩ := hrel
        cases gk with
        | zero =>
          obtain rfl : x = 256 := by omega
          cases b with
          | true =>
            go_wp2
            go_roundg k1
            case measure => omega
            case rel => exact ⟨j + 1, c, by have := HJ.out; omega, by go_num, ⟨fun k hk => by
              rcases Nat.lt_or_ge k j with h | h
              · exact HU.out k h
              · obtain rfl : k = j := by omega
                exact HF.out.1 (by first | exact rfl | trivial)⟩, M1, M2, M3, HB⟩
          | false =>
            go_wp2_with (first
              | ((with_reducible refine gate_dst (N := 31) rfl ?_); refine wpList_build_zero rfl 67 rfl _ built8 ?_)
              | ((with_reducible refine gate_store (t := 67) (p := 2) rfl ?_); refine Mem.store (l' := cells8 zrow) M2.out rfl 67 (.tmp 2) (.tmp 31) rfl rfl rfl (by rw [cells8_length]; exact info_mat) (by simp only [cells8_length]) ?_))
            refine bodyPost_ret (results_ct rfl _ _ _ _ _ _ _ rfl (Mem.put M2.out (cells8 zrow)) Try.underlying67 rfl (by rw [cellsOf_size, cells8_length]; exact info_mat)) rfl ?_
            have hfin : RInvOf f zrow false := ⟨fun h => (by cases h), fun _ => ⟨rfl, j, hjl, all_byt (HF.out.2 (by first | exact rfl | trivial))⟩⟩
            have hbel := below_setRow HB.out (g := w.heap.size + 1) (by omega) (cellsOf .u8 (cells8 zrow))
            first
              | exact ⟨zrow, false, rfl, hfin, hbel⟩
              | exact ⟨zrow, .inl ⟨rfl, hfin, hbel⟩⟩
        | succ k2 =>
          have hxl : x < 256 := by omega
          have HX := Aside0.mk hx
          clear hx
          have hx1 : (x : Int) < 256 := by omega
          have hx3 : (0 : Int) ≤ (x : Int) := by omega
          have hw := wrap_u8_nat x hxl
          have HC := Aside0.mk (rapp_c f (byt x))
          rw [matV_eq, byt_I8 x hxl] at HC
          have hs1 := shl1 j
          have HIX := Aside0.mk (byt_I8 x hxl)
          by_cases e : app f (byt x) = 1#8 <<< j
          · have HE := Aside0.mk e
            rw [e] at HC
            clear e
            generalize hu : 1#8 <<< j = u at *
            clear hu
            go_wp2_with (first
              | ((with_reducible refine gate_dst (N := 17) rfl ?_); refine Mem.load M1.out rfl 67 (.tmp 1) rfl rfl Try.underlying67 (by rw [cells8_length]; exact info_mat) ?_)
              | (go_at_call 43; (with_reducible refine (HC.out.q _).mono ?_); rintro e w1 ⟨rfl, hb1⟩; have M1 := Aside0.mk (Mem.below M1.out hb1); have M2 := Aside0.mk (Mem.below M2.out hb1); have M3 := Aside0.mk (Mem.below M3.out hb1); have HB := Aside0.mk (below_step HB.out hb1); have hc := M3.out.cell j (by rw [cells8_length]; exact hjl); have hf := M3.out.free j))
            go_roundg k2
            case measure => omega
            case rel => exact ⟨x + 1, true, put c j (byt x), by have := HX.out; omega, rfl, by go_num, ⟨fun _ => by rw [put_at]; exact HE.out, fun h => by cases h⟩, ⟨fun k hk => by rw [put_ne _ _ _ _ (by omega)]; exact HU.out k hk⟩, ⟨Mem.other M1.out (g' := w.heap.size + 2) (by omega) _ _⟩, ⟨Mem.other M2.out (g' := w.heap.size + 2) (by omega) _ _⟩, ⟨by rw [← cells8_set c j hjl, HIX.out]; exact Mem.set M3.out _ _⟩, ⟨below_set HB.out (by omega)⟩⟩
          · have HE := Aside0.mk e
            have hne : (I8 (app f (byt x)) == I8 (1#8 <<< j)) = false := by
              rw [beq_eq_false_iff_ne]
              exact fun h => e (I8_inj h)
            clear e
            obtain ⟨y, hy⟩ : ∃ y, y = app f (byt x) := ⟨_, rfl⟩
            rw [← hy] at HC hne
            clear hy
            generalize hu : 1#8 <<< j = u at *
            clear hu
            go_wp2_with (first
              | ((with_reducible refine gate_dst (N := 17) rfl ?_); refine Mem.load M1.out rfl 67 (.tmp 1) rfl rfl Try.underlying67 (by rw [cells8_length]; exact info_mat) ?_)
              | (go_at_call 43; (with_reducible refine (HC.out.q _).mono ?_); rintro e w1 ⟨rfl, hb1⟩; have M1 := Aside0.mk (Mem.below M1.out hb1); have M2 := Aside0.mk (Mem.below M2.out hb1); have M3 := Aside0.mk (Mem.below M3.out hb1); have HB := Aside0.mk (below_step HB.out hb1)))
            go_roundg k2
            case measure => omega
            case rel => exact ⟨x + 1, b, c, by have := HX.out; omega, rfl, by go_num, ⟨HF.out.1, fun h n hn => by
              rcases Nat.lt_or_ge n x with h2 | h2
              · exact HF.out.2 h n h2
              · obtain rfl : n = x := by omega
                exact HE.out⟩, HU, M1, M2, M3, HB⟩
end Go.Proofs.Ytphdlidaigalkaa.Mat
