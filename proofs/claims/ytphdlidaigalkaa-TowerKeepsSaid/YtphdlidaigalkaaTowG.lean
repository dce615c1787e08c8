/-
  The tower's field: how it is made, and its matrices; the document's matrices: walked.
-/
import Derived.Test.YtphdlidaigalkaaTowF
namespace Go.Proofs.Ytphdlidaigalkaa.Mat
open Go.RowKit Go.Proofs.Ytphdlidaigalkaa.PNib Go.Proofs.YtphdlidaigalkaaW.PrintWords Go.Proofs.YtphdlidaigalkaaW.PrintLast Go.Proofs.YtphdlidaigalkaaW.PrintMore Byte Sl Arr Mem Gives ArrEq
set_option linter.unusedVariables false
set_option linter.unusedSimpArgs false
set_option maxHeartbeats 4000000
set_option maxRecDepth 100000
section
variable {P : Program} {ops : Array Oper} {rest : List Oper} {op : Oper} {a : Act} {Q : Exit → Act → World → Prop} {w : World} {g : Nat} {d s : Int} {i o : Rows}
theorem wp_load_in (h : FAt w g d s i o) (hgd : op.guard = none) (x : Operand) (ho : op.op = .load 67 x) (hx : a.eval x = .pointer (some ⟨g, 3, none⟩))
    (hK : wpList Try.prog ops Q rest (a.put op.dst (.agg (cellsOf .u8 (cells8 i)))) w) : wpList Try.prog ops Q (op :: rest) a w :=
  wpList_load_mid hgd 67 x ho g 3 hx _ _ (in_range h) Try.underlying67 rfl (by rw [len8]; exact info_mat) (by rw [Array.toArray_toList]; exact hK)
theorem wp_load_out (h : FAt w g d s i o) (hgd : op.guard = none) (x : Operand) (ho : op.op = .load 67 x) (hx : a.eval x = .pointer (some ⟨g, 11, none⟩))
    (hK : wpList Try.prog ops Q rest (a.put op.dst (.agg (cellsOf .u8 (cells8 o)))) w) : wpList Try.prog ops Q (op :: rest) a w :=
  wpList_load_mid hgd 67 x ho g 11 hx _ _ (out_range h) Try.underlying67 rfl (by rw [len8]; exact info_mat) (by rw [Array.toArray_toList]; exact hK)
theorem one_cells (f : Rows) : (cellsOf .u8 (cells8 f)).all (·.oneCell') = true := by simp [cellsOf, Value.oneCell']
theorem wp_store_in (h : FAt w g d s i o) (f : Rows) (hgd : op.guard = none) (x y : Operand) (ho : op.op = .store 67 x y) (hx : a.eval x = .pointer (some ⟨g, 3, none⟩)) (hy : a.eval y = .agg (cellsOf .u8 (cells8 f)))
    (hK : wpList Try.prog ops Q rest (a.put op.dst undef) (w.setCells g 3 (cellsOf .u8 (cells8 f)).toList)) : wpList Try.prog ops Q (op :: rest) a w :=
  wpList_store_mid hgd 67 x y ho g 3 _ hx hy (there_ h 3 _ (by rw [fc_size, cellsOf_size, cells8_length]; decide)) (by rw [cellsOf_size, cells8_length]; exact info_mat) (one_cells f) hK
theorem wp_store_out (h : FAt w g d s i o) (f : Rows) (hgd : op.guard = none) (x y : Operand) (ho : op.op = .store 67 x y) (hx : a.eval x = .pointer (some ⟨g, 11, none⟩)) (hy : a.eval y = .agg (cellsOf .u8 (cells8 f)))
    (hK : wpList Try.prog ops Q rest (a.put op.dst undef) (w.setCells g 11 (cellsOf .u8 (cells8 f)).toList)) : wpList Try.prog ops Q (op :: rest) a w :=
  wpList_store_mid hgd 67 x y ho g 11 _ hx hy (there_ h 11 _ (by rw [fc_size, cellsOf_size, cells8_length]; decide)) (by rw [cellsOf_size, cells8_length]; exact info_mat) (one_cells f) hK
end
/-! ### only block g is another one -/
def Ch (g : Nat) (w w' : World) : Prop := w.grownBy w' (some g)
section
variable {g : Nat} {w : World}
theorem Ch.below {w' : World} {B : Nat} {w0 : World} (h : Ch g w w') (hb : Below B w0 w) (hB : B ≤ w.heap.size) (hg : B ≤ g) : Below B w0 w' := pw_below_grown hb (some g) hB h (fun k hk => by cases hk; exact hg)
theorem Ch.trans {a b c : World} (h : Ch g a b) (k : Ch g b c) : Ch g a c := ⟨k.os.trans h.os, k.tape.trans h.tape, k.output.trans h.output, Nat.le_trans h.size k.size, fun i hi hne => (k.block i (Nat.lt_of_lt_of_le hi h.size) hne).trans (h.block i hi hne)⟩
theorem Ch.refl (w : World) : Ch g w w := ⟨rfl, rfl, rfl, Nat.le_refl _, fun _ _ _ => rfl⟩
theorem Ch.set (w : World) (i : Nat) (x : Value) : Ch g w (w.setCell ⟨g, i, none⟩ x) := ⟨rfl, rfl, rfl, by rw [Mem.setCell_size]; exact Nat.le_refl _, fun k hk hne => by
  show (w.heap.modify g _)[k]? = _
  rw [Array.getElem?_modify, if_neg (fun h => hne (by rw [h]))]⟩
theorem Ch.sets : ∀ (vs : List Value) (i : Nat) (w : World), Ch g w (w.setCells g i vs)
  | [], _, w => Ch.refl w
  | v :: vs, i, w => (Ch.set w i v).trans (Ch.sets vs (i + 1) _)
theorem Ch.of_below {w' : World} (h : Below w.heap.size w w') : Ch g w w' := grown_of_below h _
theorem FAt.congr {d s : Int} {i o o' : Rows} (h : FAt w g d s i o) (e : cells8 o = cells8 o') : FAt w g d s i o' := by
  unfold FAt fcells at h ⊢
  rwa [← e]
end
theorem new_c (w : World) : Calls Try.prog 29 #[] w fun e w' => ∃ g, e = .returned (.pointer (some ⟨g, 0, none⟩)) ∧ w.heap.size ≤ g ∧ FAt w' g 0 0 zrow zrow ∧ Below w.heap.size w w' := by
  go_enter Try.func29, Try.ntmps29
  go_wp2
  go_ret
  refine ⟨w.heap.size, rfl, Nat.le_refl _, ?_, below_alloc (Below.refl _ _) _⟩
  show (w.heap.push _)[w.heap.size]? = _
  rw [Array.getElem?_push_size]
  rfl
/-! ### the matrices are made -/
def pw : Nat → BitVec 8
  | 0 => 1#8
  | n + 1 => TowMath.tmul (pw n) 32#8
theorem pw_cols : ∀ k : Fin 8, pw k.val = TowE.cols k.val := by decide +kernel
def pwTo (j : Nat) : Rows := fun k => if k < j then pw k else 0#8
theorem pwTo_zero : cells8 (pwTo 0) = cells8 zrow := cells8_congr fun k _ => rfl
theorem pwTo_end : cells8 (flipF (pwTo 8)) = cells8 inF := cells8_congr fun k hk => ext8 fun j hj => by
  unfold inF
  rw [flip_bit _ _ _ hj, flip_bit _ _ _ hj]
  unfold pwTo
  rw [if_pos hj, pw_cols ⟨j, hj⟩]
theorem pwTo_set (j : Nat) (hj : j < 8) : (cells8 (pwTo j)).set j (I8 (pw j)) = cells8 (pwTo (j + 1)) := by
  rw [cells8_set _ _ hj]
  refine put_congr fun k _ => ?_
  unfold pwTo
  by_cases h : k = j
  · subst h; simp
  · by_cases h2 : k < j
    · simp [h, h2, show k < j + 1 by omega]
    · simp [h, h2, show ¬ k < j + 1 by omega]
theorem make_c {w : World} {g : Nat} {i o : Rows} (h : FAt w g 0 1 i o) : Calls Try.prog 118 #[.pointer (some ⟨g, 0, none⟩)] w fun e w' => e = .returned (.tuple #[]) ∧ FAt w' g 0 1 inF outF ∧ Ch g w w' := by
  have H := Aside0.mk (show FAt (w.alloc (.cells (cellsOf .u8 (cells8 zrow)) 66)) g 0 1 i o from FRow.below h (below_alloc (Below.refl _ _) _))
  have HLT := Aside0.mk (FRow.lt h)
  have M2 := Aside0.mk (Mem.new .u8 w 66 (cells8 zrow))
  have HB := Aside0.mk (below_alloc (Below.refl w.heap.size w) (.cells (cellsOf .u8 (cells8 zrow)) 66))
  have HR := Aside0.mk root_c
  go_enter Try.func118, Try.ntmps118
  go_wp2_with (first
    | (go_at_call 40; (with_reducible refine (HR.out.q _).mono ?_); rintro e w' ⟨rfl, ⟨n0, rfl⟩⟩))
  have N1 := Aside0.mk (show FAt _ g 0 1 i o from FRow.below H.out (pw_below_drewN (Below.refl _ _) n0))
  have N2 := Aside0.mk (Mem.drewN M2.out n0)
  have NB := Aside0.mk (pw_below_drewN HB.out n0)
  clear H M2 HB
  go_loopg [4, 7] 8 (fun kq pv jv w' => ∃ j : Nat, j + kq = 8 ∧ pv = .int .u8 (I8 (pw j)) ∧ jv = .int .i64 j ∧ Aside0 (FAt w' g 0 1 i o) ∧ Aside0 (Mem .u8 w' w.heap.size 66 (cells8 (pwTo j))) ∧ Aside0 (Below w.heap.size w w'))
  case atStart => exact ⟨0, by omega, rfl, rfl, N1, ⟨by rw [pwTo_zero]; exact N2.out⟩, NB⟩
  case round =>
    clear N1 N2 NB
    obtain ⟨j, hj, rfl, rfl, H, M2, HB⟩ := hrel
    cases gk with
    | zero =>
      obtain rfl : j = 8 := by omega
      have HC := columns_c (pwTo 8)
      rw [matV_eq, matV_eq, pwTo_end] at HC
      have HC := Aside0.mk HC
      have HI := Aside0.mk (inv_c inF)
      rw [matV_eq] at HI
      generalize pw 8 = pz at *
      go_wp2_with (first
        | ((with_reducible refine gate_dst (N := 18) rfl ?_); refine Mem.load M2.out rfl 66 (.tmp 2) rfl rfl Try.underlying66 (by rw [cells8_length]; exact info_c8) ?_)
        | (go_at_call 126; (with_reducible refine (HC.out.q _).mono ?_); rintro e w1 ⟨rfl, hb1⟩; have H := Aside0.mk (show FAt w1 g 0 1 i o from FRow.below H.out hb1); have HB := Aside0.mk (below_step HB.out hb1); clear hb1)
        | ((with_reducible refine gate_store (t := 67) (p := 21) rfl ?_); refine wp_store_in H.out inF rfl (.tmp 21) (.tmp 19) rfl rfl rfl ?_; have H := Aside0.mk (set_in H.out inF))
        | ((with_reducible refine gate_dst (N := 27) rfl ?_); refine wp_load_in H.out rfl (.tmp 26) rfl rfl ?_)
        | (go_at_call 127; (with_reducible refine (HI.out _).mono ?_); rintro e w2 ⟨o2, ok2, rfl, hI, hb2⟩; have H := Aside0.mk (FAt.congr (show FAt w2 g 0 1 inF o from FRow.below H.out hb2) rfl); have HO := Aside0.mk (inv_out hI).2; have HB2 := Aside0.mk hb2; clear hI hb2; rw [matV_eq])
        | ((with_reducible refine gate_store (t := 67) (p := 32) rfl ?_); refine wp_store_out H.out o2 rfl (.tmp 32) (.tmp 29) rfl rfl rfl ?_; have H := Aside0.mk (FAt.congr (set_out H.out o2) HO.out)))
      refine bodyPost_end (results_none rfl _ _ _) rfl ⟨rfl, H.out, ?_⟩
      exact (((Ch.of_below HB.out).trans (Ch.sets _ 3 _)).trans (Ch.of_below HB2.out)).trans (Ch.sets _ 11 _)
    | succ k1 =>
      have hlt : j < 8 := by omega
      have HJ := Aside0.mk hj
      clear hj
      have hb1 : (j : Int) < 8 := by omega
      have hb3 : (0 : Int) ≤ (j : Int) := by omega
      have hx := M2.out.cell j (by rw [cells8_length]; exact hlt)
      have hf := M2.out.free j
      have HV := Aside0.mk (pwTo_set j hlt)
      have HM := Aside0.mk (show Gives 35 #[.int .u8 (I8 (pw j)), .int .u8 32] (.int .u8 (I8 (pw (j + 1)))) from tmul_c (pw j) 32#8)
      obtain ⟨p1, hp1⟩ : ∃ z, z = pw (j + 1) := ⟨_, rfl⟩
      rw [← hp1] at HM
      have HP1 := Aside0.mk hp1
      clear hp1
      generalize pw j = p0 at *
      go_wp2_with (first
        | (go_at_call 35; (with_reducible refine (HM.out.q _).mono ?_); rintro e w' ⟨rfl, ⟨n1, rfl⟩⟩))
      go_roundg k1
      case measure => omega
      case rel => exact ⟨j + 1, by have := HJ.out; omega, by rw [HP1.out], by go_num, ⟨FRow.below (w := wr.setCell ⟨w.heap.size, j, none⟩ (.int .u8 (I8 p0))) (FRow.other H.out (by have := HLT.out; omega) _ _) (pw_below_drewN (Below.refl _ _) n1)⟩, ⟨Mem.drewN (by rw [← HV.out]; exact Mem.set M2.out _ _) n1⟩, ⟨pw_below_drewN (below_set HB.out (Nat.le_refl _)) n1⟩⟩
end Go.Proofs.Ytphdlidaigalkaa.Mat
