/-
  Merged texts: TowF, TowG, TowH, TowI, TowL1, TowL2: walks and plain lemmas; no condition.
-/
import Derived.Test.YtphdlidaigalkaaMatI
import Derived.Test.YtphdlidaigalkaaTowEval
import Derived.Test.YtphdlidaigalkaaOnceDoField
import Derived.Deep.MidRow
namespace Go.Proofs.Ytphdlidaigalkaa.Mat
open Go.RowKit Go.Proofs.Ytphdlidaigalkaa.PNib Go.Proofs.YtphdlidaigalkaaW.PrintWords Go.Proofs.YtphdlidaigalkaaW.PrintLast Go.Proofs.YtphdlidaigalkaaW.PrintMore Byte Sl Arr Mem Gives ArrEq
set_option linter.unusedVariables false
set_option linter.unusedSimpArgs false
set_option maxHeartbeats 4000000
set_option maxRecDepth 100000
/-! ### contracts of bytes -/
theorem tmul_c (a b : BitVec 8) : Gives 35 #[.int .u8 (I8 a), .int .u8 (I8 b)] (.int .u8 (I8 (TowMath.tmul a b))) := fun w => tower_Mul.calls 100 _ _ _ w (TowE.Mul_eq a b 100 (by decide))
theorem root_c : Gives 40 #[] (.int .u8 32) := fun w => tower_Root.calls 400 _ w TowE.Root_eq
theorem rin_c (i : Nat) (h : i < 8) : Gives 87 #[.int .u8 (I8 (1#8 <<< i))] (.int .u8 (I8 (TowE.cols i))) := fun w => visorref06_In.calls 400 _ _ w (TowE.In_units ⟨i, h⟩)
/-! ### the matrices -/
def inF : Rows := flipF TowE.cols
/-- The matrix that turns out, row by row. -/
def outRows : List Nat := [129, 176, 2, 194, 202, 84, 142, 212]
def outF : Rows := fun i => BitVec.ofNat 8 (outRows.getD i 0)
def inR : Rows := fun i => BitVec.ofNat 8 ([161, 4, 252, 24, 112, 210, 172, 160].getD i 0)
theorem in_rows : ∀ i : Fin 8, inF i.val = inR i.val := by decide +kernel
theorem in_app (x : BitVec 8) : app inF x = app inR x := app_congr (fun i hi => in_rows ⟨i, hi⟩) x
theorem in_out_units : ∀ j : Fin 8, app inR (app outF (1#8 <<< j.val)) = 1#8 <<< j.val := by decide +kernel
theorem out_in_units : ∀ j : Fin 8, app outF (app inR (1#8 <<< j.val)) = 1#8 <<< j.val := by decide +kernel
theorem in_out (y : BitVec 8) : app inF (app outF y) = y := by
  rw [in_app]
  exact app_of_units (F := fun y => app inR (app outF y)) (fun x y => by simp only [app_xor]) (fun j hj => in_out_units ⟨j, hj⟩) y
theorem out_in (y : BitVec 8) : app outF (app inF y) = y := by
  rw [in_app]
  exact app_of_units (F := fun y => app outF (app inR y)) (fun x y => by simp only [app_xor]) (fun j hj => out_in_units ⟨j, hj⟩) y
theorem in_rank : rank inF = 8 := rank_full _ fun y => ⟨app outF y, in_out y⟩
theorem inv_out {g : Rows} {ok : Bool} (h : InvOf inF g ok) : ok = true ∧ cells8 g = cells8 outF := by
  have e : ok = true := h.full.2 in_rank
  refine ⟨e, cells8_congr (rows_of_app fun y => ?_)⟩
  have := (h.back e (app outF y)).1
  rwa [in_out] at this
theorem rinv_out {g : Rows} {ok : Bool} (h : RInvOf inF g ok) : ok = true ∧ cells8 g = cells8 outF := by
  have inj : ∀ x y, app inF x = app inF y → x = y := by
    intro x y e
    rw [← out_in x, e, out_in y]
  cases ok with
  | true => exact ⟨rfl, cells8_congr (rows_of_app fun y => inj _ _ (by rw [h.yes rfl, in_out]))⟩
  | false =>
    obtain ⟨_, j, _, hn⟩ := h.no rfl
    exact absurd (in_out (1#8 <<< j)) (hn _)
/-! ### the field in memory -/
def fcells (d s : Int) (i o : Rows) : Array Value := #[.int .u32 d, .int .i32 s, .int .u32 0] ++ cellsOf .u8 (cells8 i) ++ cellsOf .u8 (cells8 o)
def FRow (w : World) (g : Nat) (cs : Array Value) : Prop := w.heap[g]? = some (.cells cs 123 (0, 0))
def FAt (w : World) (g : Nat) (d s : Int) (i o : Rows) : Prop := FRow w g (fcells d s i o)
variable {w : World} {g : Nat} {cs : Array Value} {d s : Int} {i o : Rows}
theorem FRow.lt (h : FRow w g cs) : g < w.heap.size := (Array.getElem?_eq_some_iff.1 h).1
theorem FRow.below (h : FRow w g cs) {w' : World} (hb : Below w.heap.size w w') : FRow w' g cs := (hb.block g h.lt).trans h
theorem FRow.free (h : FRow w g cs) (j : Nat) : w.frozen? ⟨g, j, none⟩ = false := by
  unfold World.frozen?
  rw [h]
  simp
theorem FRow.cell (h : FRow w g cs) (j : Nat) : w.cell? ⟨g, j, none⟩ = cs[j]? := cell_of_row w g j _ _ _ h
theorem FRow.set (h : FRow w g cs) (j : Nat) (v : Value) : FRow (w.setCell ⟨g, j, none⟩ v) g (cs.setIfInBounds j v) := by
  have hlt := h.lt
  unfold FRow at h ⊢
  rw [Array.getElem?_eq_getElem hlt] at h
  have h0 := Option.some.inj h
  show (w.heap.modify g _)[g]? = _
  rw [Array.getElem?_modify, if_pos rfl, Array.getElem?_eq_getElem hlt, h0]
  rfl
theorem FRow.other (h : FRow w g cs) {g' : Nat} (hne : g' ≠ g) (j : Nat) (v : Value) : FRow (w.setCell ⟨g', j, none⟩ v) g cs := by
  unfold FRow at h ⊢
  show (w.heap.modify g' _)[g]? = _
  rw [Array.getElem?_modify, if_neg hne]; exact h
def setAll (cs : Array Value) : Nat → List Value → Array Value
  | _, [] => cs
  | o, v :: vs => setAll (cs.setIfInBounds o v) (o + 1) vs
theorem FRow.sets : ∀ (vs : List Value) (o : Nat) (w : World) (cs : Array Value), FRow w g cs → FRow (w.setCells g o vs) g (setAll cs o vs)
  | [], _, _, _, h => h
  | v :: vs, o, w, cs, h => FRow.sets vs (o + 1) _ _ (h.set o v)
theorem setAll_size : ∀ (vs : List Value) (o : Nat) (cs : Array Value), (setAll cs o vs).size = cs.size
  | [], _, _ => rfl
  | v :: vs, o, cs => by rw [setAll, setAll_size vs, Array.size_setIfInBounds]
theorem setAll_out : ∀ (vs : List Value) (o : Nat) (cs : Array Value) (k : Nat), (k < o ∨ o + vs.length ≤ k) → (setAll cs o vs)[k]? = cs[k]?
  | [], _, _, _, _ => rfl
  | v :: vs, o, cs, k, h => by
    rw [List.length_cons] at h
    rw [setAll, setAll_out vs (o + 1) _ k (by omega), Array.getElem?_setIfInBounds, if_neg (by omega)]
theorem setAll_in : ∀ (vs : List Value) (o : Nat) (cs : Array Value) (j : Nat), j < vs.length → o + vs.length ≤ cs.size → (setAll cs o vs)[o + j]? = vs[j]?
  | [], _, _, _, h, _ => absurd h (by simp)
  | v :: vs, o, cs, 0, h, hs => by
    rw [List.length_cons] at hs
    rw [setAll, setAll_out vs (o + 1) _ (o + 0) (by omega), Nat.add_zero, Array.getElem?_setIfInBounds, if_pos rfl, if_pos (by omega)]
    rfl
  | v :: vs, o, cs, j + 1, h, hs => by
    rw [List.length_cons] at hs h
    rw [setAll, show o + (j + 1) = (o + 1) + j by omega, setAll_in vs (o + 1) _ j (by omega) (by rw [Array.size_setIfInBounds]; omega)]
    rfl
theorem fc_size (d s : Int) (i o : Rows) : (fcells d s i o).size = 19 := by
  unfold fcells
  simp [cellsOf_size, cells8_length]
theorem fc_head (d s : Int) (i o : Rows) (k : Nat) (hk : k < 3) : (fcells d s i o)[k]? = (#[Value.int .u32 d, .int .i32 s, .int .u32 0] : Array Value)[k]? := by
  unfold fcells
  rw [Array.getElem?_append_left (by rw [Array.size_append]; simp; omega), Array.getElem?_append_left (by simpa using hk)]
theorem fc_in (d s : Int) (i o : Rows) (j : Nat) (hj : j < 8) : (fcells d s i o)[3 + j]? = (cellsOf .u8 (cells8 i))[j]? := by
  unfold fcells
  rw [Array.getElem?_append_left (by rw [Array.size_append, cellsOf_size, cells8_length]; simp; omega), Array.getElem?_append_right (by simp)]
  simp
theorem fc_out (d s : Int) (i o : Rows) (j : Nat) (hj : j < 8) : (fcells d s i o)[11 + j]? = (cellsOf .u8 (cells8 o))[j]? := by
  unfold fcells
  rw [Array.getElem?_append_right (by rw [Array.size_append, cellsOf_size, cells8_length]; simp)]
  congr 1
  rw [Array.size_append, cellsOf_size, cells8_length]
  simp
theorem in_range (h : FAt w g d s i o) : w.rangeAt g 3 (cellsOf .u8 (cells8 i)).toList := fun j v hv => by
  have hj : j < 8 := by
    have := (List.getElem?_eq_some_iff.1 hv).1
    rwa [Array.length_toList, cellsOf_size, cells8_length] at this
  rw [FRow.cell h, fc_in _ _ _ _ j hj, ← Array.getElem?_toList]; exact hv
theorem out_range (h : FAt w g d s i o) : w.rangeAt g 11 (cellsOf .u8 (cells8 o)).toList := fun j v hv => by
  have hj : j < 8 := by
    have := (List.getElem?_eq_some_iff.1 hv).1
    rwa [Array.length_toList, cellsOf_size, cells8_length] at this
  rw [FRow.cell h, fc_out _ _ _ _ j hj, ← Array.getElem?_toList]; exact hv
theorem there_ (h : FRow w g cs) (o n : Nat) (hn : o + n ≤ cs.size) : w.there g o n := fun j hj => ⟨by
  rw [h.cell (o + j), Array.getElem?_eq_getElem (by omega)]; rfl, h.free (o + j)⟩
theorem len8 (f : Rows) : (cellsOf .u8 (cells8 f)).toList.length = 8 := by rw [Array.length_toList, cellsOf_size, cells8_length]
theorem set_in_cells (d s : Int) (i o i' : Rows) : setAll (fcells d s i o) 3 (cellsOf .u8 (cells8 i')).toList = fcells d s i' o := by
  refine Array.ext_getElem? fun k => ?_
  rcases Nat.lt_or_ge k 3 with h | h
  · rw [setAll_out _ _ _ k (.inl h), fc_head _ _ _ _ k h, fc_head _ _ _ _ k h]
  · rcases Nat.lt_or_ge k 11 with h2 | h2
    · obtain ⟨j, rfl⟩ : ∃ j, k = 3 + j := ⟨k - 3, by omega⟩
      rw [setAll_in _ 3 _ j (by rw [len8]; omega) (by rw [len8, fc_size]; omega), fc_in _ _ _ _ j (by omega), Array.getElem?_toList]
    · rw [setAll_out _ _ _ k (.inr (by rw [len8]; omega))]
      rcases Nat.lt_or_ge k 19 with h3 | h3
      · obtain ⟨j, rfl⟩ : ∃ j, k = 11 + j := ⟨k - 11, by omega⟩
        rw [fc_out _ _ _ _ j (by omega), fc_out _ _ _ _ j (by omega)]
      · rw [Array.getElem?_eq_none (by rw [fc_size]; exact h3), Array.getElem?_eq_none (by rw [fc_size]; exact h3)]
theorem set_out_cells (d s : Int) (i o o' : Rows) : setAll (fcells d s i o) 11 (cellsOf .u8 (cells8 o')).toList = fcells d s i o' := by
  refine Array.ext_getElem? fun k => ?_
  rcases Nat.lt_or_ge k 3 with h | h
  · rw [setAll_out _ _ _ k (.inl (by omega)), fc_head _ _ _ _ k h, fc_head _ _ _ _ k h]
  · rcases Nat.lt_or_ge k 11 with h2 | h2
    · obtain ⟨j, rfl⟩ : ∃ j, k = 3 + j := ⟨k - 3, by omega⟩
      rw [setAll_out _ _ _ _ (.inl h2), fc_in _ _ _ _ j (by omega), fc_in _ _ _ _ j (by omega)]
    · rcases Nat.lt_or_ge k 19 with h3 | h3
      · obtain ⟨j, rfl⟩ : ∃ j, k = 11 + j := ⟨k - 11, by omega⟩
        rw [setAll_in _ 11 _ j (by rw [len8]; omega) (by rw [len8, fc_size]; omega), fc_out _ _ _ _ j (by omega), Array.getElem?_toList]
      · rw [Array.getElem?_eq_none (by rw [setAll_size, fc_size]; exact h3), Array.getElem?_eq_none (by rw [fc_size]; exact h3)]
theorem set_in (h : FAt w g d s i o) (i' : Rows) : FAt (w.setCells g 3 (cellsOf .u8 (cells8 i')).toList) g d s i' o := by
  unfold FAt
  rw [← set_in_cells d s i o i']
  exact FRow.sets _ 3 w _ h
theorem set_out (h : FAt w g d s i o) (o' : Rows) : FAt (w.setCells g 11 (cellsOf .u8 (cells8 o')).toList) g d s i o' := by
  unfold FAt
  rw [← set_out_cells d s i o o']
  exact FRow.sets _ 11 w _ h
theorem fc_set (d s : Int) (i o : Rows) (k : Nat) (hk : k < 3) (v : Value) : (fcells d s i o).setIfInBounds k v = ((#[Value.int .u32 d, .int .i32 s, .int .u32 0] : Array Value).setIfInBounds k v) ++ cellsOf .u8 (cells8 i) ++ cellsOf .u8 (cells8 o) := by
  unfold fcells
  rw [Array.setIfInBounds_append_left (by rw [Array.size_append]; simp; omega), Array.setIfInBounds_append_left (by simpa using hk)]
theorem set_d (h : FAt w g d s i o) (d' : Int) : FAt (w.setCell ⟨g, 0, none⟩ (.int .u32 d')) g d' s i o := by
  have := FRow.set h 0 (.int .u32 d')
  rwa [fc_set d s i o 0 (by decide)] at this
theorem set_s (h : FAt w g d s i o) (s' : Int) : FAt (w.setCell ⟨g, 1, none⟩ (.int .i32 s')) g d s' i o := by
  have := FRow.set h 1 (.int .i32 s')
  rwa [fc_set d s i o 1 (by decide)] at this
theorem cell_d (h : FAt w g d s i o) : w.cell? ⟨g, 0, none⟩ = some (.int .u32 d) := by rw [FRow.cell h, fc_head _ _ _ _ 0 (by decide)]; rfl
theorem cell_s (h : FAt w g d s i o) : w.cell? ⟨g, 1, none⟩ = some (.int .i32 s) := by rw [FRow.cell h, fc_head _ _ _ _ 1 (by decide)]; rfl
end Go.Proofs.Ytphdlidaigalkaa.Mat
namespace Go.Proofs.Ytphdlidaigalkaa.Mat
open Go.RowKit Go.Proofs.Ytphdlidaigalkaa.PNib Go.Proofs.YtphdlidaigalkaaW.PrintWords Go.Proofs.YtphdlidaigalkaaW.PrintLast Go.Proofs.YtphdlidaigalkaaW.PrintMore Byte Sl Arr Mem Gives ArrEq
set_option linter.unusedVariables false
set_option linter.unusedSimpArgs false
set_option maxHeartbeats 4000000
set_option maxRecDepth 100000
section
variable {P : Program} {ops : Array Oper} {rest : List Oper} {op : Oper} {a : Act} {Q : Exit → Act → World → Prop} {w : World} {g : Nat} {d s : Int} {i o : Rows}
theorem wp_load_in (h : FAt w g d s i o) (hgd : op.guard = none) (x : Operand) (ho : op.op = .load 67 x) (hx : a.eval x = .pointer (some ⟨g, 3, none⟩))
    (hK : wpList Try.prog ops Q rest (a.put op.dst (.agg (cellsOf .u8 (cells8 i)))) w) : wpList Try.prog ops Q (op :: rest) a w :=
  wpList_load_mid hgd 67 x ho g 3 hx _ _ (in_range h) Try.underlying67 rfl (by rw [len8]; exact info_mat) (by rw [Array.toArray_toList]; exact hK)
theorem wp_load_out (h : FAt w g d s i o) (hgd : op.guard = none) (x : Operand) (ho : op.op = .load 67 x) (hx : a.eval x = .pointer (some ⟨g, 11, none⟩))
    (hK : wpList Try.prog ops Q rest (a.put op.dst (.agg (cellsOf .u8 (cells8 o)))) w) : wpList Try.prog ops Q (op :: rest) a w :=
  wpList_load_mid hgd 67 x ho g 11 hx _ _ (out_range h) Try.underlying67 rfl (by rw [len8]; exact info_mat) (by rw [Array.toArray_toList]; exact hK)
theorem one_cells (f : Rows) : (cellsOf .u8 (cells8 f)).all (·.oneCell') = true := by simp [cellsOf, Value.oneCell']
theorem wp_store_in (h : FAt w g d s i o) (f : Rows) (hgd : op.guard = none) (x y : Operand) (ho : op.op = .store 67 x y) (hx : a.eval x = .pointer (some ⟨g, 3, none⟩)) (hy : a.eval y = .agg (cellsOf .u8 (cells8 f)))
    (hK : wpList Try.prog ops Q rest (a.put op.dst undef) (w.setCells g 3 (cellsOf .u8 (cells8 f)).toList)) : wpList Try.prog ops Q (op :: rest) a w :=
  wpList_store_mid hgd 67 x y ho g 3 _ hx hy (there_ h 3 _ (by rw [fc_size, cellsOf_size, cells8_length]; decide)) (by rw [cellsOf_size, cells8_length]; exact info_mat) (one_cells f) hK
theorem wp_store_out (h : FAt w g d s i o) (f : Rows) (hgd : op.guard = none) (x y : Operand) (ho : op.op = .store 67 x y) (hx : a.eval x = .pointer (some ⟨g, 11, none⟩)) (hy : a.eval y = .agg (cellsOf .u8 (cells8 f)))
    (hK : wpList Try.prog ops Q rest (a.put op.dst undef) (w.setCells g 11 (cellsOf .u8 (cells8 f)).toList)) : wpList Try.prog ops Q (op :: rest) a w :=
  wpList_store_mid hgd 67 x y ho g 11 _ hx hy (there_ h 11 _ (by rw [fc_size, cellsOf_size, cells8_length]; decide)) (by rw [cellsOf_size, cells8_length]; exact info_mat) (one_cells f) hK
end
/-! ### only block g is another one -/
def Ch (g : Nat) (w w' : World) : Prop := w.grownBy w' (some g)
section
variable {g : Nat} {w : World}
theorem Ch.below {w' : World} {B : Nat} {w0 : World} (h : Ch g w w') (hb : Below B w0 w) (hB : B ≤ w.heap.size) (hg : B ≤ g) : Below B w0 w' := pw_below_grown hb (some g) hB h (fun k hk => by cases hk; exact hg)
theorem Ch.trans {a b c : World} (h : Ch g a b) (k : Ch g b c) : Ch g a c := ⟨k.os.trans h.os, k.tape.trans h.tape, k.output.trans h.output, Nat.le_trans h.size k.size, fun i hi hne => (k.block i (Nat.lt_of_lt_of_le hi h.size) hne).trans (h.block i hi hne)⟩
theorem Ch.refl (w : World) : Ch g w w := ⟨rfl, rfl, rfl, Nat.le_refl _, fun _ _ _ => rfl⟩
theorem Ch.set (w : World) (i : Nat) (x : Value) : Ch g w (w.setCell ⟨g, i, none⟩ x) := ⟨rfl, rfl, rfl, by rw [Mem.setCell_size]; exact Nat.le_refl _, fun k hk hne => by
  show (w.heap.modify g _)[k]? = _
  rw [Array.getElem?_modify, if_neg (fun h => hne (by rw [h]))]⟩
theorem Ch.sets : ∀ (vs : List Value) (i : Nat) (w : World), Ch g w (w.setCells g i vs)
  | [], _, w => Ch.refl w
  | v :: vs, i, w => (Ch.set w i v).trans (Ch.sets vs (i + 1) _)
theorem Ch.of_below {w' : World} (h : Below w.heap.size w w') : Ch g w w' := grown_of_below h _
theorem FAt.congr {d s : Int} {i o o' : Rows} (h : FAt w g d s i o) (e : cells8 o = cells8 o') : FAt w g d s i o' := by
  unfold FAt fcells at h ⊢
  rwa [← e]
end
theorem new_c (w : World) : Calls Try.prog 29 #[] w fun e w' => ∃ g, e = .returned (.pointer (some ⟨g, 0, none⟩)) ∧ w.heap.size ≤ g ∧ FAt w' g 0 0 zrow zrow ∧ Below w.heap.size w w' := by
  go_enter Try.func29, Try.ntmps29
  go_wp2
  go_ret
  refine ⟨w.heap.size, rfl, Nat.le_refl _, ?_, below_alloc (Below.refl _ _) _⟩
  show (w.heap.push _)[w.heap.size]? = _
  rw [Array.getElem?_push_size]
  rfl
/-! ### the matrices are made -/
def pw : Nat → BitVec 8
  | 0 => 1#8
  | n + 1 => TowMath.tmul (pw n) 32#8
theorem pw_cols : ∀ k : Fin 8, pw k.val = TowE.cols k.val := by decide +kernel
def pwTo (j : Nat) : Rows := fun k => if k < j then pw k else 0#8
theorem pwTo_zero : cells8 (pwTo 0) = cells8 zrow := cells8_congr fun k _ => rfl
theorem pwTo_end : cells8 (flipF (pwTo 8)) = cells8 inF := cells8_congr fun k hk => ext8 fun j hj => by
  unfold inF
  rw [flip_bit _ _ _ hj, flip_bit _ _ _ hj]
  unfold pwTo
  rw [if_pos hj, pw_cols ⟨j, hj⟩]
theorem pwTo_set (j : Nat) (hj : j < 8) : (cells8 (pwTo j)).set j (I8 (pw j)) = cells8 (pwTo (j + 1)) := by
  rw [cells8_set _ _ hj]
  refine put_congr fun k _ => ?_
  unfold pwTo
  by_cases h : k = j
  · subst h; simp
  · by_cases h2 : k < j
    · simp [h, h2, show k < j + 1 by omega]
    · simp [h, h2, show ¬ k < j + 1 by omega]
theorem make_c {w : World} {g : Nat} {i o : Rows} (h : FAt w g 0 1 i o) : Calls Try.prog 118 #[.pointer (some ⟨g, 0, none⟩)] w fun e w' => e = .returned (.tuple #[]) ∧ FAt w' g 0 1 inF outF ∧ Ch g w w' := by
  have H := Aside0.mk (show FAt (w.alloc (.cells (cellsOf .u8 (cells8 zrow)) 66)) g 0 1 i o from FRow.below h (below_alloc (Below.refl _ _) _))
  have HLT := Aside0.mk (FRow.lt h)
  have M2 := Aside0.mk (Mem.new .u8 w 66 (cells8 zrow))
  have HB := Aside0.mk (below_alloc (Below.refl w.heap.size w) (.cells (cellsOf .u8 (cells8 zrow)) 66))
  have HR := Aside0.mk root_c
  go_enter Try.func118, Try.ntmps118
  go_wp2_with (first
    | (go_at_call 40; (with_reducible refine (HR.out.q _).mono ?_); rintro e w' ⟨rfl, ⟨n0, rfl⟩⟩))
  have N1 := Aside0.mk (show FAt _ g 0 1 i o from FRow.below H.out (pw_below_drewN (Below.refl _ _) n0))
  have N2 := Aside0.mk (Mem.drewN M2.out n0)
  have NB := Aside0.mk (pw_below_drewN HB.out n0)
  clear H M2 HB
  go_loopg [4, 7] 8 (fun kq pv jv w' => ∃ j : Nat, j + kq = 8 ∧ pv = .int .u8 (I8 (pw j)) ∧ jv = .int .i64 j ∧ Aside0 (FAt w' g 0 1 i o) ∧ Aside0 (Mem .u8 w' w.heap.size 66 (cells8 (pwTo j))) ∧ Aside0 (Below w.heap.size w w'))
  case atStart => exact ⟨0, by omega, rfl, rfl, N1, ⟨by rw [pwTo_zero]; exact N2.out⟩, NB⟩
  case round =>
    clear N1 N2 NB
    obtain ⟨j, hj, rfl, rfl, H, M2, HB⟩ := hrel
    cases gk with
    | zero =>
      obtain rfl : j = 8 := by omega
      have HC := columns_c (pwTo 8)
      rw [matV_eq, matV_eq, pwTo_end] at HC
      have HC := Aside0.mk HC
      have HI := Aside0.mk (inv_c inF)
      rw [matV_eq] at HI
      generalize pw 8 = pz at *
      go_wp2_with (first
        | ((with_reducible refine gate_dst (N := 18) rfl ?_); refine Mem.load M2.out rfl 66 (.tmp 2) rfl rfl Try.underlying66 (by rw [cells8_length]; exact info_c8) ?_)
        | (go_at_call 126; (with_reducible refine (HC.out.q _).mono ?_); rintro e w1 ⟨rfl, hb1⟩; have H := Aside0.mk (show FAt w1 g 0 1 i o from FRow.below H.out hb1); have HB := Aside0.mk (below_step HB.out hb1); clear hb1)
        | ((with_reducible refine gate_store (t := 67) (p := 21) rfl ?_); refine wp_store_in H.out inF rfl (.tmp 21) (.tmp 19) rfl rfl rfl ?_; have H := Aside0.mk (set_in H.out inF))
        | ((with_reducible refine gate_dst (N := 27) rfl ?_); refine wp_load_in H.out rfl (.tmp 26) rfl rfl ?_)
        | (go_at_call 127; (with_reducible refine (HI.out _).mono ?_); rintro e w2 ⟨o2, ok2, rfl, hI, hb2⟩; have H := Aside0.mk (FAt.congr (show FAt w2 g 0 1 inF o from FRow.below H.out hb2) rfl); have HO := Aside0.mk (inv_out hI).2; have HB2 := Aside0.mk hb2; clear hI hb2; rw [matV_eq])
        | ((with_reducible refine gate_store (t := 67) (p := 32) rfl ?_); refine wp_store_out H.out o2 rfl (.tmp 32) (.tmp 29) rfl rfl rfl ?_; have H := Aside0.mk (FAt.congr (set_out H.out o2) HO.out)))
      refine bodyPost_end (results_none rfl _ _ _) rfl ⟨rfl, H.out, ?_⟩
      exact (((Ch.of_below HB.out).trans (Ch.sets _ 3 _)).trans (Ch.of_below HB2.out)).trans (Ch.sets _ 11 _)
    | succ k1 =>
      have hlt : j < 8 := by omega
      have HJ := Aside0.mk hj
      clear hj
      have hb1 : (j : Int) < 8 := by omega
      have hb3 : (0 : Int) ≤ (j : Int) := by omega
      have hx := M2.out.cell j (by rw [cells8_length]; exact hlt)
      have hf := M2.out.free j
      have HV := Aside0.mk (pwTo_set j hlt)
      have HM := Aside0.mk (show Gives 35 #[.int .u8 (I8 (pw j)), .int .u8 32] (.int .u8 (I8 (pw (j + 1)))) from tmul_c (pw j) 32#8)
      obtain ⟨p1, hp1⟩ : ∃ z, z = pw (j + 1) := ⟨_, rfl⟩
      rw [← hp1] at HM
      have HP1 := Aside0.mk hp1
      clear hp1
      generalize pw j = p0 at *
      go_wp2_with (first
        | (go_at_call 35; (with_reducible refine (HM.out.q _).mono ?_); rintro e w' ⟨rfl, ⟨n1, rfl⟩⟩))
      go_roundg k1
      case measure => omega
      case rel => exact ⟨j + 1, by have := HJ.out; omega, by rw [HP1.out], by go_num, ⟨FRow.below (w := wr.setCell ⟨w.heap.size, j, none⟩ (.int .u8 (I8 p0))) (FRow.other H.out (by have := HLT.out; omega) _ _) (pw_below_drewN (Below.refl _ _) n1)⟩, ⟨Mem.drewN (by rw [← HV.out]; exact Mem.set M2.out _ _) n1⟩, ⟨pw_below_drewN (below_set HB.out (Nat.le_refl _)) n1⟩⟩
end Go.Proofs.Ytphdlidaigalkaa.Mat
namespace Go.Proofs.Ytphdlidaigalkaa.Mat
open Go.RowKit Go.Proofs.Ytphdlidaigalkaa.PNib Go.Proofs.YtphdlidaigalkaaW.PrintWords Go.Proofs.YtphdlidaigalkaaW.PrintLast Go.Proofs.YtphdlidaigalkaaW.PrintMore Byte Sl Arr Mem Gives ArrEq
set_option linter.unusedVariables false
set_option linter.unusedSimpArgs false
set_option maxHeartbeats 4000000
set_option maxRecDepth 100000
theorem own_first {w : World} {g : Nat} (h : FAt w g 0 0 zrow zrow) : Calls Try.prog 86 #[.pointer (some ⟨g, 0, none⟩)] w fun e w' => e = .returned (.pointer (some ⟨g, 0, none⟩)) ∧ FAt w' g 1 0 inF outF ∧ Ch g w w' := by
  have hmf : ∀ (fn : Fn) (first cap : Array Value) (w : World), (Instr.makeFunc fn first cap).run Try.prog w = .ok (.func fn first cap) w := fun _ _ _ _ => rfl
  have HD := Aside0.mk (OnceField.do_first g 0 (.pointer (some ⟨g, 0, none⟩)) (fun w' => FAt w' g 0 1 inF outF ∧ Ch g (w.setCell ⟨g, 0 + 1, none⟩ (.int .i32 1)) w') w (cell_d h) (cell_s h) (FRow.free h 0) (FRow.free h 1)
    (make_c (set_s h 1)) (fun w' hp => ⟨cell_d hp.1, cell_s hp.1, FRow.free hp.1 0, FRow.free hp.1 1⟩))
  clear h
  go_enter Try.func86, Try.ntmps86
  go_wp2_with (first
    | (go_at_call 117; (with_reducible refine (HD.out).mono ?_); rintro e w' ⟨rfl, w2, hw2, rfl⟩))
  go_ret
  refine ⟨rfl, set_s (set_d (show FAt w2.drew g 0 1 inF outF from FRow.below hw2.1 (below_drew (Below.refl _ _))) 1) 0, ?_⟩
  exact ((((Ch.set w 1 _).trans hw2.2).trans (Ch.of_below (below_drew (Below.refl _ _)))).trans (Ch.set _ 0 _)).trans (Ch.set _ 1 _)
theorem own_done {w : World} {g : Nat} {i o : Rows} (h : FAt w g 1 0 i o) : Calls Try.prog 86 #[.pointer (some ⟨g, 0, none⟩)] w fun e w' => e = .returned (.pointer (some ⟨g, 0, none⟩)) ∧ w' = w := by
  have hmf : ∀ (fn : Fn) (first cap : Array Value) (w : World), (Instr.makeFunc fn first cap).run Try.prog w = .ok (.func fn first cap) w := fun _ _ _ _ => rfl
  have HD := Aside0.mk (OnceField.do_done ⟨g, 0, none⟩ (.func (.func 118) #[.pointer (some ⟨g, 0, none⟩)] #[]) w (cell_d h))
  clear h
  go_enter Try.func86, Try.ntmps86
  go_wp2_with (first
    | (go_at_call 117; (with_reducible refine (HD.out).mono ?_); rintro e w' ⟨rfl, rfl⟩))
  go_ret
  exact ⟨rfl, rfl⟩
theorem own_nil (w : World) : Calls Try.prog 86 #[.pointer none] w fun e w' => ∃ g, e = .returned (.pointer (some ⟨g, 0, none⟩)) ∧ FAt w' g 1 0 inF outF ∧ Below w.heap.size w w' := by
  have hmf : ∀ (fn : Fn) (first cap : Array Value) (w : World), (Instr.makeFunc fn first cap).run Try.prog w = .ok (.func fn first cap) w := fun _ _ _ _ => rfl
  have HN := Aside0.mk (new_c w)
  have HD := Aside0.mk (fun (w : World) (g : Nat) (h : FAt w g 0 0 zrow zrow) => OnceField.do_first g 0 (.pointer (some ⟨g, 0, none⟩)) (fun w' => FAt w' g 0 1 inF outF ∧ Ch g (w.setCell ⟨g, 0 + 1, none⟩ (.int .i32 1)) w') w (cell_d h) (cell_s h) (FRow.free h 0) (FRow.free h 1)
    (make_c (set_s h 1)) (fun w' hp => ⟨cell_d hp.1, cell_s hp.1, FRow.free hp.1 0, FRow.free hp.1 1⟩))
  go_enter Try.func86, Try.ntmps86
  go_wp2_with (first
    | (go_at_call 29; (with_reducible refine (HN.out).mono ?_); rintro e w1 ⟨g, rfl, hg, h1, hb1⟩; have H1 := Aside0.mk h1; have HG := Aside0.mk (And.intro hg hb1); clear hg h1 hb1)
    | (go_at_call 117; (with_reducible refine (HD.out _ _ H1.out).mono ?_); rintro e w' ⟨rfl, w2, hw2, rfl⟩))
  go_ret
  refine ⟨g, rfl, set_s (set_d (show FAt w2.drew g 0 1 inF outF from FRow.below hw2.1 (below_drew (Below.refl _ _))) 1) 0, ?_⟩
  have hc : Ch g w1 _ := ((((Ch.set w1 1 (.int .i32 1)).trans hw2.2).trans (Ch.of_below (below_drew (Below.refl _ _)))).trans (Ch.set _ 0 (.int .u32 1))).trans (Ch.set _ 1 (.int .i32 0))
  exact hc.below HG.out.2 HG.out.2.size HG.out.1
theorem in_done {w : World} {g : Nat} (h : FAt w g 1 0 inF outF) : Calls Try.prog 30 #[.pointer (some ⟨g, 0, none⟩)] w fun e w' => e = .returned (.agg (cellsOf .u8 (cells8 inF))) ∧ FAt w' g 1 0 inF outF ∧ Below w.heap.size w w' := by
  have H := Aside0.mk (show FAt (w.alloc (.cells (cellsOf .u8 (cells8 zrow)) 67)) g 1 0 inF outF from FRow.below h (below_alloc (Below.refl _ _) _))
  have HLT := Aside0.mk (FRow.lt h)
  have M2 := Aside0.mk (Mem.new .u8 w 67 (cells8 zrow))
  have HB := Aside0.mk (below_alloc (Below.refl w.heap.size w) (.cells (cellsOf .u8 (cells8 zrow)) 67))
  clear h
  go_enter Try.func30, Try.ntmps30
  go_wp2_with (first
    | (go_at_call 86; (refine (own_done H.out).mono ?_); rintro e w' ⟨rfl, rfl⟩)
    | ((with_reducible refine gate_dst (N := 7) rfl ?_); refine wp_load_in H.out rfl (.tmp 6) rfl rfl ?_)
    | ((with_reducible refine gate_store (t := 67) (p := 2) rfl ?_); refine Mem.store (l' := cells8 inF) M2.out rfl 67 (.tmp 2) (.tmp 7) rfl rfl rfl (by rw [cells8_length]; exact info_mat) (by simp only [cells8_length]) ?_))
  refine bodyPost_ret (v := .agg (cellsOf .u8 (cells8 inF))) (results_cell_row rfl _ _ _ _ _ _ _ rfl (Mem.put M2.out (cells8 inF)) Try.underlying67 rfl (by rw [cellsOf_size, cells8_length]; exact info_mat)) rfl ⟨rfl, ?_, below_setRow HB.out (Nat.le_refl _) _⟩
  exact (setRow_other _ w.heap.size g _ (Nat.ne_of_lt HLT.out)).trans H.out
theorem in_nil : GivesB 30 #[.pointer none] (.agg (cellsOf .u8 (cells8 inF))) := by
  intro w
  have M2 := Aside0.mk (Mem.new .u8 w 67 (cells8 zrow))
  have HB := Aside0.mk (below_alloc (Below.refl w.heap.size w) (.cells (cellsOf .u8 (cells8 zrow)) 67))
  go_enter Try.func30, Try.ntmps30
  go_wp2_with (first
    | (go_at_call 86; (refine (own_nil _).mono ?_); rintro e w1 ⟨g, rfl, hF, hb1⟩; have H := Aside0.mk hF; have M2 := Aside0.mk (Mem.below M2.out hb1); have HB := Aside0.mk (below_step HB.out hb1); clear hF hb1)
    | ((with_reducible refine gate_dst (N := 7) rfl ?_); refine wp_load_in H.out rfl (.tmp 6) rfl rfl ?_)
    | ((with_reducible refine gate_store (t := 67) (p := 2) rfl ?_); refine Mem.store (l' := cells8 inF) M2.out rfl 67 (.tmp 2) (.tmp 7) rfl rfl rfl (by rw [cells8_length]; exact info_mat) (by simp only [cells8_length]) ?_))
  refine bodyPost_ret (v := .agg (cellsOf .u8 (cells8 inF))) (results_cell_row rfl _ _ _ _ _ _ _ rfl (Mem.put M2.out (cells8 inF)) Try.underlying67 rfl (by rw [cellsOf_size, cells8_length]; exact info_mat)) rfl ⟨rfl, below_setRow HB.out (Nat.le_refl _) _⟩
theorem out_done {w : World} {g : Nat} (h : FAt w g 1 0 inF outF) : Calls Try.prog 32 #[.pointer (some ⟨g, 0, none⟩)] w fun e w' => e = .returned (.agg (cellsOf .u8 (cells8 outF))) ∧ FAt w' g 1 0 inF outF ∧ Below w.heap.size w w' := by
  have H := Aside0.mk (show FAt (w.alloc (.cells (cellsOf .u8 (cells8 zrow)) 67)) g 1 0 inF outF from FRow.below h (below_alloc (Below.refl _ _) _))
  have HLT := Aside0.mk (FRow.lt h)
  have M2 := Aside0.mk (Mem.new .u8 w 67 (cells8 zrow))
  have HB := Aside0.mk (below_alloc (Below.refl w.heap.size w) (.cells (cellsOf .u8 (cells8 zrow)) 67))
  clear h
  go_enter Try.func32, Try.ntmps32
  go_wp2_with (first
    | (go_at_call 86; (refine (own_done H.out).mono ?_); rintro e w' ⟨rfl, rfl⟩)
    | ((with_reducible refine gate_dst (N := 7) rfl ?_); refine wp_load_out H.out rfl (.tmp 6) rfl rfl ?_)
    | ((with_reducible refine gate_store (t := 67) (p := 2) rfl ?_); refine Mem.store (l' := cells8 outF) M2.out rfl 67 (.tmp 2) (.tmp 7) rfl rfl rfl (by rw [cells8_length]; exact info_mat) (by simp only [cells8_length]) ?_))
  refine bodyPost_ret (v := .agg (cellsOf .u8 (cells8 outF))) (results_cell_row rfl _ _ _ _ _ _ _ rfl (Mem.put M2.out (cells8 outF)) Try.underlying67 rfl (by rw [cellsOf_size, cells8_length]; exact info_mat)) rfl ⟨rfl, ?_, below_setRow HB.out (Nat.le_refl _) _⟩
  exact (setRow_other _ w.heap.size g _ (Nat.ne_of_lt HLT.out)).trans H.out
theorem out_nil : GivesB 32 #[.pointer none] (.agg (cellsOf .u8 (cells8 outF))) := by
  intro w
  have M2 := Aside0.mk (Mem.new .u8 w 67 (cells8 zrow))
  have HB := Aside0.mk (below_alloc (Below.refl w.heap.size w) (.cells (cellsOf .u8 (cells8 zrow)) 67))
  go_enter Try.func32, Try.ntmps32
  go_wp2_with (first
    | (go_at_call 86; (refine (own_nil _).mono ?_); rintro e w1 ⟨g, rfl, hF, hb1⟩; have H := Aside0.mk hF; have M2 := Aside0.mk (Mem.below M2.out hb1); have HB := Aside0.mk (below_step HB.out hb1); clear hF hb1)
    | ((with_reducible refine gate_dst (N := 7) rfl ?_); refine wp_load_out H.out rfl (.tmp 6) rfl rfl ?_)
    | ((with_reducible refine gate_store (t := 67) (p := 2) rfl ?_); refine Mem.store (l' := cells8 outF) M2.out rfl 67 (.tmp 2) (.tmp 7) rfl rfl rfl (by rw [cells8_length]; exact info_mat) (by simp only [cells8_length]) ?_))
  refine bodyPost_ret (v := .agg (cellsOf .u8 (cells8 outF))) (results_cell_row rfl _ _ _ _ _ _ _ rfl (Mem.put M2.out (cells8 outF)) Try.underlying67 rfl (by rw [cellsOf_size, cells8_length]; exact info_mat)) rfl ⟨rfl, below_setRow HB.out (Nat.le_refl _) _⟩
theorem in_first {w : World} {g : Nat} (h : FAt w g 0 0 zrow zrow) : Calls Try.prog 30 #[.pointer (some ⟨g, 0, none⟩)] w fun e w' => e = .returned (.agg (cellsOf .u8 (cells8 inF))) ∧ FAt w' g 1 0 inF outF ∧ Ch g w w' := by
  have H := Aside0.mk (show FAt (w.alloc (.cells (cellsOf .u8 (cells8 zrow)) 67)) g 0 0 zrow zrow from FRow.below h (below_alloc (Below.refl _ _) _))
  have HLT := Aside0.mk (FRow.lt h)
  have M2 := Aside0.mk (Mem.new .u8 w 67 (cells8 zrow))
  have HC0 := Aside0.mk (Ch.of_below (g := g) (below_alloc (Below.refl w.heap.size w) (.cells (cellsOf .u8 (cells8 zrow)) 67)))
  clear h
  go_enter Try.func30, Try.ntmps30
  go_wp2_with (first
    | (go_at_call 86; (refine (own_first H.out).mono ?_); rintro e w1 ⟨rfl, hF, hc⟩; have H := Aside0.mk hF; have M2 := Aside0.mk (show Mem .u8 w1 w.heap.size 67 (cells8 zrow) from (hc.block _ M2.out.lt (fun e => absurd (Option.some.inj e) (by have := HLT.out; omega))).trans M2.out); have HC0 := Aside0.mk (HC0.out.trans hc); clear hF hc)
    | ((with_reducible refine gate_dst (N := 7) rfl ?_); refine wp_load_in H.out rfl (.tmp 6) rfl rfl ?_)
    | ((with_reducible refine gate_store (t := 67) (p := 2) rfl ?_); refine Mem.store (l' := cells8 inF) M2.out rfl 67 (.tmp 2) (.tmp 7) rfl rfl rfl (by rw [cells8_length]; exact info_mat) (by simp only [cells8_length]) ?_))
  refine bodyPost_ret (v := .agg (cellsOf .u8 (cells8 inF))) (results_cell_row rfl _ _ _ _ _ _ _ rfl (Mem.put M2.out (cells8 inF)) Try.underlying67 rfl (by rw [cellsOf_size, cells8_length]; exact info_mat)) rfl ⟨rfl, ?_, ?_⟩
  · exact (setRow_other _ w.heap.size g _ (Nat.ne_of_lt HLT.out)).trans H.out
  · have hC := HC0.out
    exact ⟨hC.os, hC.tape, hC.output, by rw [setRow_size]; exact hC.size, fun k hk hne => (setRow_other _ w.heap.size k _ (Nat.ne_of_lt hk)).trans (hC.block k hk hne)⟩
end Go.Proofs.Ytphdlidaigalkaa.Mat
namespace Go.Proofs.Ytphdlidaigalkaa.Mat
open Go.RowKit Go.Proofs.Ytphdlidaigalkaa.PNib Go.Proofs.YtphdlidaigalkaaW.PrintWords Go.Proofs.YtphdlidaigalkaaW.PrintLast Go.Proofs.YtphdlidaigalkaaW.PrintMore Byte Sl Arr Mem Gives ArrEq
set_option linter.unusedVariables false
set_option linter.unusedSimpArgs false
set_option maxHeartbeats 4000000
set_option maxRecDepth 100000
def colTo' (j : Nat) : Rows := fun k => if k < j then TowE.cols k else 0#8
theorem colTo'_zero : cells8 (colTo' 0) = cells8 zrow := cells8_congr fun k _ => rfl
theorem colTo'_end : cells8 (flipF (colTo' 8)) = cells8 inF := cells8_congr fun k hk => ext8 fun j hj => by
  unfold inF
  rw [flip_bit _ _ _ hj, flip_bit _ _ _ hj]
  unfold colTo'
  rw [if_pos hj]
theorem colTo'_set (j : Nat) (hj : j < 8) : (cells8 (colTo' j)).set j (I8 (TowE.cols j)) = cells8 (colTo' (j + 1)) := by
  rw [cells8_set _ _ hj]
  refine put_congr fun k _ => ?_
  unfold colTo'
  by_cases h : k = j
  · subst h; simp
  · by_cases h2 : k < j
    · simp [h, h2, show k < j + 1 by omega]
    · simp [h, h2, show ¬ k < j + 1 by omega]
theorem rinmat_c : GivesB 31 #[] (.agg (cellsOf .u8 (cells8 inF))) := by
  intro w
  have M1 := Aside0.mk (Mem.alloc (Mem.new .u8 w 67 (cells8 zrow)) (.cells (cellsOf .u8 (cells8 zrow)) 66))
  have M2 := Aside0.mk (Mem.new2 .u8 w (.cells (cellsOf .u8 (cells8 zrow)) 67) 66 (cells8 zrow))
  have HB := Aside0.mk (below_alloc (below_alloc (Below.refl w.heap.size w) (.cells (cellsOf .u8 (cells8 zrow)) 67)) (.cells (cellsOf .u8 (cells8 zrow)) 66))
  go_enter Try.func31, Try.ntmps31
  go_wp2_with (first
    | ((with_reducible refine gate_dst (N := 3) rfl ?_); refine wpList_build_zero rfl 66 rfl _ built8c ?_)
    | ((with_reducible refine gate_store (t := 66) (p := 1) rfl ?_); refine Mem.store (l' := cells8 zrow) M2.out rfl 66 (.tmp 1) (.tmp 3) rfl rfl rfl (by rw [cells8_length]; exact info_c8) (by simp only [cells8_length]) ?_))
  have N1 := Aside0.mk (Mem.row M1.out (g' := w.heap.size + 1) (by omega) (cellsOf .u8 (cells8 zrow)))
  have N2 := Aside0.mk (Mem.put M2.out (cells8 zrow))
  have NB := Aside0.mk (below_setRow HB.out (g := w.heap.size + 1) (by omega) (cellsOf .u8 (cells8 zrow)))
  clear M1 M2 HB
  go_loopg [2] 8 (fun kq iv w' => ∃ j : Nat, j + kq = 8 ∧ iv = .int .i64 j ∧ Aside0 (Mem .u8 w' w.heap.size 67 (cells8 zrow)) ∧ Aside0 (Mem .u8 w' (w.heap.size + 1) 66 (cells8 (colTo' j))) ∧ Aside0 (Below w.heap.size w w'))
  case atStart => exact ⟨0, by omega, rfl, N1, ⟨by rw [colTo'_zero]; exact N2.out⟩, NB⟩
  case round =>
    clear N1 N2 NB
    obtain ⟨j, hj, rfl, M1, M2, HB⟩ := hrel
    cases gk with
    | zero =>
      obtain rfl : j = 8 := by omega
      have HC := rcolumns_c (colTo' 8)
      rw [matV_eq, matV_eq, colTo'_end] at HC
      have HC := Aside0.mk HC
      go_wp2_with (first
        | ((with_reducible refine gate_dst (N := 14) rfl ?_); refine Mem.load M2.out rfl 66 (.tmp 1) rfl rfl Try.underlying66 (by rw [cells8_length]; exact info_c8) ?_)
        | (go_at_call 88; (with_reducible refine (HC.out.q _).mono ?_); rintro e w1 ⟨rfl, hb1⟩; have M1 := Aside0.mk (Mem.below M1.out hb1); have HB := Aside0.mk (below_step HB.out hb1))
        | ((with_reducible refine gate_store (t := 67) (p := 0) rfl ?_); refine Mem.store (l' := cells8 inF) M1.out rfl 67 (.tmp 0) (.tmp 15) rfl rfl rfl (by rw [cells8_length]; exact info_mat) (by simp only [cells8_length]) ?_))
      refine bodyPost_ret (v := .agg (cellsOf .u8 (cells8 (inF)))) (results_cell_row rfl _ _ _ _ _ _ _ rfl (Mem.put M1.out (cells8 (inF))) Try.underlying67 rfl (by rw [cellsOf_size, cells8_length]; exact info_mat)) rfl ⟨rfl, below_setRow HB.out (by omega) _⟩
    | succ k1 =>
      have hlt : j < 8 := by omega
      have HJ := Aside0.mk hj
      clear hj
      have HV := Aside0.mk (colTo'_set j hlt)
      have hb1 : (j : Int) < 8 := by omega
      have hb2 : (j : Int) ≤ 8 := by omega
      have hb3 : (0 : Int) ≤ (j : Int) := by omega
      have hjw := wrapu j (by omega)
      have hs := shl1 j
      have HC := Aside0.mk (rin_c j hlt).b
      generalize hu : 1#8 <<< j = u at *
      clear hu
      generalize TowE.cols j = cj at *
      go_wp2_with (first
        | (go_at_call 87; (with_reducible refine (HC.out.q _).mono ?_); rintro e w2 ⟨rfl, hb2⟩; have M1 := Aside0.mk (Mem.below M1.out hb2); have M2 := Aside0.mk (Mem.below M2.out hb2); have HB := Aside0.mk (below_step HB.out hb2); have hx := M2.out.cell j (by rw [cells8_length]; exact hlt); have hf := M2.out.free j))
      go_roundg k1
      case measure => omega
      case rel => exact ⟨j + 1, by have := HJ.out; omega, by go_num, ⟨Mem.other M1.out (g' := w.heap.size + 1) (by omega) _ _⟩, ⟨by rw [← HV.out]; exact Mem.set M2.out _ _⟩, ⟨below_set HB.out (by omega)⟩⟩
theorem routmat_c : GivesB 33 #[] (.agg (cellsOf .u8 (cells8 outF))) := by
  intro w
  have M1 := Aside0.mk (Mem.new .u8 w 67 (cells8 zrow))
  have HB := Aside0.mk (below_alloc (Below.refl w.heap.size w) (.cells (cellsOf .u8 (cells8 zrow)) 67))
  have C1 := Aside0.mk rinmat_c
  have C2 := Aside0.mk (rinv_c inF)
  rw [matV_eq] at C2
  go_enter Try.func33, Try.ntmps33
  go_wp2_with (first
    | (go_at_call 31; (with_reducible refine (C1.out.q _).mono ?_); rintro e w1 ⟨rfl, hb1⟩; have M1 := Aside0.mk (Mem.below M1.out hb1); have HB := Aside0.mk (below_step HB.out hb1))
    | (go_at_call 89; (with_reducible refine (C2.out _).mono ?_); rintro e w2 ⟨g2, ok2, rfl, hI, hb2⟩; have HI := Aside0.mk (rinv_out hI).2; have lt1 := Nat.lt_of_lt_of_le M1.out.lt hb2.size; have M1 := Aside0.mk (Mem.row (Mem.alloc (Mem.below M1.out hb2) (.cells (cellsOf .u8 (cells8 zrow)) 67)) (g' := w2.heap.size) (by omega) (cellsOf .u8 (cells8 outF))); have Z2 := Aside0.mk (Mem.new .u8 w2 67 (cells8 zrow)); have N2 := Aside0.mk (Mem.put Z2.out (cells8 outF)); have hs2 := (below_step HB.out hb2).size; have HB := Aside0.mk (below_setRow (below_alloc (below_step HB.out hb2) (.cells (cellsOf .u8 (cells8 zrow)) 67)) (g := w2.heap.size) hs2 (cellsOf .u8 (cells8 outF))); rw [matV_eq, HI.out]; clear hI hb2)
    | ((with_reducible refine gate_store (t := 67) (p := 1) rfl ?_); refine Mem.store (l' := cells8 outF) Z2.out rfl 67 (.tmp 1) (.tmp 6) rfl rfl rfl (by rw [cells8_length]; exact info_mat) (by simp only [cells8_length]) ?_)
    | ((with_reducible refine gate_dst (N := 8) rfl ?_); refine Mem.load N2.out rfl 67 (.tmp 1) rfl rfl Try.underlying67 (by rw [cells8_length]; exact info_mat) ?_)
    | ((with_reducible refine gate_store (t := 67) (p := 0) rfl ?_); refine Mem.store (l' := cells8 outF) M1.out rfl 67 (.tmp 0) (.tmp 8) rfl rfl rfl (by rw [cells8_length]; exact info_mat) (by simp only [cells8_length]) ?_))
  refine bodyPost_ret (v := .agg (cellsOf .u8 (cells8 (outF)))) (results_cell_row rfl _ _ _ _ _ _ _ rfl (Mem.put M1.out (cells8 (outF))) Try.underlying67 rfl (by rw [cellsOf_size, cells8_length]; exact info_mat)) rfl ⟨rfl, below_setRow HB.out (by omega) _⟩
end Go.Proofs.Ytphdlidaigalkaa.Mat
namespace Go.Proofs.Ytphdlidaigalkaa.Mat
open Go.RowKit Go.Proofs.Ytphdlidaigalkaa.PNib Go.Proofs.YtphdlidaigalkaaW.PrintWords Go.Proofs.YtphdlidaigalkaaW.PrintLast Go.Proofs.YtphdlidaigalkaaW.PrintMore Byte Sl Arr Mem Gives ArrEq
set_option linter.unusedVariables false
set_option linter.unusedSimpArgs false
set_option maxHeartbeats 4000000
set_option maxRecDepth 100000
theorem rnib_c (a b : BitVec 8) : GivesB 34 #[.int .u8 (I8 a), .int .u8 (I8 b)] (.int .u8 (I8 (NibMath.mul a b))) := Gives.b fun w => visorref04_Mul.calls 100 _ _ _ w (NibE.RMul_eq a b 100 (by decide))
theorem rtmul_c (a b : BitVec 8) : GivesB 36 #[.int .u8 (I8 a), .int .u8 (I8 b)] (.int .u8 (I8 (TowMath.tmul a b))) := Gives.b fun w => visorref06_Mul.calls 100 _ _ _ w (TowE.RMul_eq a b 100 (by decide))
theorem norm_c (a : BitVec 8) : GivesB 37 #[.int .u8 (I8 a)] (.int .u8 (I8 (TowMath.nor a))) := fun w => tower_Norm.calls 100 _ _ w (TowE.Norm_eq a 100 (by decide))
theorem tinv_c (a : BitVec 8) : GivesB 38 #[.int .u8 (I8 a)] (.int .u8 (I8 (TowMath.tinv a))) := fun w => tower_Inv.calls 100 _ _ w (TowE.Inv_eq a 100 (by decide))
theorem rtinv_c (a : BitVec 8) : GivesB 39 #[.int .u8 (I8 a)] (.int .u8 (I8 (TowMath.tinv a))) := Gives.b fun w => visorref06_Inv.calls 400 _ _ w (TowE.RInv_eq a 400 (by decide))
theorem rroot_c : GivesB 41 #[] (.int .u8 32) := Gives.b fun w => visorref06_Root.calls 400 _ w TowE.RRoot_eq
theorem tawake_c : GivesB 42 #[] (.bool true) := Gives.b fun w => visorlaw06_awake.calls 100 _ w TowE.awake_eq
theorem tne_self (f : Rows) (w : World) : (binOp .neq 67 (.agg (cellsOf .u8 (cells8 f))) (.agg (cellsOf .u8 (cells8 f)))).run Try.prog w = .ok (.bool false) w := by rw [neqs, decide_eq_true rfl]; rfl
theorem quo16 : ∀ a : BitVec 8, I8 a / 16 = I8 (TowMath.hi a) ∧ Int.tdiv (I8 a) 16 = I8 (TowMath.hi a) ∧ I8 a % 16 = I8 (TowMath.lw a) ∧ Int.tmod (I8 a) 16 = I8 (TowMath.lw a) := by decide +kernel
theorem mod256 (a : BitVec 8) : I8 a % 256 = I8 a := Int.emod_eq_of_lt (I8_lo a) (I8_hi a)
theorem tower_tells (a b : BitVec 8) (w : World) : Calls Try.prog 6 #[.int .u8 (I8 a), .int .u8 (I8 b)] w fun e w' => e = .returned (.bool true) ∧ Below w.heap.size w w' := by
  have HB := Aside0.mk (Below.refl w.heap.size w)
  have C0 := Aside0.mk new_c
  have C1 := Aside0.mk rinmat_c
  have C2 := Aside0.mk routmat_c
  have C3 := Aside0.mk in_nil
  have C4 := Aside0.mk out_nil
  have E1 := tne_self inF
  have E2 := tne_self outF
  obtain ⟨h, hh⟩ : ∃ h, h = TowMath.hi a := ⟨_, rfl⟩
  obtain ⟨l, hl⟩ : ∃ l, l = TowMath.lw a := ⟨_, rfl⟩
  have f1 : Int.tdiv (I8 a) 16 = I8 h := by rw [hh]; exact (quo16 a).2.1
  have f2 : I8 h % 256 = I8 h := mod256 h
  have f3 : Int.tmod (I8 a) 16 = I8 l := by rw [hl]; exact (quo16 a).2.2.2
  have D1 := Aside0.mk (rnib_c h h)
  have D2 := Aside0.mk (show GivesB 34 #[.int .u8 (I8 (NibMath.mul h h)), .int .u8 8] _ from rnib_c (NibMath.mul h h) 8#8)
  have D3 := Aside0.mk (rnib_c h l)
  have D4 := Aside0.mk (rnib_c l l)
  have f4 := xor8 (NibMath.mul (NibMath.mul h h) 8#8) (NibMath.mul h l)
  have f5 := xor8 (NibMath.mul (NibMath.mul h h) 8#8 ^^^ NibMath.mul h l) (NibMath.mul l l)
  have hn : NibMath.mul (NibMath.mul h h) 8#8 ^^^ NibMath.mul h l ^^^ NibMath.mul l l = TowMath.nor a := by rw [hh, hl]; rfl
  rw [hn] at f5
  have D5 := Aside0.mk (tmul_c a b).b
  have D6 := Aside0.mk (rtmul_c a b)
  have D7 := Aside0.mk (norm_c a)
  have D8 := Aside0.mk (tinv_c a)
  have D9 := Aside0.mk (rtinv_c a)
  have D10 := Aside0.mk root_c.b
  have D11 := Aside0.mk rroot_c
  have D12 := Aside0.mk tawake_c
  clear hh hl hn
  generalize NibMath.mul (NibMath.mul h h) 8#8 ^^^ NibMath.mul h l = p5 at *
  generalize NibMath.mul (NibMath.mul h h) 8#8 = p2 at *
  generalize NibMath.mul h h = p1 at *
  generalize NibMath.mul h l = p3 at *
  generalize NibMath.mul l l = p4 at *
  generalize TowMath.nor a = nn at *
  generalize TowMath.tmul a b = tt at *
  generalize TowMath.tinv a = vv at *
  go_enter Try.func6, Try.ntmps6
  go_wp2_with (first
    | (go_at_call 29; (with_reducible refine (C0.out _).mono ?_); rintro e w1 ⟨g, rfl, hg, hF, hb1⟩; have H0 := Aside0.mk hF; have HG := Aside0.mk hg; have HB := Aside0.mk (below_step HB.out hb1); clear hg hF hb1)
    | (go_at_call 30; (refine (in_first H0.out).mono ?_); rintro e w2 ⟨rfl, hF, hc⟩; have HB := Aside0.mk (hc.below HB.out HB.out.size HG.out); have H := Aside0.mk hF; clear hF hc H0)
    | (go_at_call 30; (refine (in_done H.out).mono ?_); rintro e w3 ⟨rfl, hF, hb3⟩; have H := Aside0.mk hF; have HB := Aside0.mk (below_step HB.out hb3); clear hF hb3)
    | (go_at_call 32; (refine (out_done H.out).mono ?_); rintro e w4 ⟨rfl, hF, hb4⟩; have H := Aside0.mk hF; have HB := Aside0.mk (below_step HB.out hb4); clear hF hb4)
    | (go_at_call 30; (with_reducible refine (C3.out.q _).mono ?_); rintro e w5 ⟨rfl, hb5⟩; have H := Aside0.mk (show FAt w5 g 1 0 inF outF from FRow.below H.out hb5); have HB := Aside0.mk (below_step HB.out hb5); clear hb5)
    | (go_at_call 32; (with_reducible refine (C4.out.q _).mono ?_); rintro e w6 ⟨rfl, hb6⟩; have H := Aside0.mk (show FAt w6 g 1 0 inF outF from FRow.below H.out hb6); have HB := Aside0.mk (below_step HB.out hb6); clear hb6)
    | (go_at_call 31; (with_reducible refine (C1.out.q _).mono ?_); rintro e w7 ⟨rfl, hb7⟩; have H := Aside0.mk (show FAt w7 g 1 0 inF outF from FRow.below H.out hb7); have HB := Aside0.mk (below_step HB.out hb7); clear hb7)
    | (go_at_call 33; (with_reducible refine (C2.out.q _).mono ?_); rintro e w8 ⟨rfl, hb8⟩; have H := Aside0.mk (show FAt w8 g 1 0 inF outF from FRow.below H.out hb8); have HB := Aside0.mk (below_step HB.out hb8); clear hb8)
    | ((with_reducible refine gate_dst (N := 15) rfl ?_); (try (refine gate_guard (by rfl) ?_; dsimp only)); refine wpList_eql_row rfl rfl rfl rfl guardM (E1 _) ?_)
    | ((with_reducible refine gate_dst (N := 21) rfl ?_); (try (refine gate_guard (by rfl) ?_; dsimp only)); refine wpList_eql_row rfl rfl rfl rfl guardM (E2 _) ?_)
    | ((with_reducible refine gate_dst (N := 27) rfl ?_); (try (refine gate_guard (by rfl) ?_; dsimp only)); refine wpList_eql_row rfl rfl rfl rfl guardM (E1 _) ?_)
    | ((with_reducible refine gate_dst (N := 33) rfl ?_); (try (refine gate_guard (by rfl) ?_; dsimp only)); refine wpList_eql_row rfl rfl rfl rfl guardM (E2 _) ?_)
    | ((with_reducible refine gate_dst (N := 39) rfl ?_); (try (refine gate_guard (by rfl) ?_; dsimp only)); refine wpList_eql_row rfl rfl rfl rfl guardM (E1 _) ?_)
    | (go_at_call 34; (with_reducible refine (D1.out.q _).mono ?_); rintro e wa1 ⟨rfl, hba1⟩; have HB := Aside0.mk (below_step HB.out hba1))
    | (go_at_call 34; (with_reducible refine (D2.out.q _).mono ?_); rintro e wa2 ⟨rfl, hba2⟩; have HB := Aside0.mk (below_step HB.out hba2))
    | (go_at_call 34; (with_reducible refine (D3.out.q _).mono ?_); rintro e wa3 ⟨rfl, hba3⟩; have HB := Aside0.mk (below_step HB.out hba3))
    | (go_at_call 34; (with_reducible refine (D4.out.q _).mono ?_); rintro e wa4 ⟨rfl, hba4⟩; have HB := Aside0.mk (below_step HB.out hba4))
    | (go_at_call 35; (with_reducible refine (D5.out.q _).mono ?_); rintro e wa5 ⟨rfl, hba5⟩; have HB := Aside0.mk (below_step HB.out hba5))
    | (go_at_call 36; (with_reducible refine (D6.out.q _).mono ?_); rintro e wa6 ⟨rfl, hba6⟩; have HB := Aside0.mk (below_step HB.out hba6))
    | (go_at_call 37; (with_reducible refine (D7.out.q _).mono ?_); rintro e wa7 ⟨rfl, hba7⟩; have HB := Aside0.mk (below_step HB.out hba7))
    | (go_at_call 38; (with_reducible refine (D8.out.q _).mono ?_); rintro e wa8 ⟨rfl, hba8⟩; have HB := Aside0.mk (below_step HB.out hba8))
    | (go_at_call 39; (with_reducible refine (D9.out.q _).mono ?_); rintro e wa9 ⟨rfl, hba9⟩; have HB := Aside0.mk (below_step HB.out hba9))
    | (go_at_call 40; (with_reducible refine (D10.out.q _).mono ?_); rintro e wa10 ⟨rfl, hba10⟩; have HB := Aside0.mk (below_step HB.out hba10))
    | (go_at_call 41; (with_reducible refine (D11.out.q _).mono ?_); rintro e wa11 ⟨rfl, hba11⟩; have HB := Aside0.mk (below_step HB.out hba11))
    | (go_at_call 42; (with_reducible refine (D12.out.q _).mono ?_); rintro e wa12 ⟨rfl, hba12⟩; have HB := Aside0.mk (below_step HB.out hba12)))
  go_ret
  exact ⟨rfl, HB.out⟩
theorem tower_tells_walk (a b : Int) (w : World) (wa : (Lit.int .u8 a).wf = true) (wb : (Lit.int .u8 b).wf = true) : Calls Try.prog 6 #[.int .u8 a, .int .u8 b] w fun e w' => e = .returned (.bool true) ∧ Below w.heap.size w w' := by
  obtain ⟨a, rfl⟩ := byte_of wa
  obtain ⟨b, rfl⟩ := byte_of wb
  exact tower_tells a b w
end Go.Proofs.Ytphdlidaigalkaa.Mat
namespace Go.Proofs.Ytphdlidaigalkaa.Mat
open Go.RowKit Go.Proofs.Ytphdlidaigalkaa.PNib Go.Proofs.YtphdlidaigalkaaW.PrintWords Go.Proofs.YtphdlidaigalkaaW.PrintLast Go.Proofs.YtphdlidaigalkaaW.PrintMore Byte Sl Arr Mem Gives ArrEq
set_option linter.unusedVariables false
set_option linter.unusedSimpArgs false
set_option maxHeartbeats 4000000
set_option maxRecDepth 100000
theorem rgmul_c (a b : BitVec 8) : GivesB 44 #[.int .u8 (I8 a), .int .u8 (I8 b)] (.int .u8 (I8 (GfMath.mul a b))) := Gives.b fun w => visorref03_Mul.calls 100 _ _ _ w (GfE.RMul_eq a b 100 (by decide))
theorem ginv_c (a : BitVec 8) : GivesB 45 #[.int .u8 (I8 a)] (.int .u8 (I8 (GfMath.pow a 254))) := Gives.b fun w => gf_Inv.calls 100 _ _ w (GfE.Inv_eq a 100 (by decide))
theorem ninv_c (a : BitVec 8) : GivesB 47 #[.int .u8 (I8 a)] (.int .u8 (I8 (TowMath.ninv a))) := fun w => nib_Inv.calls 100 _ _ w (by rw [NibE.Inv_eq a 100 (by decide), TowE.ninv_eq])
/-! ### what is turned in -/
theorem in_mul_units : ∀ i j : Fin 8, app inR (GfMath.mul (TowMath.unit8 i.val) (TowMath.unit8 j.val)) = TowMath.tmul (app inR (TowMath.unit8 i.val)) (app inR (TowMath.unit8 j.val)) := by decide +kernel
theorem in_mul (a b : BitVec 8) : app inF (GfMath.mul a b) = TowMath.tmul (app inF a) (app inF b) := by
  rw [in_app, in_app, in_app]
  refine TowMath.lin_ext (F := fun a => app inR (GfMath.mul a b)) (G := fun a => TowMath.tmul (app inR a) (app inR b)) (fun x y => by simp only [GfMath.mul_left, app_xor]) (fun x y => by simp only [app_xor, TowMath.xor_tmul]) (fun i hi => ?_) a
  refine TowMath.lin_ext (F := fun b => app inR (GfMath.mul (TowMath.unit8 i) b)) (G := fun b => TowMath.tmul (app inR (TowMath.unit8 i)) (app inR b)) (fun x y => by simp only [GfMath.mul_right, app_xor]) (fun x y => by simp only [app_xor, TowMath.tmul_xor]) (fun j hj => ?_) b
  exact in_mul_units ⟨i, hi⟩ ⟨j, hj⟩
theorem in_one : app inF 1#8 = 1#8 := by rw [in_app]; decide +kernel
theorem g_inv (a : BitVec 8) (h : a ≠ 0#8) : GfMath.mul a (GfMath.pow a 254) = 1#8 := by
  obtain ⟨e, _, rfl⟩ := GfMath.is_pow a h
  rw [GfMath.mul_comm]
  show GfMath.pow (GfMath.pow 3#8 e) 255 = 1#8
  rw [← GfMath.pow_mul, Nat.mul_comm, GfMath.pow_mul, GfMath.pow_255, GfMath.one_pow]
theorem in_inv (a : BitVec 8) : app inF (GfMath.pow a 254) = TowMath.tinv (app inF a) := by
  by_cases h : a = 0#8
  · subst h
    rw [show GfMath.pow 0#8 254 = 0#8 from GfMath.zero_pow 253, app_zero, TowMath.tinv_zero]
  · exact TowMath.tinv_uniq _ _ (by rw [← in_mul, g_inv a h, in_one])
theorem tinv_add (a : BitVec 8) : (I8 (NibMath.mul (TowMath.hi a) (TowMath.ninv (TowMath.nor a)) <<< 4) + I8 (NibMath.mul (TowMath.hi a ^^^ TowMath.lw a) (TowMath.ninv (TowMath.nor a)))) % 256 = I8 (TowMath.tinv a) := by
  rw [TowE.add8, TowMath.add_xor _ _ (NibMath.mul_nib _ _)]
  unfold TowMath.tinv
  rw [TowMath.or_xor _ _ (NibMath.mul_nib _ _)]
theorem tower_keeps (a b c : BitVec 8) (w : World) : Calls Try.prog 7 #[.int .u8 (I8 a), .int .u8 (I8 b), .int .u8 (I8 c)] w fun e w' => e = .returned (.bool true) ∧ Below w.heap.size w w' := by
  have HB := Aside0.mk (Below.refl w.heap.size w)
  have C0 := Aside0.mk new_c
  obtain ⟨x, hx⟩ : ∃ x, x = app inF a := ⟨_, rfl⟩
  obtain ⟨y, hy⟩ : ∃ y, y = app inF b := ⟨_, rfl⟩
  have c1 := rapp_c inF a
  have c2 := rapp_c inF b
  have c3 := rapp_c outF x
  have c4 := rapp_c inF (GfMath.mul a b)
  have c5 := rapp_c inF (a ^^^ b)
  have c6 := rapp_c inF (GfMath.pow a 254)
  have c7 := app_c inF 1#8
  rw [← hx] at c1
  rw [← hy] at c2
  rw [hx, out_in] at c3
  rw [← hx] at c3
  rw [in_mul, ← hx, ← hy] at c4
  rw [app_xor, ← hx, ← hy, ← xor8 a b, ← xor8 x y] at c5
  rw [in_inv, ← hx] at c6
  rw [in_one, show I8 1#8 = 1 from rfl] at c7
  have C1 := Aside0.mk c1
  have C2 := Aside0.mk c2
  have C3 := Aside0.mk c3
  have C4 := Aside0.mk c4
  have C5 := Aside0.mk c5
  have C6 := Aside0.mk c6
  have C7 := Aside0.mk c7
  rw [matV_eq] at C1 C2 C3 C4 C5 C6 C7
  have D1 := Aside0.mk (rgmul_c a b)
  have D2 := Aside0.mk (tmul_c x y).b
  have D3 := Aside0.mk (ginv_c a)
  have D4 := Aside0.mk (tinv_c x)
  have F1 := Aside0.mk (tmul_c b c).b
  have F2 := Aside0.mk (tmul_c a (TowMath.tmul b c)).b
  have F3 := Aside0.mk (tmul_c a b).b
  have f4 := (tmul_c (TowMath.tmul a b) c).b
  rw [← TowMath.tmul_assoc] at f4
  have F4 := Aside0.mk f4
  have f5 := (tmul_c a (b ^^^ c)).b
  rw [TowMath.tmul_xor, ← xor8 b c, ← xor8 (TowMath.tmul a b)] at f5
  have F5 := Aside0.mk f5
  have F6 := Aside0.mk (tmul_c a c).b
  have F7 := Aside0.mk (norm_c a)
  have F8 := Aside0.mk (ninv_c (TowMath.nor a))
  have F9 := Aside0.mk (tinv_c a)
  have F10 := Aside0.mk (rnib_c (TowMath.hi a) (TowMath.ninv (TowMath.nor a)))
  have f11 := rnib_c (TowMath.hi a ^^^ TowMath.lw a) (TowMath.ninv (TowMath.nor a))
  have F11 := Aside0.mk f11
  have F12 := Aside0.mk (tmul_c a (TowMath.tinv a)).b
  have F13 := Aside0.mk tawake_c
  have e1 := tinv_add a
  have e2 := TowE.shl16 (NibMath.mul (TowMath.hi a) (TowMath.ninv (TowMath.nor a)))
  have e3 := xor8 (TowMath.hi a) (TowMath.lw a)
  have q1 := (quo16 a).2.1
  have q2 := mod256 (TowMath.hi a)
  have q3 := (quo16 a).2.2.2
  have HT := Aside0.mk (TowMath.tinv_mul a)
  clear hx hy c1 c2 c3 c4 c5 c6 c7 f4 f5 f11
  generalize TowMath.hi a = h at *
  generalize TowMath.lw a = l at *
  generalize TowMath.nor a = nn at *
  generalize TowMath.ninv nn = ni at *
  generalize NibMath.mul h ni <<< 4 = s4 at *
  generalize NibMath.mul h ni = p1 at *
  generalize NibMath.mul (h ^^^ l) ni = p2 at *
  generalize h ^^^ l = hl at *
  generalize GfMath.mul a b = gm at *
  generalize GfMath.pow a 254 = gi at *
  generalize TowMath.tmul a (TowMath.tinv a) = one at *
  generalize TowMath.tinv a = va at *
  generalize TowMath.tinv x = vx at *
  generalize TowMath.tmul x y = txy at *
  generalize TowMath.tmul a (TowMath.tmul b c) = tabc at *
  generalize TowMath.tmul a b = tab at *
  generalize TowMath.tmul a c = tac at *
  generalize TowMath.tmul b c = tbc at *
  go_enter Try.func7, Try.ntmps7
  go_wp2_with (first
    | (go_at_call 29; (with_reducible refine (C0.out _).mono ?_); rintro e w1 ⟨g, rfl, hg, hF, hb1⟩; have H0 := Aside0.mk hF; have HG := Aside0.mk hg; have HB := Aside0.mk (below_step HB.out hb1); clear hg hF hb1)
    | (go_at_call 30; (refine (in_first H0.out).mono ?_); rintro e w2 ⟨rfl, hF, hc⟩; have HB := Aside0.mk (hc.below HB.out HB.out.size HG.out); have H := Aside0.mk hF; clear hF hc H0)
    | (go_at_call 32; (refine (out_done H.out).mono ?_); rintro e w3 ⟨rfl, hF, hb3⟩; have HB := Aside0.mk (below_step HB.out hb3); have HS3 := Aside0.mk HB.out.size; have N8 := Aside0.mk (Mem.alloc (Mem.new .u8 w3 67 (cells8 zrow)) (.cells (cellsOf .u8 (cells8 zrow)) 67)); have N9 := Aside0.mk (Mem.new2 .u8 w3 (.cells (cellsOf .u8 (cells8 zrow)) 67) 67 (cells8 zrow)); have HB := Aside0.mk (below_alloc (below_alloc HB.out (.cells (cellsOf .u8 (cells8 zrow)) 67)) (.cells (cellsOf .u8 (cells8 zrow)) 67)); clear hF hb3 H)
    | ((with_reducible refine gate_store (t := 67) (p := 8) rfl ?_); refine Mem.store (l' := cells8 inF) N8.out rfl 67 (.tmp 8) (.tmp 17) rfl rfl rfl (by rw [cells8_length]; exact info_mat) (by simp only [cells8_length]) ?_)
    | ((with_reducible refine gate_store (t := 67) (p := 9) rfl ?_); refine Mem.store (l' := cells8 outF) (Mem.row N9.out (g' := w3.heap.size) (by omega) (cellsOf .u8 (cells8 inF))) rfl 67 (.tmp 9) (.tmp 19) rfl rfl rfl (by rw [cells8_length]; exact info_mat) (by simp only [cells8_length]) ?_))
  have M8 := Aside0.mk (Mem.row (Mem.put N8.out (cells8 inF)) (g' := w3.heap.size + 1) (by omega) (cellsOf .u8 (cells8 outF)))
  have M9 := Aside0.mk (Mem.put (Mem.row N9.out (g' := w3.heap.size) (by omega) (cellsOf .u8 (cells8 inF))) (cells8 outF))
  have HB := Aside0.mk (below_setRow (below_setRow HB.out (g := w3.heap.size) HS3.out (cellsOf .u8 (cells8 inF))) (g := w3.heap.size + 1) (by have := HS3.out; omega) (cellsOf .u8 (cells8 outF)))
  clear N8 N9
  have hl0 := mem_loads (Mem.drew M8.out)
  have hl1 := mem_loads (Mem.drew M9.out)
  refine start_ (n := 8) (S := fun w' => (loadVar 67 ⟨w3.heap.size, 0, none⟩).run Try.prog w' = .ok (.agg (cellsOf .u8 (cells8 inF))) w' ∧ (loadVar 67 ⟨w3.heap.size + 1, 0, none⟩).run Try.prog w' = .ok (.agg (cellsOf .u8 (cells8 outF))) w') (ds := []) #[false, false, false, false, false, false, false, false] (by kernel_rfl) rfl rfl ⟨hl0, hl1⟩ (fun hHeld => ?_)
  refine pure_ (i := 1) (N := some 21) (v := ?_) (a' := ?_) #[false, true, false, false, false, false, false, false] rfl rfl (by kernel_rfl) (fun _ _ _ h => h) (Or.inl ⟨by rfl, ?_⟩) ?_ ?_
  rotate_left
  · intro w'
    go_simp
    with_reducible rfl
  rotate_left
  · simp only [Act.put, List.setIfInBounds_toArray, List.set_cons_zero, List.set_cons_succ, i64_w, i32_w]
    rfl
  refine pure_ (i := 4) (N := some 24) (v := ?_) (a' := ?_) #[false, true, false, false, true, false, false, false] rfl rfl (by kernel_rfl) (fun _ _ _ h => h) (Or.inl ⟨by rfl, ?_⟩) ?_ ?_
  rotate_left
  · intro w'
    go_simp
    with_reducible rfl
  rotate_left
  · simp only [Act.put, List.setIfInBounds_toArray, List.set_cons_zero, List.set_cons_succ, i64_w, i32_w]
    rfl
  refine take_ (i := 0) (N := some 20) (v := ?_) (a' := ?_) #[true, true, false, false, true, false, false, false] rfl rfl (by kernel_rfl) (fun _ _ _ h => h) (Or.inl ⟨by rfl, ?_⟩) hHeld ?_ ?_
  rotate_left
  · rintro w' ⟨s0, s1⟩
    refine (load_yields rfl rfl s0).trans ?_
    with_reducible rfl
  rotate_left
  · simp only [Act.put, List.setIfInBounds_toArray, List.set_cons_zero, List.set_cons_succ, i64_w, i32_w]
    rfl
  refine take_ (i := 3) (N := some 23) (v := ?_) (a' := ?_) #[true, true, false, true, true, false, false, false] rfl rfl (by kernel_rfl) (fun _ _ _ h => h) (Or.inl ⟨by rfl, ?_⟩) hHeld ?_ ?_
  rotate_left
  · rintro w' ⟨s0, s1⟩
    refine (load_yields rfl rfl s0).trans ?_
    with_reducible rfl
  rotate_left
  · simp only [Act.put, List.setIfInBounds_toArray, List.set_cons_zero, List.set_cons_succ, i64_w, i32_w]
    rfl
  refine one_ (i := 2) (N := some 22) #[true, true, true, true, true, false, false, false] rfl rfl (by kernel_rfl) (by decide) (fun K hK => ?_)
  refine goes_ Try.func43 (by kernel_rfl) rfl #[.agg (cellsOf .u8 (cells8 inF)), .int .u8 (I8 a)] (by rfl) rfl rfl (by simp only [List.map_toArray, List.map_cons, List.map_nil]; rfl) ?_
  with_reducible refine (C1.out.q _).mono ?_
  rintro e w51 ⟨rfl, hb51⟩
  refine ⟨_, rfl, ?_⟩
  have M8 := Aside0.mk (Mem.drew M8.out)
  have M9 := Aside0.mk (Mem.drew M9.out)
  have HB := Aside0.mk (below_drew HB.out)
  have M8 := Aside0.mk (Mem.below M8.out hb51)
  have M9 := Aside0.mk (Mem.below M9.out hb51)
  have HB := Aside0.mk (below_step HB.out hb51)
  refine hK.out _ _ ⟨(mem_loads M8.out), (mem_loads M9.out)⟩ (fun hHeld => ?_)
  clear hK K
  refine norm_ (a' := ?_) ?_ ?_
  rotate_left
  · show Act.put _ (some 22) _ = _
    simp only [Act.put, List.setIfInBounds_toArray, List.set_cons_zero, List.set_cons_succ, i64_w, i32_w]
    rfl
  refine one_ (i := 5) (N := some 25) #[true, true, true, true, true, true, false, false] rfl rfl (by kernel_rfl) (by decide) (fun K hK => ?_)
  refine goes_ Try.func43 (by kernel_rfl) rfl #[.agg (cellsOf .u8 (cells8 inF)), .int .u8 (I8 b)] (by rfl) rfl rfl (by simp only [List.map_toArray, List.map_cons, List.map_nil]; rfl) ?_
  with_reducible refine (C2.out.q _).mono ?_
  rintro e w52 ⟨rfl, hb52⟩
  refine ⟨_, rfl, ?_⟩
  have M8 := Aside0.mk (Mem.below M8.out hb52)
  have M9 := Aside0.mk (Mem.below M9.out hb52)
  have HB := Aside0.mk (below_step HB.out hb52)
  refine hK.out _ _ ⟨(mem_loads M8.out), (mem_loads M9.out)⟩ (fun hHeld => ?_)
  clear hK K
  refine norm_ (a' := ?_) ?_ ?_
  rotate_left
  · show Act.put _ (some 25) _ = _
    simp only [Act.put, List.setIfInBounds_toArray, List.set_cons_zero, List.set_cons_succ, i64_w, i32_w]
    rfl
  refine pure_ (i := 6) (N := some 10) (v := ?_) (a' := ?_) #[true, true, true, true, true, true, true, false] rfl rfl (by kernel_rfl) (fun _ _ _ h => h) (Or.inl ⟨by rfl, ?_⟩) ?_ ?_
  rotate_left
  · intro w'
    go_simp
    with_reducible rfl
  rotate_left
  · simp only [Act.put, List.setIfInBounds_toArray, List.set_cons_zero, List.set_cons_succ, i64_w, i32_w]
    rfl
  refine pure_ (i := 7) (N := some 11) (v := ?_) (a' := ?_) #[true, true, true, true, true, true, true, true] rfl rfl (by kernel_rfl) (fun _ _ _ h => h) (Or.inl ⟨by rfl, ?_⟩) ?_ ?_
  rotate_left
  · intro w'
    go_simp
    with_reducible rfl
  rotate_left
  · simp only [Act.put, List.setIfInBounds_toArray, List.set_cons_zero, List.set_cons_succ, i64_w, i32_w]
    rfl
  refine done_ (by kernel_rfl) ?_
  clear hl0 hl1
  go_wp2
  have hl0 := mem_loads (Mem.drew M8.out)
  have hl1 := mem_loads (Mem.drew M9.out)
  refine start_ (n := 41) (S := fun w' => (loadVar 67 ⟨w3.heap.size, 0, none⟩).run Try.prog w' = .ok (.agg (cellsOf .u8 (cells8 inF))) w' ∧ (loadVar 67 ⟨w3.heap.size + 1, 0, none⟩).run Try.prog w' = .ok (.agg (cellsOf .u8 (cells8 outF))) w') (ds := []) #[false, false, false, false, false, false, false, false, false, false, false, false, false, false, false, false, false, false, false, false, false, false, false, false, false, false, false, false, false, false, false, false, false, false, false, false, false, false, false, false, false] (by kernel_rfl) rfl rfl ⟨hl0, hl1⟩ (fun hHeld => ?_)
  refine pure_ (i := 1) (N := some 27) (v := ?_) (a' := ?_) #[false, true, false, false, false, false, false, false, false, false, false, false, false, false, false, false, false, false, false, false, false, false, false, false, false, false, false, false, false, false, false, false, false, false, false, false, false, false, false, false, false] rfl rfl (by kernel_rfl) (fun _ _ _ h => h) (Or.inl ⟨by rfl, ?_⟩) ?_ ?_
  rotate_left
  · intro w'
    go_simp
    with_reducible rfl
  rotate_left
  · simp only [Act.put, List.setIfInBounds_toArray, List.set_cons_zero, List.set_cons_succ, i64_w, i32_w]
    rfl
  refine pure_ (i := 3) (N := some 29) (v := ?_) (a' := ?_) #[false, true, false, true, false, false, false, false, false, false, false, false, false, false, false, false, false, false, false, false, false, false, false, false, false, false, false, false, false, false, false, false, false, false, false, false, false, false, false, false, false] rfl rfl (by kernel_rfl) (fun _ _ _ h => h) (Or.inl ⟨by rfl, ?_⟩) ?_ ?_
  rotate_left
  · intro w'
    go_simp
    with_reducible rfl
  rotate_left
  · simp only [Act.put, List.setIfInBounds_toArray, List.set_cons_zero, List.set_cons_succ, i64_w, i32_w]
    rfl
  refine take_ (i := 0) (N := some 26) (v := ?_) (a' := ?_) #[true, true, false, true, false, false, false, false, false, false, false, false, false, false, false, false, false, false, false, false, false, false, false, false, false, false, false, false, false, false, false, false, false, false, false, false, false, false, false, false, false] rfl rfl (by kernel_rfl) (fun _ _ _ h => h) (Or.inl ⟨by rfl, ?_⟩) hHeld ?_ ?_
  rotate_left
  · rintro w' ⟨s0, s1⟩
    refine (load_yields rfl rfl s1).trans ?_
    with_reducible rfl
  rotate_left
  · simp only [Act.put, List.setIfInBounds_toArray, List.set_cons_zero, List.set_cons_succ, i64_w, i32_w]
    rfl
  refine one_ (i := 2) (N := some 28) #[true, true, true, true, false, false, false, false, false, false, false, false, false, false, false, false, false, false, false, false, false, false, false, false, false, false, false, false, false, false, false, false, false, false, false, false, false, false, false, false, false] rfl rfl (by kernel_rfl) (by decide) (fun K hK => ?_)
  refine goes_ Try.func43 (by kernel_rfl) rfl #[.agg (cellsOf .u8 (cells8 outF)), .int .u8 (I8 x)] (by rfl) rfl rfl (by simp only [List.map_toArray, List.map_cons, List.map_nil]; rfl) ?_
  with_reducible refine (C3.out.q _).mono ?_
  rintro e w51 ⟨rfl, hb51⟩
  refine ⟨_, rfl, ?_⟩
  have M8 := Aside0.mk (Mem.drew M8.out)
  have M9 := Aside0.mk (Mem.drew M9.out)
  have HB := Aside0.mk (below_drew HB.out)
  have M8 := Aside0.mk (Mem.below M8.out hb51)
  have M9 := Aside0.mk (Mem.below M9.out hb51)
  have HB := Aside0.mk (below_step HB.out hb51)
  refine hK.out _ _ ⟨(mem_loads M8.out), (mem_loads M9.out)⟩ (fun hHeld => ?_)
  clear hK K
  refine norm_ (a' := ?_) ?_ ?_
  rotate_left
  · show Act.put _ (some 28) _ = _
    simp only [Act.put, List.setIfInBounds_toArray, List.set_cons_zero, List.set_cons_succ, i64_w, i32_w]
    rfl
  refine pure_ (i := 4) (N := some 30) (v := ?_) (a' := ?_) #[true, true, true, true, true, false, false, false, false, false, false, false, false, false, false, false, false, false, false, false, false, false, false, false, false, false, false, false, false, false, false, false, false, false, false, false, false, false, false, false, false] rfl rfl (by kernel_rfl) (fun _ _ _ h => h) (Or.inl ⟨by rfl, ?_⟩) ?_ ?_
  rotate_left
  · intro w'
    go_simp
    with_reducible rfl
  rotate_left
  · simp only [Act.put, List.setIfInBounds_toArray, List.set_cons_zero, List.set_cons_succ, i64_w, i32_w]
    rfl
  refine pure_ (i := 5) (N := some 31) (v := ?_) (a' := ?_) #[true, true, true, true, true, true, false, false, false, false, false, false, false, false, false, false, false, false, false, false, false, false, false, false, false, false, false, false, false, false, false, false, false, false, false, false, false, false, false, false, false] rfl rfl (by kernel_rfl) (fun _ _ _ h => h) (Or.inl ⟨by rfl, ?_⟩) ?_ ?_
  rotate_left
  · intro w'
    go_simp
    with_reducible rfl
  rotate_left
  · simp only [Act.put, List.setIfInBounds_toArray, List.set_cons_zero, List.set_cons_succ, i64_w, i32_w]
    rfl
  refine pure_ (i := 7) (N := some 33) (v := ?_) (a' := ?_) #[true, true, true, true, true, true, false, true, false, false, false, false, false, false, false, false, false, false, false, false, false, false, false, false, false, false, false, false, false, false, false, false, false, false, false, false, false, false, false, false, false] rfl rfl (by kernel_rfl) (fun _ _ _ h => h) (Or.inl ⟨by rfl, ?_⟩) ?_ ?_
  rotate_left
  · intro w'
    go_simp
    with_reducible rfl
  rotate_left
  · simp only [Act.put, List.setIfInBounds_toArray, List.set_cons_zero, List.set_cons_succ, i64_w, i32_w]
    rfl
  refine pure_ (i := 8) (N := some 34) (v := ?_) (a' := ?_) #[true, true, true, true, true, true, false, true, true, false, false, false, false, false, false, false, false, false, false, false, false, false, false, false, false, false, false, false, false, false, false, false, false, false, false, false, false, false, false, false, false] rfl rfl (by kernel_rfl) (fun _ _ _ h => h) (Or.inl ⟨by rfl, ?_⟩) ?_ ?_
  rotate_left
  · intro w'
    go_simp
    with_reducible rfl
  rotate_left
  · simp only [Act.put, List.setIfInBounds_toArray, List.set_cons_zero, List.set_cons_succ, i64_w, i32_w]
    rfl
  refine pure_ (i := 11) (N := some 37) (v := ?_) (a' := ?_) #[true, true, true, true, true, true, false, true, true, false, false, true, false, false, false, false, false, false, false, false, false, false, false, false, false, false, false, false, false, false, false, false, false, false, false, false, false, false, false, false, false] rfl rfl (by kernel_rfl) (fun _ _ _ h => h) (Or.inl ⟨by rfl, ?_⟩) ?_ ?_
  rotate_left
  · intro w'
    go_simp
    with_reducible rfl
  rotate_left
  · simp only [Act.put, List.setIfInBounds_toArray, List.set_cons_zero, List.set_cons_succ, i64_w, i32_w]
    rfl
  refine pure_ (i := 12) (N := some 38) (v := ?_) (a' := ?_) #[true, true, true, true, true, true, false, true, true, false, false, true, true, false, false, false, false, false, false, false, false, false, false, false, false, false, false, false, false, false, false, false, false, false, false, false, false, false, false, false, false] rfl rfl (by kernel_rfl) (fun _ _ _ h => h) (Or.inl ⟨by rfl, ?_⟩) ?_ ?_
  rotate_left
  · intro w'
    go_simp
    with_reducible rfl
  rotate_left
  · simp only [Act.put, List.setIfInBounds_toArray, List.set_cons_zero, List.set_cons_succ, i64_w, i32_w]
    rfl
  refine take_ (i := 6) (N := some 32) (v := ?_) (a' := ?_) #[true, true, true, true, true, true, true, true, true, false, false, true, true, false, false, false, false, false, false, false, false, false, false, false, false, false, false, false, false, false, false, false, false, false, false, false, false, false, false, false, false] rfl rfl (by kernel_rfl) (fun _ _ _ h => h) (Or.inl ⟨by rfl, ?_⟩) hHeld ?_ ?_
  rotate_left
  · rintro w' ⟨s0, s1⟩
    refine (load_yields rfl rfl s0).trans ?_
    with_reducible rfl
  rotate_left
  · simp only [Act.put, List.setIfInBounds_toArray, List.set_cons_zero, List.set_cons_succ, i64_w, i32_w]
    rfl
  refine one_ (i := 9) (N := some 35) #[true, true, true, true, true, true, true, true, true, true, false, true, true, false, false, false, false, false, false, false, false, false, false, false, false, false, false, false, false, false, false, false, false, false, false, false, false, false, false, false, false] rfl rfl (by kernel_rfl) (by decide) (fun K hK => ?_)
  refine goes_ Try.func44 (by kernel_rfl) rfl #[.int .u8 (I8 a), .int .u8 (I8 b)] (by rfl) rfl rfl (by simp only [List.map_toArray, List.map_cons, List.map_nil]; rfl) ?_
  with_reducible refine (D1.out.q _).mono ?_
  rintro e w52 ⟨rfl, hb52⟩
  refine ⟨_, rfl, ?_⟩
  have M8 := Aside0.mk (Mem.below M8.out hb52)
  have M9 := Aside0.mk (Mem.below M9.out hb52)
  have HB := Aside0.mk (below_step HB.out hb52)
  refine hK.out _ _ ⟨(mem_loads M8.out), (mem_loads M9.out)⟩ (fun hHeld => ?_)
  clear hK K
  refine norm_ (a' := ?_) ?_ ?_
  rotate_left
  · show Act.put _ (some 35) _ = _
    simp only [Act.put, List.setIfInBounds_toArray, List.set_cons_zero, List.set_cons_succ, i64_w, i32_w]
    rfl
  refine one_ (i := 10) (N := some 36) #[true, true, true, true, true, true, true, true, true, true, true, true, true, false, false, false, false, false, false, false, false, false, false, false, false, false, false, false, false, false, false, false, false, false, false, false, false, false, false, false, false] rfl rfl (by kernel_rfl) (by decide) (fun K hK => ?_)
  refine goes_ Try.func43 (by kernel_rfl) rfl #[.agg (cellsOf .u8 (cells8 inF)), .int .u8 (I8 gm)] (by rfl) rfl rfl (by simp only [List.map_toArray, List.map_cons, List.map_nil]; rfl) ?_
  with_reducible refine (C4.out.q _).mono ?_
  rintro e w53 ⟨rfl, hb53⟩
  refine ⟨_, rfl, ?_⟩
  have M8 := Aside0.mk (Mem.below M8.out hb53)
  have M9 := Aside0.mk (Mem.below M9.out hb53)
  have HB := Aside0.mk (below_step HB.out hb53)
  refine hK.out _ _ ⟨(mem_loads M8.out), (mem_loads M9.out)⟩ (fun hHeld => ?_)
  clear hK K
  refine norm_ (a' := ?_) ?_ ?_
  rotate_left
  · show Act.put _ (some 36) _ = _
    simp only [Act.put, List.setIfInBounds_toArray, List.set_cons_zero, List.set_cons_succ, i64_w, i32_w]
    rfl
  refine one_ (i := 13) (N := some 39) #[true, true, true, true, true, true, true, true, true, true, true, true, true, true, false, false, false, false, false, false, false, false, false, false, false, false, false, false, false, false, false, false, false, false, false, false, false, false, false, false, false] rfl rfl (by kernel_rfl) (by decide) (fun K hK => ?_)
  refine goes_ Try.func35 (by kernel_rfl) rfl #[.int .u8 (I8 x), .int .u8 (I8 y)] (by rfl) rfl rfl (by simp only [List.map_toArray, List.map_cons, List.map_nil]; rfl) ?_
  with_reducible refine (D2.out.q _).mono ?_
  rintro e w54 ⟨rfl, hb54⟩
  refine ⟨_, rfl, ?_⟩
  have M8 := Aside0.mk (Mem.below M8.out hb54)
  have M9 := Aside0.mk (Mem.below M9.out hb54)
  have HB := Aside0.mk (below_step HB.out hb54)
  refine hK.out _ _ ⟨(mem_loads M8.out), (mem_loads M9.out)⟩ (fun hHeld => ?_)
  clear hK K
  refine norm_ (a' := ?_) ?_ ?_
  rotate_left
  · show Act.put _ (some 39) _ = _
    simp only [Act.put, List.setIfInBounds_toArray, List.set_cons_zero, List.set_cons_succ, i64_w, i32_w]
    rfl
  refine pure_ (i := 14) (N := some 40) (v := ?_) (a' := ?_) #[true, true, true, true, true, true, true, true, true, true, true, true, true, true, true, false, false, false, false, false, false, false, false, false, false, false, false, false, false, false, false, false, false, false, false, false, false, false, false, false, false] rfl rfl (by kernel_rfl) (fun _ _ _ h => h) (Or.inl ⟨by rfl, ?_⟩) ?_ ?_
  rotate_left
  · intro w'
    go_simp
    with_reducible rfl
  rotate_left
  · simp only [Act.put, List.setIfInBounds_toArray, List.set_cons_zero, List.set_cons_succ, i64_w, i32_w]
    rfl
  refine pure_ (i := 15) (N := some 41) (v := ?_) (a' := ?_) #[true, true, true, true, true, true, true, true, true, true, true, true, true, true, true, true, false, false, false, false, false, false, false, false, false, false, false, false, false, false, false, false, false, false, false, false, false, false, false, false, false] rfl rfl (by kernel_rfl) (fun _ _ _ h => h) (Or.inl ⟨by rfl, ?_⟩) ?_ ?_
  rotate_left
  · intro w'
    go_simp
    with_reducible rfl
  rotate_left
  · simp only [Act.put, List.setIfInBounds_toArray, List.set_cons_zero, List.set_cons_succ, i64_w, i32_w]
    rfl
  refine pure_ (i := 16) (N := some 42) (v := ?_) (a' := ?_) #[true, true, true, true, true, true, true, true, true, true, true, true, true, true, true, true, true, false, false, false, false, false, false, false, false, false, false, false, false, false, false, false, false, false, false, false, false, false, false, false, false] rfl rfl (by kernel_rfl) (fun _ _ _ h => h) (Or.inl ⟨by rfl, ?_⟩) ?_ ?_
  rotate_left
  · intro w'
    go_simp
    with_reducible rfl
  rotate_left
  · simp only [Act.put, List.setIfInBounds_toArray, List.set_cons_zero, List.set_cons_succ, i64_w, i32_w]
    rfl
  refine pure_ (i := 18) (N := some 44) (v := ?_) (a' := ?_) #[true, true, true, true, true, true, true, true, true, true, true, true, true, true, true, true, true, false, true, false, false, false, false, false, false, false, false, false, false, false, false, false, false, false, false, false, false, false, false, false, false] rfl rfl (by kernel_rfl) (fun _ _ _ h => h) (Or.inl ⟨by rfl, ?_⟩) ?_ ?_
  rotate_left
  · intro w'
    go_simp
    with_reducible rfl
  rotate_left
  · simp only [Act.put, List.setIfInBounds_toArray, List.set_cons_zero, List.set_cons_succ, i64_w, i32_w]
    rfl
  refine pure_ (i := 19) (N := some 45) (v := ?_) (a' := ?_) #[true, true, true, true, true, true, true, true, true, true, true, true, true, true, true, true, true, false, true, true, false, false, false, false, false, false, false, false, false, false, false, false, false, false, false, false, false, false, false, false, false] rfl rfl (by kernel_rfl) (fun _ _ _ h => h) (Or.inl ⟨by rfl, ?_⟩) ?_ ?_
  rotate_left
  · intro w'
    go_simp
    with_reducible rfl
  rotate_left
  · simp only [Act.put, List.setIfInBounds_toArray, List.set_cons_zero, List.set_cons_succ, i64_w, i32_w]
    rfl
  refine pure_ (i := 20) (N := some 46) (v := ?_) (a' := ?_) #[true, true, true, true, true, true, true, true, true, true, true, true, true, true, true, true, true, false, true, true, true, false, false, false, false, false, false, false, false, false, false, false, false, false, false, false, false, false, false, false, false] rfl rfl (by kernel_rfl) (fun _ _ _ h => h) (Or.inl ⟨by rfl, ?_⟩) ?_ ?_
  rotate_left
  · intro w'
    go_simp
    with_reducible rfl
  rotate_left
  · simp only [Act.put, List.setIfInBounds_toArray, List.set_cons_zero, List.set_cons_succ, i64_w, i32_w]
    rfl
  refine pure_ (i := 22) (N := some 48) (v := ?_) (a' := ?_) #[true, true, true, true, true, true, true, true, true, true, true, true, true, true, true, true, true, false, true, true, true, false, true, false, false, false, false, false, false, false, false, false, false, false, false, false, false, false, false, false, false] rfl rfl (by kernel_rfl) (fun _ _ _ h => h) (Or.inl ⟨by rfl, ?_⟩) ?_ ?_
  rotate_left
  · intro w'
    go_simp
    with_reducible rfl
  rotate_left
  · simp only [Act.put, List.setIfInBounds_toArray, List.set_cons_zero, List.set_cons_succ, i64_w, i32_w]
    rfl
  refine pure_ (i := 23) (N := some 49) (v := ?_) (a' := ?_) #[true, true, true, true, true, true, true, true, true, true, true, true, true, true, true, true, true, false, true, true, true, false, true, true, false, false, false, false, false, false, false, false, false, false, false, false, false, false, false, false, false] rfl rfl (by kernel_rfl) (fun _ _ _ h => h) (Or.inl ⟨by rfl, ?_⟩) ?_ ?_
  rotate_left
  · intro w'
    go_simp
    with_reducible rfl
  rotate_left
  · simp only [Act.put, List.setIfInBounds_toArray, List.set_cons_zero, List.set_cons_succ, i64_w, i32_w]
    rfl
  refine pure_ (i := 24) (N := some 50) (v := ?_) (a' := ?_) #[true, true, true, true, true, true, true, true, true, true, true, true, true, true, true, true, true, false, true, true, true, false, true, true, true, false, false, false, false, false, false, false, false, false, false, false, false, false, false, false, false] rfl rfl (by kernel_rfl) (fun _ _ _ h => h) (Or.inl ⟨by rfl, ?_⟩) ?_ ?_
  rotate_left
  · intro w'
    go_simp
    with_reducible rfl
  rotate_left
  · simp only [Act.put, List.setIfInBounds_toArray, List.set_cons_zero, List.set_cons_succ, i64_w, i32_w]
    rfl
  refine take_ (i := 17) (N := some 43) (v := ?_) (a' := ?_) #[true, true, true, true, true, true, true, true, true, true, true, true, true, true, true, true, true, true, true, true, true, false, true, true, true, false, false, false, false, false, false, false, false, false, false, false, false, false, false, false, false] rfl rfl (by kernel_rfl) (fun _ _ _ h => h) (Or.inl ⟨by rfl, ?_⟩) hHeld ?_ ?_
  rotate_left
  · rintro w' ⟨s0, s1⟩
    refine (load_yields rfl rfl s0).trans ?_
    with_reducible rfl
  rotate_left
  · simp only [Act.put, List.setIfInBounds_toArray, List.set_cons_zero, List.set_cons_succ, i64_w, i32_w]
    rfl
  refine one_ (i := 21) (N := some 47) #[true, true, true, true, true, true, true, true, true, true, true, true, true, true, true, true, true, true, true, true, true, true, true, true, true, false, false, false, false, false, false, false, false, false, false, false, false, false, false, false, false] rfl rfl (by kernel_rfl) (by decide) (fun K hK => ?_)
  refine goes_ Try.func43 (by kernel_rfl) rfl #[.agg (cellsOf .u8 (cells8 inF)), .int .u8 (Go.bits .xor .u8 (I8 a) (I8 b))] (by rfl) rfl rfl (by simp only [List.map_toArray, List.map_cons, List.map_nil]; rfl) ?_
  with_reducible refine (C5.out.q _).mono ?_
  rintro e w55 ⟨rfl, hb55⟩
  refine ⟨_, rfl, ?_⟩
  have M8 := Aside0.mk (Mem.below M8.out hb55)
  have M9 := Aside0.mk (Mem.below M9.out hb55)
  have HB := Aside0.mk (below_step HB.out hb55)
  refine hK.out _ _ ⟨(mem_loads M8.out), (mem_loads M9.out)⟩ (fun hHeld => ?_)
  clear hK K
  refine norm_ (a' := ?_) ?_ ?_
  rotate_left
  · show Act.put _ (some 47) _ = _
    simp only [Act.put, List.setIfInBounds_toArray, List.set_cons_zero, List.set_cons_succ, i64_w, i32_w]
    rfl
  refine pure_ (i := 25) (N := some 51) (v := ?_) (a' := ?_) #[true, true, true, true, true, true, true, true, true, true, true, true, true, true, true, true, true, true, true, true, true, true, true, true, true, true, false, false, false, false, false, false, false, false, false, false, false, false, false, false, false] rfl rfl (by kernel_rfl) (fun _ _ _ h => h) (Or.inl ⟨by rfl, ?_⟩) ?_ ?_
  rotate_left
  · intro w'
    go_simp
    with_reducible rfl
  rotate_left
  · simp only [Act.put, List.setIfInBounds_toArray, List.set_cons_zero, List.set_cons_succ, i64_w, i32_w]
    rfl
  refine pure_ (i := 26) (N := some 52) (v := ?_) (a' := ?_) #[true, true, true, true, true, true, true, true, true, true, true, true, true, true, true, true, true, true, true, true, true, true, true, true, true, true, true, false, false, false, false, false, false, false, false, false, false, false, false, false, false] rfl rfl (by kernel_rfl) (fun _ _ _ h => h) (Or.inl ⟨by rfl, ?_⟩) ?_ ?_
  rotate_left
  · intro w'
    go_simp
    with_reducible rfl
  rotate_left
  · simp only [Act.put, List.setIfInBounds_toArray, List.set_cons_zero, List.set_cons_succ, i64_w, i32_w]
    rfl
  refine pure_ (i := 27) (N := some 53) (v := ?_) (a' := ?_) #[true, true, true, true, true, true, true, true, true, true, true, true, true, true, true, true, true, true, true, true, true, true, true, true, true, true, true, true, false, false, false, false, false, false, false, false, false, false, false, false, false] rfl rfl (by kernel_rfl) (fun _ _ _ h => h) (Or.inl ⟨by rfl, ?_⟩) ?_ ?_
  rotate_left
  · intro w'
    go_simp
    with_reducible rfl
  rotate_left
  · simp only [Act.put, List.setIfInBounds_toArray, List.set_cons_zero, List.set_cons_succ, i64_w, i32_w]
    rfl
  refine pure_ (i := 29) (N := some 55) (v := ?_) (a' := ?_) #[true, true, true, true, true, true, true, true, true, true, true, true, true, true, true, true, true, true, true, true, true, true, true, true, true, true, true, true, false, true, false, false, false, false, false, false, false, false, false, false, false] rfl rfl (by kernel_rfl) (fun _ _ _ h => h) (Or.inl ⟨by rfl, ?_⟩) ?_ ?_
  rotate_left
  · intro w'
    go_simp
    with_reducible rfl
  rotate_left
  · simp only [Act.put, List.setIfInBounds_toArray, List.set_cons_zero, List.set_cons_succ, i64_w, i32_w]
    rfl
  refine pure_ (i := 32) (N := some 58) (v := ?_) (a' := ?_) #[true, true, true, true, true, true, true, true, true, true, true, true, true, true, true, true, true, true, true, true, true, true, true, true, true, true, true, true, false, true, false, false, true, false, false, false, false, false, false, false, false] rfl rfl (by kernel_rfl) (fun _ _ _ h => h) (Or.inl ⟨by rfl, ?_⟩) ?_ ?_
  rotate_left
  · intro w'
    go_simp
    with_reducible rfl
  rotate_left
  · simp only [Act.put, List.setIfInBounds_toArray, List.set_cons_zero, List.set_cons_succ, i64_w, i32_w]
    rfl
  refine take_ (i := 28) (N := some 54) (v := ?_) (a' := ?_) #[true, true, true, true, true, true, true, true, true, true, true, true, true, true, true, true, true, true, true, true, true, true, true, true, true, true, true, true, true, true, false, false, true, false, false, false, false, false, false, false, false] rfl rfl (by kernel_rfl) (fun _ _ _ h => h) (Or.inl ⟨by rfl, ?_⟩) hHeld ?_ ?_
  rotate_left
  · rintro w' ⟨s0, s1⟩
    refine (load_yields rfl rfl s0).trans ?_
    with_reducible rfl
  rotate_left
  · simp only [Act.put, List.setIfInBounds_toArray, List.set_cons_zero, List.set_cons_succ, i64_w, i32_w]
    rfl
  refine one_ (i := 30) (N := some 56) #[true, true, true, true, true, true, true, true, true, true, true, true, true, true, true, true, true, true, true, true, true, true, true, true, true, true, true, true, true, true, true, false, true, false, false, false, false, false, false, false, false] rfl rfl (by kernel_rfl) (by decide) (fun K hK => ?_)
  refine goes_ Try.func45 (by kernel_rfl) rfl #[.int .u8 (I8 a)] (by rfl) rfl rfl (by simp only [List.map_toArray, List.map_cons, List.map_nil]; rfl) ?_
  with_reducible refine (D3.out.q _).mono ?_
  rintro e w56 ⟨rfl, hb56⟩
  refine ⟨_, rfl, ?_⟩
  have M8 := Aside0.mk (Mem.below M8.out hb56)
  have M9 := Aside0.mk (Mem.below M9.out hb56)
  have HB := Aside0.mk (below_step HB.out hb56)
  refine hK.out _ _ ⟨(mem_loads M8.out), (mem_loads M9.out)⟩ (fun hHeld => ?_)
  clear hK K
  refine norm_ (a' := ?_) ?_ ?_
  rotate_left
  · show Act.put _ (some 56) _ = _
    simp only [Act.put, List.setIfInBounds_toArray, List.set_cons_zero, List.set_cons_succ, i64_w, i32_w]
    rfl
  refine one_ (i := 31) (N := some 57) #[true, true, true, true, true, true, true, true, true, true, true, true, true, true, true, true, true, true, true, true, true, true, true, true, true, true, true, true, true, true, true, true, true, false, false, false, false, false, false, false, false] rfl rfl (by kernel_rfl) (by decide) (fun K hK => ?_)
  refine goes_ Try.func43 (by kernel_rfl) rfl #[.agg (cellsOf .u8 (cells8 inF)), .int .u8 (I8 gi)] (by rfl) rfl rfl (by simp only [List.map_toArray, List.map_cons, List.map_nil]; rfl) ?_
  with_reducible refine (C6.out.q _).mono ?_
  rintro e w57 ⟨rfl, hb57⟩
  refine ⟨_, rfl, ?_⟩
  have M8 := Aside0.mk (Mem.below M8.out hb57)
  have M9 := Aside0.mk (Mem.below M9.out hb57)
  have HB := Aside0.mk (below_step HB.out hb57)
  refine hK.out _ _ ⟨(mem_loads M8.out), (mem_loads M9.out)⟩ (fun hHeld => ?_)
  clear hK K
  refine norm_ (a' := ?_) ?_ ?_
  rotate_left
  · show Act.put _ (some 57) _ = _
    simp only [Act.put, List.setIfInBounds_toArray, List.set_cons_zero, List.set_cons_succ, i64_w, i32_w]
    rfl
  refine one_ (i := 33) (N := some 59) #[true, true, true, true, true, true, true, true, true, true, true, true, true, true, true, true, true, true, true, true, true, true, true, true, true, true, true, true, true, true, true, true, true, true, false, false, false, false, false, false, false] rfl rfl (by kernel_rfl) (by decide) (fun K hK => ?_)
  refine goes_ Try.func38 (by kernel_rfl) rfl #[.int .u8 (I8 x)] (by rfl) rfl rfl (by simp only [List.map_toArray, List.map_cons, List.map_nil]; rfl) ?_
  with_reducible refine (D4.out.q _).mono ?_
  rintro e w58 ⟨rfl, hb58⟩
  refine ⟨_, rfl, ?_⟩
  have M8 := Aside0.mk (Mem.below M8.out hb58)
  have M9 := Aside0.mk (Mem.below M9.out hb58)
  have HB := Aside0.mk (below_step HB.out hb58)
  refine hK.out _ _ ⟨(mem_loads M8.out), (mem_loads M9.out)⟩ (fun hHeld => ?_)
  clear hK K
  refine norm_ (a' := ?_) ?_ ?_
  rotate_left
  · show Act.put _ (some 59) _ = _
    simp only [Act.put, List.setIfInBounds_toArray, List.set_cons_zero, List.set_cons_succ, i64_w, i32_w]
    rfl
  refine pure_ (i := 34) (N := some 60) (v := ?_) (a' := ?_) #[true, true, true, true, true, true, true, true, true, true, true, true, true, true, true, true, true, true, true, true, true, true, true, true, true, true, true, true, true, true, true, true, true, true, true, false, false, false, false, false, false] rfl rfl (by kernel_rfl) (fun _ _ _ h => h) (Or.inl ⟨by rfl, ?_⟩) ?_ ?_
  rotate_left
  · intro w'
    go_simp
    with_reducible rfl
  rotate_left
  · simp only [Act.put, List.setIfInBounds_toArray, List.set_cons_zero, List.set_cons_succ, i64_w, i32_w]
    rfl
  refine pure_ (i := 35) (N := some 61) (v := ?_) (a' := ?_) #[true, true, true, true, true, true, true, true, true, true, true, true, true, true, true, true, true, true, true, true, true, true, true, true, true, true, true, true, true, true, true, true, true, true, true, true, false, false, false, false, false] rfl rfl (by kernel_rfl) (fun _ _ _ h => h) (Or.inl ⟨by rfl, ?_⟩) ?_ ?_
  rotate_left
  · intro w'
    go_simp
    with_reducible rfl
  rotate_left
  · simp only [Act.put, List.setIfInBounds_toArray, List.set_cons_zero, List.set_cons_succ, i64_w, i32_w]
    rfl
  refine pure_ (i := 36) (N := some 62) (v := ?_) (a' := ?_) #[true, true, true, true, true, true, true, true, true, true, true, true, true, true, true, true, true, true, true, true, true, true, true, true, true, true, true, true, true, true, true, true, true, true, true, true, true, false, false, false, false] rfl rfl (by kernel_rfl) (fun _ _ _ h => h) (Or.inl ⟨by rfl, ?_⟩) ?_ ?_
  rotate_left
  · intro w'
    go_simp
    with_reducible rfl
  rotate_left
  · simp only [Act.put, List.setIfInBounds_toArray, List.set_cons_zero, List.set_cons_succ, i64_w, i32_w]
    rfl
  refine take_ (i := 37) (N := some 63) (v := ?_) (a' := ?_) #[true, true, true, true, true, true, true, true, true, true, true, true, true, true, true, true, true, true, true, true, true, true, true, true, true, true, true, true, true, true, true, true, true, true, true, true, true, true, false, false, false] rfl rfl (by kernel_rfl) (fun _ _ _ h => h) (Or.inl ⟨by rfl, ?_⟩) hHeld ?_ ?_
  rotate_left
  · rintro w' ⟨s0, s1⟩
    refine (load_yields rfl rfl s0).trans ?_
    with_reducible rfl
  rotate_left
  · simp only [Act.put, List.setIfInBounds_toArray, List.set_cons_zero, List.set_cons_succ, i64_w, i32_w]
    rfl
  refine one_ (i := 38) (N := some 64) #[true, true, true, true, true, true, true, true, true, true, true, true, true, true, true, true, true, true, true, true, true, true, true, true, true, true, true, true, true, true, true, true, true, true, true, true, true, true, true, false, false] rfl rfl (by kernel_rfl) (by decide) (fun K hK => ?_)
  refine goes_ Try.func46 (by kernel_rfl) rfl #[.agg (cellsOf .u8 (cells8 inF)), .int .u8 1] (by rfl) rfl rfl (by simp only [List.map_toArray, List.map_cons, List.map_nil]; rfl) ?_
  with_reducible refine (C7.out.q _).mono ?_
  rintro e w59 ⟨rfl, hb59⟩
  refine ⟨_, rfl, ?_⟩
  have M8 := Aside0.mk (Mem.below M8.out hb59)
  have M9 := Aside0.mk (Mem.below M9.out hb59)
  have HB := Aside0.mk (below_step HB.out hb59)
  refine hK.out _ _ ⟨(mem_loads M8.out), (mem_loads M9.out)⟩ (fun hHeld => ?_)
  clear hK K
  refine norm_ (a' := ?_) ?_ ?_
  rotate_left
  · show Act.put _ (some 64) _ = _
    simp only [Act.put, List.setIfInBounds_toArray, List.set_cons_zero, List.set_cons_succ, i64_w, i32_w]
    rfl
  refine pure_ (i := 39) (N := some 65) (v := ?_) (a' := ?_) #[true, true, true, true, true, true, true, true, true, true, true, true, true, true, true, true, true, true, true, true, true, true, true, true, true, true, true, true, true, true, true, true, true, true, true, true, true, true, true, true, false] rfl rfl (by kernel_rfl) (fun _ _ _ h => h) (Or.inl ⟨by rfl, ?_⟩) ?_ ?_
  rotate_left
  · intro w'
    go_simp
    with_reducible rfl
  rotate_left
  · simp only [Act.put, List.setIfInBounds_toArray, List.set_cons_zero, List.set_cons_succ, i64_w, i32_w]
    rfl
  refine pure_ (i := 40) (N := some 66) (v := ?_) (a' := ?_) #[true, true, true, true, true, true, true, true, true, true, true, true, true, true, true, true, true, true, true, true, true, true, true, true, true, true, true, true, true, true, true, true, true, true, true, true, true, true, true, true, true] rfl rfl (by kernel_rfl) (fun _ _ _ h => h) (Or.inl ⟨by rfl, ?_⟩) ?_ ?_
  rotate_left
  · intro w'
    go_simp
    with_reducible rfl
  rotate_left
  · simp only [Act.put, List.setIfInBounds_toArray, List.set_cons_zero, List.set_cons_succ, i64_w, i32_w]
    rfl
  refine done_ (by kernel_rfl) ?_
  clear hl0 hl1
  clear M8 M9
  rcases HT.out with h0 | h0
  · have ha0 : (I8 a == 0) = true := by rw [h0]; rfl
    clear h0
    go_wp2_with (first
      | (go_at_call 35; (with_reducible refine (F1.out.q _).mono ?_); rintro e wf1 ⟨rfl, hbf1⟩; have HB := Aside0.mk (below_step HB.out hbf1))
      | (go_at_call 35; (with_reducible refine (F2.out.q _).mono ?_); rintro e wf2 ⟨rfl, hbf2⟩; have HB := Aside0.mk (below_step HB.out hbf2))
      | (go_at_call 35; (with_reducible refine (F3.out.q _).mono ?_); rintro e wf3 ⟨rfl, hbf3⟩; have HB := Aside0.mk (below_step HB.out hbf3))
      | (go_at_call 35; (with_reducible refine (F4.out.q _).mono ?_); rintro e wf4 ⟨rfl, hbf4⟩; have HB := Aside0.mk (below_step HB.out hbf4))
      | (go_at_call 35; (with_reducible refine (F5.out.q _).mono ?_); rintro e wf5 ⟨rfl, hbf5⟩; have HB := Aside0.mk (below_step HB.out hbf5))
      | (go_at_call 35; (with_reducible refine (F6.out.q _).mono ?_); rintro e wf6 ⟨rfl, hbf6⟩; have HB := Aside0.mk (below_step HB.out hbf6))
      | (go_at_call 35; (with_reducible refine (F12.out.q _).mono ?_); rintro e wf12 ⟨rfl, hbf12⟩; have HB := Aside0.mk (below_step HB.out hbf12))
      | (go_at_call 37; (with_reducible refine (F7.out.q _).mono ?_); rintro e wf7 ⟨rfl, hbf7⟩; have HB := Aside0.mk (below_step HB.out hbf7))
      | (go_at_call 47; (with_reducible refine (F8.out.q _).mono ?_); rintro e wf8 ⟨rfl, hbf8⟩; have HB := Aside0.mk (below_step HB.out hbf8))
      | (go_at_call 38; (with_reducible refine (F9.out.q _).mono ?_); rintro e wf9 ⟨rfl, hbf9⟩; have HB := Aside0.mk (below_step HB.out hbf9))
      | (go_at_call 34; (with_reducible refine (F10.out.q _).mono ?_); rintro e wf10 ⟨rfl, hbf10⟩; have HB := Aside0.mk (below_step HB.out hbf10))
      | (go_at_call 34; (with_reducible refine (F11.out.q _).mono ?_); rintro e wf11 ⟨rfl, hbf11⟩; have HB := Aside0.mk (below_step HB.out hbf11))
      | (go_at_call 42; (with_reducible refine (F13.out.q _).mono ?_); rintro e wf13 ⟨rfl, hbf13⟩; have HB := Aside0.mk (below_step HB.out hbf13)))
    go_ret
    exact ⟨rfl, HB.out⟩
  · by_cases ha : a = 0#8
    · have ha0 : (I8 a == 0) = true := by rw [ha]; rfl
      clear h0 ha
      go_wp2_with (first
        | (go_at_call 35; (with_reducible refine (F1.out.q _).mono ?_); rintro e wf1 ⟨rfl, hbf1⟩; have HB := Aside0.mk (below_step HB.out hbf1))
        | (go_at_call 35; (with_reducible refine (F2.out.q _).mono ?_); rintro e wf2 ⟨rfl, hbf2⟩; have HB := Aside0.mk (below_step HB.out hbf2))
        | (go_at_call 35; (with_reducible refine (F3.out.q _).mono ?_); rintro e wf3 ⟨rfl, hbf3⟩; have HB := Aside0.mk (below_step HB.out hbf3))
        | (go_at_call 35; (with_reducible refine (F4.out.q _).mono ?_); rintro e wf4 ⟨rfl, hbf4⟩; have HB := Aside0.mk (below_step HB.out hbf4))
        | (go_at_call 35; (with_reducible refine (F5.out.q _).mono ?_); rintro e wf5 ⟨rfl, hbf5⟩; have HB := Aside0.mk (below_step HB.out hbf5))
        | (go_at_call 35; (with_reducible refine (F6.out.q _).mono ?_); rintro e wf6 ⟨rfl, hbf6⟩; have HB := Aside0.mk (below_step HB.out hbf6))
        | (go_at_call 35; (with_reducible refine (F12.out.q _).mono ?_); rintro e wf12 ⟨rfl, hbf12⟩; have HB := Aside0.mk (below_step HB.out hbf12))
        | (go_at_call 37; (with_reducible refine (F7.out.q _).mono ?_); rintro e wf7 ⟨rfl, hbf7⟩; have HB := Aside0.mk (below_step HB.out hbf7))
        | (go_at_call 47; (with_reducible refine (F8.out.q _).mono ?_); rintro e wf8 ⟨rfl, hbf8⟩; have HB := Aside0.mk (below_step HB.out hbf8))
        | (go_at_call 38; (with_reducible refine (F9.out.q _).mono ?_); rintro e wf9 ⟨rfl, hbf9⟩; have HB := Aside0.mk (below_step HB.out hbf9))
        | (go_at_call 34; (with_reducible refine (F10.out.q _).mono ?_); rintro e wf10 ⟨rfl, hbf10⟩; have HB := Aside0.mk (below_step HB.out hbf10))
        | (go_at_call 34; (with_reducible refine (F11.out.q _).mono ?_); rintro e wf11 ⟨rfl, hbf11⟩; have HB := Aside0.mk (below_step HB.out hbf11))
        | (go_at_call 42; (with_reducible refine (F13.out.q _).mono ?_); rintro e wf13 ⟨rfl, hbf13⟩; have HB := Aside0.mk (below_step HB.out hbf13)))
      go_ret
      exact ⟨rfl, HB.out⟩
    · have ha0 : (I8 a == 0) = false := by rw [beq_eq_false_iff_ne]; exact fun e => ha (I8_inj e)
      subst h0
      clear ha
      go_wp2_with (first
        | (go_at_call 35; (with_reducible refine (F1.out.q _).mono ?_); rintro e wf1 ⟨rfl, hbf1⟩; have HB := Aside0.mk (below_step HB.out hbf1))
        | (go_at_call 35; (with_reducible refine (F2.out.q _).mono ?_); rintro e wf2 ⟨rfl, hbf2⟩; have HB := Aside0.mk (below_step HB.out hbf2))
        | (go_at_call 35; (with_reducible refine (F3.out.q _).mono ?_); rintro e wf3 ⟨rfl, hbf3⟩; have HB := Aside0.mk (below_step HB.out hbf3))
        | (go_at_call 35; (with_reducible refine (F4.out.q _).mono ?_); rintro e wf4 ⟨rfl, hbf4⟩; have HB := Aside0.mk (below_step HB.out hbf4))
        | (go_at_call 35; (with_reducible refine (F5.out.q _).mono ?_); rintro e wf5 ⟨rfl, hbf5⟩; have HB := Aside0.mk (below_step HB.out hbf5))
        | (go_at_call 35; (with_reducible refine (F6.out.q _).mono ?_); rintro e wf6 ⟨rfl, hbf6⟩; have HB := Aside0.mk (below_step HB.out hbf6))
        | (go_at_call 35; (with_reducible refine (F12.out.q _).mono ?_); rintro e wf12 ⟨rfl, hbf12⟩; have HB := Aside0.mk (below_step HB.out hbf12))
        | (go_at_call 37; (with_reducible refine (F7.out.q _).mono ?_); rintro e wf7 ⟨rfl, hbf7⟩; have HB := Aside0.mk (below_step HB.out hbf7))
        | (go_at_call 47; (with_reducible refine (F8.out.q _).mono ?_); rintro e wf8 ⟨rfl, hbf8⟩; have HB := Aside0.mk (below_step HB.out hbf8))
        | (go_at_call 38; (with_reducible refine (F9.out.q _).mono ?_); rintro e wf9 ⟨rfl, hbf9⟩; have HB := Aside0.mk (below_step HB.out hbf9))
        | (go_at_call 34; (with_reducible refine (F10.out.q _).mono ?_); rintro e wf10 ⟨rfl, hbf10⟩; have HB := Aside0.mk (below_step HB.out hbf10))
        | (go_at_call 34; (with_reducible refine (F11.out.q _).mono ?_); rintro e wf11 ⟨rfl, hbf11⟩; have HB := Aside0.mk (below_step HB.out hbf11))
        | (go_at_call 42; (with_reducible refine (F13.out.q _).mono ?_); rintro e wf13 ⟨rfl, hbf13⟩; have HB := Aside0.mk (below_step HB.out hbf13)))
      go_ret
      exact ⟨rfl, HB.out⟩
theorem tower_keeps_walk (a b c : Int) (w : World) (wa : (Lit.int .u8 a).wf = true) (wb : (Lit.int .u8 b).wf = true) (wc : (Lit.int .u8 c).wf = true) : Calls Try.prog 7 #[.int .u8 a, .int .u8 b, .int .u8 c] w fun e w' => e = .returned (.bool true) ∧ Below w.heap.size w w' := by
  obtain ⟨a, rfl⟩ := byte_of wa
  obtain ⟨b, rfl⟩ := byte_of wb
  obtain ⟨c, rfl⟩ := byte_of wc
  exact tower_keeps a b c w
end Go.Proofs.Ytphdlidaigalkaa.Mat
