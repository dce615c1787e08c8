/-
  The tower's field in memory, and its matrices, walked.
-/
import Derived.Test.YtphdlidaigalkaaMatI
import Derived.Test.YtphdlidaigalkaaTowEval
import Derived.Test.YtphdlidaigalkaaOnceDoField
import Derived.Deep.MidRow
namespace Go.Proofs.Ytphdlidaigalkaa.Mat
open Go.RowKit Go.Proofs.Ytphdlidaigalkaa.PNib Go.Proofs.YtphdlidaigalkaaW.PrintWords Go.Proofs.YtphdlidaigalkaaW.PrintLast Go.Proofs.YtphdlidaigalkaaW.PrintMore Byte Sl Arr Mem Gives ArrEq
set_option linter.unusedVariables false
set_option linter.unusedSimpArgs false
set_option maxHeartbeats 4000000
set_option maxRecDepth 100000
/-! ### contracts of bytes -/
theorem tmul_c (a b : BitVec 8) : Gives 35 #[.int .u8 (I8 a), .int .u8 (I8 b)] (.int .u8 (I8 (TowMath.tmul a b))) := fun w => tower_Mul.calls 100 _ _ _ w (TowE.Mul_eq a b 100 (by decide))
theorem root_c : Gives 40 #[] (.int .u8 32) := fun w => tower_Root.calls 400 _ w TowE.Root_eq
theorem rin_c (i : Nat) (h : i < 8) : Gives 87 #[.int .u8 (I8 (1#8 <<< i))] (.int .u8 (I8 (TowE.cols i))) := fun w => visorref06_In.calls 400 _ _ w (TowE.In_units ⟨i, h⟩)
/-! ### the matrices -/
def inF : Rows := flipF TowE.cols
/-- The matrix that turns out, row by row. -/
def outRows : List Nat := [129, 176, 2, 194, 202, 84, 142, 212]
def outF : Rows := fun i => BitVec.ofNat 8 (outRows.getD i 0)
def inR : Rows := fun i => BitVec.ofNat 8 ([161, 4, 252, 24, 112, 210, 172, 160].getD i 0)
theorem in_rows : ∀ i : Fin 8, inF i.val = inR i.val := by decide +kernel
theorem in_app (x : BitVec 8) : app inF x = app inR x := app_congr (fun i hi => in_rows ⟨i, hi⟩) x
theorem in_out_units : ∀ j : Fin 8, app inR (app outF (1#8 <<< j.val)) = 1#8 <<< j.val := by decide +kernel
theorem out_in_units : ∀ j : Fin 8, app outF (app inR (1#8 <<< j.val)) = 1#8 <<< j.val := by decide +kernel
theorem in_out (y : BitVec 8) : app inF (app outF y) = y := by
  rw [in_app]
  exact app_of_units (F := fun y => app inR (app outF y)) (fun x y => by simp only [app_xor]) (fun j hj => in_out_units ⟨j, hj⟩) y
theorem out_in (y : BitVec 8) : app outF (app inF y) = y := by
  rw [in_app]
  exact app_of_units (F := fun y => app outF (app inR y)) (fun x y => by simp only [app_xor]) (fun j hj => out_in_units ⟨j, hj⟩) y
theorem in_rank : rank inF = 8 := rank_full _ fun y => ⟨app outF y, in_out y⟩
theorem inv_out {g : Rows} {ok : Bool} (h : InvOf inF g ok) : ok = true ∧ cells8 g = cells8 outF := by
  have e : ok = true := h.full.2 in_rank
  refine ⟨e, cells8_congr (rows_of_app fun y => ?_)⟩
  have := (h.back e (app outF y)).1
  rwa [in_out] at this
theorem rinv_out {g : Rows} {ok : Bool} (h : RInvOf inF g ok) : ok = true ∧ cells8 g = cells8 outF := by
  have inj : ∀ x y, app inF x = app inF y → x = y := by
    intro x y e
    rw [← out_in x, e, out_in y]
  cases ok with
  | true => exact ⟨rfl, cells8_congr (rows_of_app fun y => inj _ _ (by rw [h.yes rfl, in_out]))⟩
  | false =>
    obtain ⟨_, j, _, hn⟩ := h.no rfl
    exact absurd (in_out (1#8 <<< j)) (hn _)
/-! ### the field in memory -/
def fcells (d s : Int) (i o : Rows) : Array Value := #[.int .u32 d, .int .i32 s, .int .u32 0] ++ cellsOf .u8 (cells8 i) ++ cellsOf .u8 (cells8 o)
def FRow (w : World) (g : Nat) (cs : Array Value) : Prop := w.heap[g]? = some (.cells cs 123 (0, 0))
def FAt (w : World) (g : Nat) (d s : Int) (i o : Rows) : Prop := FRow w g (fcells d s i o)
variable {w : World} {g : Nat} {cs : Array Value} {d s : Int} {i o : Rows}
theorem FRow.lt (h : FRow w g cs) : g < w.heap.size := (Array.getElem?_eq_some_iff.1 h).1
theorem FRow.below (h : FRow w g cs) {w' : World} (hb : Below w.heap.size w w') : FRow w' g cs := (hb.block g h.lt).trans h
theorem FRow.free (h : FRow w g cs) (j : Nat) : w.frozen? ⟨g, j, none⟩ = false := by
  unfold World.frozen?
  rw [h]
  simp
theorem FRow.cell (h : FRow w g cs) (j : Nat) : w.cell? ⟨g, j, none⟩ = cs[j]? := cell_of_row w g j _ _ _ h
theorem FRow.set (h : FRow w g cs) (j : Nat) (v : Value) : FRow (w.setCell ⟨g, j, none⟩ v) g (cs.setIfInBounds j v) := by
  have hlt := h.lt
  unfold FRow at h ⊢
  rw [Array.getElem?_eq_getElem hlt] at h
  have h0 := Option.some.inj h
  show (w.heap.modify g _)[g]? = _
  rw [Array.getElem?_modify, if_pos rfl, Array.getElem?_eq_getElem hlt, h0]
  rfl
theorem FRow.other (h : FRow w g cs) {g' : Nat} (hne : g' ≠ g) (j : Nat) (v : Value) : FRow (w.setCell ⟨g', j, none⟩ v) g cs := by
  unfold FRow at h ⊢
  show (w.heap.modify g' _)[g]? = _
  rw [Array.getElem?_modify, if_neg hne]; exact h
def setAll (cs : Array Value) : Nat → List Value → Array Value
  | _, [] => cs
  | o, v :: vs => setAll (cs.setIfInBounds o v) (o + 1) vs
theorem FRow.sets : ∀ (vs : List Value) (o : Nat) (w : World) (cs : Array Value), FRow w g cs → FRow (w.setCells g o vs) g (setAll cs o vs)
  | [], _, _, _, h => h
  | v :: vs, o, w, cs, h => FRow.sets vs (o + 1) _ _ (h.set o v)
theorem setAll_size : ∀ (vs : List Value) (o : Nat) (cs : Array Value), (setAll cs o vs).size = cs.size
  | [], _, _ => rfl
  | v :: vs, o, cs => by rw [setAll, setAll_size vs, Array.size_setIfInBounds]
theorem setAll_out : ∀ (vs : List Value) (o : Nat) (cs : Array Value) (k : Nat), (k < o ∨ o + vs.length ≤ k) → (setAll cs o vs)[k]? = cs[k]?
  | [], _, _, _, _ => rfl
  | v :: vs, o, cs, k, h => by
    rw [List.length_cons] at h
    rw [setAll, setAll_out vs (o + 1) _ k (by omega), Array.getElem?_setIfInBounds, if_neg (by omega)]
theorem setAll_in : ∀ (vs : List Value) (o : Nat) (cs : Array Value) (j : Nat), j < vs.length → o + vs.length ≤ cs.size → (setAll cs o vs)[o + j]? = vs[j]?
  | [], _, _, _, h, _ => absurd h (by simp)
  | v :: vs, o, cs, 0, h, hs => by
    rw [List.length_cons] at hs
    rw [setAll, setAll_out vs (o + 1) _ (o + 0) (by omega), Nat.add_zero, Array.getElem?_setIfInBounds, if_pos rfl, if_pos (by omega)]
    rfl
  | v :: vs, o, cs, j + 1, h, hs => by
    rw [List.length_cons] at hs h
    rw [setAll, show o + (j + 1) = (o + 1) + j by omega, setAll_in vs (o + 1) _ j (by omega) (by rw [Array.size_setIfInBounds]; omega)]
    rfl
theorem fc_size (d s : Int) (i o : Rows) : (fcells d s i o).size = 19 := by
  unfold fcells
  simp [cellsOf_size, cells8_length]
theorem fc_head (d s : Int) (i o : Rows) (k : Nat) (hk : k < 3) : (fcells d s i o)[k]? = (#[Value.int .u32 d, .int .i32 s, .int .u32 0] : Array Value)[k]? := by
  unfold fcells
  rw [Array.getElem?_append_left (by rw [Array.size_append]; simp; omega), Array.getElem?_append_left (by simpa using hk)]
theorem fc_in (d s : Int) (i o : Rows) (j : Nat) (hj : j < 8) : (fcells d s i o)[3 + j]? = (cellsOf .u8 (cells8 i))[j]? := by
  unfold fcells
  rw [Array.getElem?_append_left (by rw [Array.size_append, cellsOf_size, cells8_length]; simp; omega), Array.getElem?_append_right (by simp)]
  simp
theorem fc_out (d s : Int) (i o : Rows) (j : Nat) (hj : j < 8) : (fcells d s i o)[11 + j]? = (cellsOf .u8 (cells8 o))[j]? := by
  unfold fcells
  rw [Array.getElem?_append_right (by rw [Array.size_append, cellsOf_size, cells8_length]; simp)]
  congr 1
  rw [Array.size_append, cellsOf_size, cells8_length]
  simp
theorem in_range (h : FAt w g d s i o) : w.rangeAt g 3 (cellsOf .u8 (cells8 i)).toList := fun j v hv => by
  have hj : j < 8 := by
    have := (List.getElem?_eq_some_iff.1 hv).1
    rwa [Array.length_toList, cellsOf_size, cells8_length] at this
  rw [FRow.cell h, fc_in _ _ _ _ j hj, ← Array.getElem?_toList]; exact hv
theorem out_range (h : FAt w g d s i o) : w.rangeAt g 11 (cellsOf .u8 (cells8 o)).toList := fun j v hv => by
  have hj : j < 8 := by
    have := (List.getElem?_eq_some_iff.1 hv).1
    rwa [Array.length_toList, cellsOf_size, cells8_length] at this
  rw [FRow.cell h, fc_out _ _ _ _ j hj, ← Array.getElem?_toList]; exact hv
theorem there_ (h : FRow w g cs) (o n : Nat) (hn : o + n ≤ cs.size) : w.there g o n := fun j hj => ⟨by
  rw [h.cell (o + j), Array.getElem?_eq_getElem (by omega)]; rfl, h.free (o + j)⟩
theorem len8 (f : Rows) : (cellsOf .u8 (cells8 f)).toList.length = 8 := by rw [Array.length_toList, cellsOf_size, cells8_length]
theorem set_in_cells (d s : Int) (i o i' : Rows) : setAll (fcells d s i o) 3 (cellsOf .u8 (cells8 i')).toList = fcells d s i' o := by
  refine Array.ext_getElem? fun k => ?_
  rcases Nat.lt_or_ge k 3 with h | h
  · rw [setAll_out _ _ _ k (.inl h), fc_head _ _ _ _ k h, fc_head _ _ _ _ k h]
  · rcases Nat.lt_or_ge k 11 with h2 | h2
    · obtain ⟨j, rfl⟩ : ∃ j, k = 3 + j := ⟨k - 3, by omega⟩
      rw [setAll_in _ 3 _ j (by rw [len8]; omega) (by rw [len8, fc_size]; omega), fc_in _ _ _ _ j (by omega), Array.getElem?_toList]
    · rw [setAll_out _ _ _ k (.inr (by rw [len8]; omega))]
      rcases Nat.lt_or_ge k 19 with h3 | h3
      · obtain ⟨j, rfl⟩ : ∃ j, k = 11 + j := ⟨k - 11, by omega⟩
        rw [fc_out _ _ _ _ j (by omega), fc_out _ _ _ _ j (by omega)]
      · rw [Array.getElem?_eq_none (by rw [fc_size]; exact h3), Array.getElem?_eq_none (by rw [fc_size]; exact h3)]
theorem set_out_cells (d s : Int) (i o o' : Rows) : setAll (fcells d s i o) 11 (cellsOf .u8 (cells8 o')).toList = fcells d s i o' := by
  refine Array.ext_getElem? fun k => ?_
  rcases Nat.lt_or_ge k 3 with h | h
  · rw [setAll_out _ _ _ k (.inl (by omega)), fc_head _ _ _ _ k h, fc_head _ _ _ _ k h]
  · rcases Nat.lt_or_ge k 11 with h2 | h2
    · obtain ⟨j, rfl⟩ : ∃ j, k = 3 + j := ⟨k - 3, by omega⟩
      rw [setAll_out _ _ _ _ (.inl h2), fc_in _ _ _ _ j (by omega), fc_in _ _ _ _ j (by omega)]
    · rcases Nat.lt_or_ge k 19 with h3 | h3
      · obtain ⟨j, rfl⟩ : ∃ j, k = 11 + j := ⟨k - 11, by omega⟩
        rw [setAll_in _ 11 _ j (by rw [len8]; omega) (by rw [len8, fc_size]; omega), fc_out _ _ _ _ j (by omega), Array.getElem?_toList]
      · rw [Array.getElem?_eq_none (by rw [setAll_size, fc_size]; exact h3), Array.getElem?_eq_none (by rw [fc_size]; exact h3)]
theorem set_in (h : FAt w g d s i o) (i' : Rows) : FAt (w.setCells g 3 (cellsOf .u8 (cells8 i')).toList) g d s i' o := by
  unfold FAt
  rw [← set_in_cells d s i o i']
  exact FRow.sets _ 3 w _ h
theorem set_out (h : FAt w g d s i o) (o' : Rows) : FAt (w.setCells g 11 (cellsOf .u8 (cells8 o')).toList) g d s i o' := by
  unfold FAt
  rw [← set_out_cells d s i o o']
  exact FRow.sets _ 11 w _ h
theorem fc_set (d s : Int) (i o : Rows) (k : Nat) (hk : k < 3) (v : Value) : (fcells d s i o).setIfInBounds k v = ((#[Value.int .u32 d, .int .i32 s, .int .u32 0] : Array Value).setIfInBounds k v) ++ cellsOf .u8 (cells8 i) ++ cellsOf .u8 (cells8 o) := by
  unfold fcells
  rw [Array.setIfInBounds_append_left (by rw [Array.size_append]; simp; omega), Array.setIfInBounds_append_left (by simpa using hk)]
theorem set_d (h : FAt w g d s i o) (d' : Int) : FAt (w.setCell ⟨g, 0, none⟩ (.int .u32 d')) g d' s i o := by
  have := FRow.set h 0 (.int .u32 d')
  rwa [fc_set d s i o 0 (by decide)] at this
theorem set_s (h : FAt w g d s i o) (s' : Int) : FAt (w.setCell ⟨g, 1, none⟩ (.int .i32 s')) g d s' i o := by
  have := FRow.set h 1 (.int .i32 s')
  rwa [fc_set d s i o 1 (by decide)] at this
theorem cell_d (h : FAt w g d s i o) : w.cell? ⟨g, 0, none⟩ = some (.int .u32 d) := by rw [FRow.cell h, fc_head _ _ _ _ 0 (by decide)]; rfl
theorem cell_s (h : FAt w g d s i o) : w.cell? ⟨g, 1, none⟩ = some (.int .i32 s) := by rw [FRow.cell h, fc_head _ _ _ _ 1 (by decide)]; rfl
end Go.Proofs.Ytphdlidaigalkaa.Mat
