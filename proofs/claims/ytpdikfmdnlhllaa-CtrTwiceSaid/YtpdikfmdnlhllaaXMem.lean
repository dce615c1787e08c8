/-
  An array variable in memory, for walks by hand: its block's cells are whole numbers. Plain lemmas; no condition.
-/
import Derived.Test.YtpdikfmdnlhllaaXSl
import Derived.Test.YtpdikfmdnlhllaaXArr
namespace Go.Proofs.Ytpdikfmdnlhllaa.Mem
open Go.RowKit Go.Proofs.YtpdikfmdnlhllaaW.PrintWords Arr
variable {k : IntKind} {w : World} {g : Nat} {t : TypeId} {l : List Int}
def cellsOf (k : IntKind) (l : List Int) : Array Value := (l.map (Value.int k)).toArray
theorem arrV_eq (k : IntKind) (l : List Int) : arrV k l = .agg (cellsOf k l) := rfl
/-- Block g is an array of type t, whose cells are l. -/
def Mem (k : IntKind) (w : World) (g : Nat) (t : TypeId) (l : List Int) : Prop := w.heap[g]? = some (.cells (cellsOf k l) t (0, 0))
theorem cellsOf_get (k : IntKind) (l : List Int) (i : Nat) : (cellsOf k l)[i]? = (l[i]?).map (Value.int k) := by simp [cellsOf]
theorem cellsOf_size (k : IntKind) (l : List Int) : (cellsOf k l).size = l.length := by simp [cellsOf]
theorem Mem.cell (h : Mem k w g t l) (i : Nat) (hi : i < l.length) : w.cell? ⟨g, i, none⟩ = some (.int k (l.getD i 0)) := by
  rw [cell_of_row w g i _ t _ h, cellsOf_get, List.getElem?_eq_getElem hi, List.getD_eq_getElem?_getD, List.getElem?_eq_getElem hi]; rfl
theorem Mem.free (h : Mem k w g t l) (i : Nat) : w.frozen? ⟨g, i, none⟩ = false := by
  unfold World.frozen?
  rw [h]
  simp
theorem Mem.lt (h : Mem k w g t l) : g < w.heap.size := (Array.getElem?_eq_some_iff.1 h).1
theorem Mem.new (k : IntKind) (w : World) (t : TypeId) (l : List Int) : Mem k (w.alloc (.cells (cellsOf k l) t)) w.heap.size t l := by
  show (w.heap.push _)[w.heap.size]? = _
  rw [Array.getElem?_push_size]
theorem Mem.alloc (h : Mem k w g t l) (o : Obj) : Mem k (w.alloc o) g t l := by
  have := h.lt
  show (w.heap.push _)[g]? = _
  rw [Array.getElem?_push_lt this, ← Array.getElem?_eq_getElem this]; exact h
theorem Mem.below (h : Mem k w g t l) {w' : World} (hb : Below w.heap.size w w') : Mem k w' g t l := (hb.block g h.lt).trans h
theorem Mem.new2 (k : IntKind) (w : World) (o1 : Obj) (t : TypeId) (l : List Int) : Mem k ((w.alloc o1).alloc (.cells (cellsOf k l) t)) (w.heap.size + 1) t l := by
  have h := Mem.new k (w.alloc o1) t l
  have hs : (w.alloc o1).heap.size = w.heap.size + 1 := Array.size_push ..
  rwa [hs] at h
theorem Mem.new3 (k : IntKind) (w : World) (o1 o2 : Obj) (t : TypeId) (l : List Int) : Mem k (((w.alloc o1).alloc o2).alloc (.cells (cellsOf k l) t)) (w.heap.size + 2) t l := by
  have h := Mem.new k ((w.alloc o1).alloc o2) t l
  have hs : ((w.alloc o1).alloc o2).heap.size = w.heap.size + 2 := by
    show ((w.heap.push o1).push o2).size = _
    simp
  rwa [hs] at h
theorem Mem.drew (h : Mem k w g t l) : Mem k w.drew g t l := h
theorem Mem.drewN (h : Mem k w g t l) (n : Nat) : Mem k (w.drewN n) g t l := h.below (pw_below_drewN (Below.refl _ _) n)
theorem Mem.set (h : Mem k w g t l) (i : Nat) (x : Int) : Mem k (w.setCell ⟨g, i, none⟩ (.int k x)) g t (l.set i x) := by
  have hlt := h.lt
  unfold Mem at h ⊢
  rw [Array.getElem?_eq_getElem hlt] at h
  have h0 := Option.some.inj h
  show (w.heap.modify g _)[g]? = _
  rw [Array.getElem?_modify, if_pos rfl, Array.getElem?_eq_getElem hlt, h0]
  simp [cellsOf, List.map_set]
theorem Mem.other (h : Mem k w g t l) {g' : Nat} (hne : g' ≠ g) (i : Nat) (v : Value) : Mem k (w.setCell ⟨g', i, none⟩ v) g t l := by
  unfold Mem at h ⊢
  show (w.heap.modify g' _)[g]? = _
  rw [Array.getElem?_modify, if_neg hne]; exact h
theorem Mem.row (h : Mem k w g t l) {g' : Nat} (hne : g' ≠ g) (cs : Array Value) : Mem k (w.setRow g' cs) g t l := by
  unfold Mem at h ⊢
  rw [setRow_other w g' g cs (Ne.symm hne)]; exact h
theorem setCell_size (w : World) (a : Addr) (v : Value) : (w.setCell a v).heap.size = w.heap.size := by
  show (w.heap.modify _ _).size = _
  simp
/-! ### A row that is filled, place by place -/
def fillTo (new old : List Int) (i : Nat) : List Int := new.take i ++ old.drop i
theorem fillTo_zero (new old : List Int) : fillTo new old 0 = old := by simp [fillTo]
theorem fillTo_length (new old : List Int) (h : new.length = old.length) (i : Nat) : (fillTo new old i).length = old.length := by simp [fillTo]; omega
theorem fillTo_end (new old : List Int) (h : new.length = old.length) : fillTo new old old.length = new := by simp [fillTo, ← h]
theorem fillTo_ge (new old : List Int) (h : new.length = old.length) (i j : Nat) (hi : i ≤ old.length) (hj : i ≤ j) : (fillTo new old i).getD j 0 = old.getD j 0 := by
  unfold fillTo
  rw [List.getD_eq_getElem?_getD, List.getElem?_append_right (by simp; omega), List.getElem?_drop, List.getD_eq_getElem?_getD]
  congr 2
  simp; omega
theorem fillTo_lt (new old : List Int) (h : new.length = old.length) (i j : Nat) (hi : i ≤ old.length) (hj : j < i) : (fillTo new old i).getD j 0 = new.getD j 0 := by
  unfold fillTo
  rw [List.getD_eq_getElem?_getD, List.getElem?_append_left (by simp; omega), List.getElem?_take_of_lt hj, List.getD_eq_getElem?_getD]
theorem fillTo_set (new old : List Int) (h : new.length = old.length) (i : Nat) (hi : i < old.length) (x : Int) (hx : new.getD i 0 = x) : (fillTo new old i).set i x = fillTo new old (i + 1) := by
  subst hx
  refine List.ext_getElem? fun j => ?_
  rw [List.getElem?_set, fillTo_length new old h]
  have e : ∀ (p q : Nat), p ≤ old.length → (fillTo new old p)[q]? = if q < p then new[q]? else old[q]? := by
    intro p q hp
    unfold fillTo
    by_cases hq : q < p
    · rw [if_pos hq, List.getElem?_append_left (by simp; omega), List.getElem?_take_of_lt hq]
    · rw [if_neg hq, List.getElem?_append_right (by simp; omega), List.getElem?_drop]
      congr 1; simp; omega
  rw [e i j (by omega), e (i + 1) j (by omega)]
  by_cases hij : i = j
  · subst hij
    rw [if_pos rfl, if_pos hi, if_pos (by omega), List.getD_eq_getElem?_getD, List.getElem?_eq_getElem (by omega)]; rfl
  · rw [if_neg hij]
    by_cases h2 : j < i
    · rw [if_pos h2, if_pos (by omega)]
    · rw [if_neg h2, if_neg (by omega)]
/-- A list by its places. -/
def byI (n : Nat) (F : Nat → Int) : List Int := (List.range n).map F
theorem byI_length (n : Nat) (F : Nat → Int) : (byI n F).length = n := by simp [byI]
theorem byI_get (n : Nat) (F : Nat → Int) (i : Nat) (h : i < n) : (byI n F).getD i 0 = F i := by simp [byI, List.getD_eq_getElem?_getD, h]
theorem byI_ext (n : Nat) (F : Nat → Int) (l : List Int) (hl : l.length = n) (h : ∀ i, i < n → l.getD i 0 = F i) : l = byI n F := by
  refine List.ext_getElem? fun i => ?_
  rcases Nat.lt_or_ge i n with hi | hi
  · have := h i hi
    rw [List.getD_eq_getElem?_getD, List.getElem?_eq_getElem (by omega)] at this
    rw [List.getElem?_eq_getElem (by omega)]
    simp [byI, hi]
    exact this
  · rw [List.getElem?_eq_none (by omega), List.getElem?_eq_none (by rw [byI_length]; exact hi)]
section
variable {P : Program} {ops : Array Oper} {rest : List Oper} {o : Oper} {a : Act} {Q : Exit → Act → World → Prop}
/-- An element of an array by value. -/
theorem run_index_arr {ty e : TypeId} {n : Nat} {l : List Int} (ht : P.underlying ty = some (.array n e)) (he : P.underlying e = some (.int k)) (hs : (P.info? e).map (·.size) = some 1) (hl : l.length = n) (i : Nat) (hi : i < n) (w : World) :
    (Instr.index ty (.agg (cellsOf k l)) (.int .i64 (i : Int))).run P w = .ok (.int k (l.getD i 0)) w := by
  have hc : (cellsOf k l)[i]? = some (.int k (l.getD i 0)) := by
    rw [cellsOf_get, List.getElem?_eq_getElem (by omega), List.getD_eq_getElem?_getD, List.getElem?_eq_getElem (by omega)]; rfl
  cases hq : P.info? e with
  | none => simp [hq] at hs
  | some inf =>
    have hsz : inf.size = 1 := by simpa [hq] using hs
    have hagg : (isAgg e).run P w = .ok false w := by
      unfold isAgg
      rw [Sem.run_bind, run_underlying he w]
      rfl
    simp [Instr.index, run_underlying ht, asIntOf, part, Sem.run_bind, hagg, sizeOf, typeInfo, hq, hsz, hi, hc, go_sem]
/-- A whole array is read. -/
theorem Mem.load {w : World} {g : Nat} {t : TypeId} {l : List Int} (h : Mem k w g t l) (hgd : o.guard = none) (ty : TypeId) (x : Operand) (ho : o.op = .load ty x) (hx : a.eval x = .pointer (some ⟨g, 0, none⟩)) {n : Nat} {e : TypeId} (hu : P.underlying ty = some (.array n e)) (hi : (P.info? ty).map (·.size) = some l.length)
    (hK : wpList P ops Q rest (a.put o.dst (.agg (cellsOf k l))) w) : wpList P ops Q (o :: rest) a w :=
  wpList_load_row hgd ty x ho g hx t (cellsOf k l) (0, 0) _ h hu rfl (by rw [cellsOf_size]; exact hi) hK
/-- A whole array is written. -/
theorem Mem.store {w : World} {g : Nat} {t : TypeId} {l l' : List Int} (h : Mem k w g t l) (hgd : o.guard = none) (ty : TypeId) (x y : Operand) (ho : o.op = .store ty x y) (hx : a.eval x = .pointer (some ⟨g, 0, none⟩)) (hy : a.eval y = .agg (cellsOf k l')) (hi : (P.info? ty).map (·.size) = some l'.length) (hl : l.length = l'.length)
    (hK : wpList P ops Q rest (a.put o.dst undef) (w.setRow g (cellsOf k l'))) : wpList P ops Q (o :: rest) a w :=
  wpList_store_row hgd ty x y ho g (cellsOf k l') hx hy t (cellsOf k l) h (by rw [cellsOf_size]; exact hi) (by rw [cellsOf_size, cellsOf_size, hl]) (by simp [cellsOf, Value.oneCell']) hK
theorem Mem.put {w : World} {g : Nat} {t : TypeId} {l : List Int} (h : Mem k w g t l) (l' : List Int) : Mem k (w.setRow g (cellsOf k l')) g t l' := setRow_heap w g _ _ t _ h
end
end Go.Proofs.Ytpdikfmdnlhllaa.Mem
