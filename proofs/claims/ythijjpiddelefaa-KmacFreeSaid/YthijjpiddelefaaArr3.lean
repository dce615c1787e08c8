/-
  An array of three slices of whole numbers that comes in by value: how it is opened. Plain lemmas; no condition.
-/
import Derived.Test.YthijjpiddelefaaArr
import Derived.Test.YthijjpiddelefaaSlices
import Derived.ChangeSlices
namespace Go.Proofs.Ythijjpiddelefaa.Arr3
open Go.RowKit Go.ChangeShapes Go.WideShapes Go.Proofs.Ythijjpiddelefaa.Slices Go.Proofs.Ythijjpiddelefaa.Arr
variable {H : Type} {enc : TypeId × Value → H} {P : Program} {w : World} {base : Nat} {held : Bool}
/-- The value reads as three slices. -/
def IsArr3 (k : IntKind) (w : World) (v : Value) : Prop := ∃ (a0 : Option Addr) (l0 c0 : Nat) (z0 : List Int) (a1 : Option Addr) (l1 c1 : Nat) (z1 : List Int) (a2 : Option Addr) (l2 c2 : Nat) (z2 : List Int),
  v = .agg #[.slice a0 l0 c0, .slice a1 l1 c1, .slice a2 l2 c2] ∧ IsRow k w a0 l0 c0 z0 ∧ IsRow k w a1 l1 c1 z1 ∧ IsRow k w a2 l2 c2 z2
theorem open_one {k : IntKind} {e u : TypeId} {fuel : Nat} {v : Value} {x : DataW H × List MemPlace} (he : P.underlying e = some (.slice u)) (hu : P.underlying u = some (.int k)) (hU : P.cellsOf u = 1) (h : DataW.trod enc P w base (fun _ => true) held fuel e [v] = some x) : ∃ a l c z, v = .slice a l c ∧ IsRow k w a l c z := by
  rcases open_ints he hu hU h with ⟨hcs, _⟩ | ⟨ad, l, c, zs, hcs, _, hl, hm, hz, _, hcell, hwz⟩
  · exact ⟨none, 0, 0, [], by simpa using hcs, .inl ⟨rfl, rfl, rfl, rfl⟩⟩
  · exact ⟨some ad, l, c, zs, by simpa using hcs, .inr ⟨_, rfl, hl, hm, by simpa using hz, hcell, hwz⟩⟩
theorem open_arr3 {r : Reach} {b0 : Nat} {k : IntKind} {t e u : TypeId} {v : Value} {d : DataW H} {p : List MemPlace} (ht : P.underlying t = some (.array 3 e)) (he : P.underlying e = some (.slice u)) (hu : P.underlying u = some (.int k)) (hE : P.cellsOf e = 1) (hU : P.cellsOf u = 1) (hT : P.cellsOf t = 3)
    (hv : Value.okWide P w r b0 t v) (h : DataW.Trod enc P w base (fun _ => true) held t v d p) : IsArr3 k w v := by
  obtain ⟨cs, rfl, hsz⟩ := okWide_array ht hv
  obtain ⟨fuel, hf⟩ := h
  obtain ⟨xs, m, _, _, hl, hx, hel⟩ := DataW.trod_array ht hf
  have hcs : (Value.agg cs).cells.toList = cs.toList := rfl
  rw [hcs] at hel hl
  rw [hT] at hl
  obtain ⟨cl, hcl⟩ : ∃ cl, cs.toList = cl := ⟨_, rfl⟩
  have hcs2 : cs = cl.toArray := by rw [← hcl, Array.toArray_toList]
  rw [hcl] at hel hl
  obtain ⟨v0, v1, v2, rfl⟩ : ∃ a b c, cl = [a, b, c] := by
    match cl, hl with
    | [a, b, c], _ => exact ⟨a, b, c, rfl⟩
  obtain ⟨y0, y1, y2, rfl⟩ : ∃ a b c, xs = [a, b, c] := by
    match xs, hx with
    | [a, b, c], _ => exact ⟨a, b, c, rfl⟩
  have t0 := hel 0 (by decide)
  have t1 := hel 1 (by decide)
  have t2 := hel 2 (by decide)
  rw [hE] at t0 t1 t2
  simp only [Nat.mul_one, List.drop_zero, List.take_succ_cons, List.take_zero, List.drop_succ_cons] at t0 t1 t2
  obtain ⟨a0, l0, c0, z0, rfl, w0⟩ := open_one he hu hU t0
  obtain ⟨a1, l1, c1, z1, rfl, w1⟩ := open_one he hu hU t1
  obtain ⟨a2, l2, c2, z2, rfl, w2⟩ := open_one he hu hU t2
  exact ⟨a0, l0, c0, z0, a1, l1, c1, z1, a2, l2, c2, z2, by rw [hcs2], w0, w1, w2⟩
end Go.Proofs.Ythijjpiddelefaa.Arr3
