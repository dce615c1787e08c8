/-
  A slice of slices of whole numbers that comes in: how it is opened for a walk that speaks of kinds. Plain lemmas; no condition.
-/
import Derived.Test.YthijjpiddelefaaWWords
import Derived.Deep.Matrix
namespace Go.Proofs.Ythijjpiddelefaa.RowsArg
open Go.RowKit Go.Proofs.YthijjpiddelefaaW.PrintWords Go.Deep
/-- The slice reads as these rows. -/
def IsRows (k : IntKind) (E : Nat) (w : World) (a : Option Addr) (len cap : Nat) : Prop := ∃ l : List (List Int), l.length = len ∧ len ≤ cap ∧ Kd.C (Kd.slice E (Kd.int k)) w a len l ∧ ∀ row ∈ l, ∀ x ∈ row, (Lit.int k x).wf = true
section
variable {H : Type} {enc : TypeId × Value → H} {P : Program} {w : World} {base : Nat} {held : Bool}
theorem open_rows {t e q E : TypeId} {k : IntKind} {fuel : Nat} {a : Option Addr} {len cap : Nat} {x : DataW H × List MemPlace} (ht : P.underlying t = some (.slice e)) (he : P.underlying e = some (.slice q)) (hq : P.underlying q = some (.int k))
    (ce : P.cellsOf e = 1) (cq : P.cellsOf q = 1) (h : DataW.trod enc P w base (fun _ => true) held fuel t (Value.slice a len cap).cells.toList = some x) : IsRows k E w a len cap := by
  rcases open_int_rows ht he hq ce cq h with ⟨hcs, _⟩ | ⟨x, l, c, A, L, C, Z, hcs, _, hl, hm, _, hr⟩
  · simp [Value.cells] at hcs
    obtain ⟨rfl, rfl, rfl⟩ := hcs
    exact ⟨[], rfl, Nat.le_refl _, ⟨rfl, by decide, fun h => by omega⟩, fun _ h => by cases h⟩
  · simp [Value.cells] at hcs
    obtain ⟨rfl, rfl, rfl⟩ := hcs
    refine ⟨(List.range len).map fun r => (Z r).take (L r), by simp, hl, ⟨by simp, by unfold maxLen at hm; omega, fun hp => ⟨x, rfl, fun j p hj => ?_⟩⟩, fun row hrow y hy => ?_⟩
    · have hjl : j < len := by
        have := (List.getElem?_eq_some_iff.1 hj).1
        simpa using this
      have hp' : (Z j).take (L j) = p := by simpa [hjl] using hj
      obtain ⟨h1, h2, h3, h4, h5, h6, h7⟩ := hr j (by omega)
      have hpl : p.length = L j := by rw [← hp']; simp; omega
      refine ⟨[.slice (A j) p.length (C j)], rfl, ⟨A j, C j, rfl, by omega, ?_⟩, fun i u hi => ?_⟩
      · refine ⟨rfl, by unfold maxLen at h3; omega, fun hp0 => ?_⟩
        cases hA : A j with
        | none => have := h6 hA; omega
        | some ad =>
          refine ⟨ad, rfl, fun i y hi => ⟨[.int k y], rfl, rfl, fun i' u hi' => ?_⟩⟩
          have hi0 : i' = 0 := by
            rcases Nat.eq_zero_or_pos i' with h0 | h0
            · exact h0
            · rw [List.getElem?_eq_none (by simp; omega)] at hi'; cases hi'
          subst hi0
          have hu : u = .int k y := by simpa using hi'.symm
          subst hu
          have hil := (List.getElem?_eq_some_iff.1 hi).1
          have hz : (Z j)[i]? = some y := by
            rw [← hp', List.getElem?_take] at hi
            split at hi
            · exact hi
            · cases hi
          have := (h7 ad hA).2 i (by omega)
          rw [List.getD_eq_getElem?_getD, hz] at this
          simpa [Kd.int, Kd.scalar] using this
      · have hi0 : i = 0 := by
          rcases Nat.eq_zero_or_pos i with h0 | h0
          · exact h0
          · rw [List.getElem?_eq_none (by simp; omega)] at hi; cases hi
        subst hi0
        have hu : u = .slice (A j) p.length (C j) := by simpa using hi.symm
        subst hu
        rw [hpl]
        simpa [Kd.slice] using h1
    · obtain ⟨j, hj, rfl⟩ := List.mem_map.1 hrow
      have hjl := List.mem_range.1 hj
      obtain ⟨h1, h2, h3, h4, h5, h6, h7⟩ := hr j (by omega)
      exact h5 y (List.mem_of_mem_take hy)
end
end Go.Proofs.Ythijjpiddelefaa.RowsArg
