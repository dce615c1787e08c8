/-
  What a walk is told of a slice of whole numbers that came in. Plain definitions; no condition.
-/
import Derived.Test.YtpdikfmdnlhllaaXSl
namespace Go.Proofs.Ytpdikfmdnlhllaa.Slices
open Go.RowKit Go.Proofs.YtpdikfmdnlhllaaW.PrintWords Sl
/-- It is nil; or it leads to a row of 'cap' cells, the numbers 'zs' (the first 'len' are its elements). -/
def IsRow (k : IntKind) (w : World) (a : Option Addr) (len cap : Nat) (zs : List Int) : Prop :=
  (a = none ∧ len = 0 ∧ cap = 0 ∧ zs = []) ∨
  ∃ x, a = some x ∧ len ≤ cap ∧ cap ≤ maxLen ∧ zs.length = cap ∧ (∀ i, i < zs.length → w.cell? (x.add i) = some (.int k (zs.getD i 0))) ∧ ∀ n ∈ zs, (Lit.int k n).wf = true
theorem IsRow.sl {k : IntKind} {w : World} {a : Option Addr} {len cap : Nat} {zs : List Int} (h : IsRow k w a len cap zs) : Sl k w (.slice a len cap) (zs.take len) ∧ (zs.take len).length = len ∧ ∀ n ∈ zs.take len, (Lit.int k n).wf = true := by
  rcases h with ⟨rfl, rfl, rfl, rfl⟩ | ⟨x, rfl, h1, h2, h3, h4, h5⟩
  · exact ⟨⟨none, 0, rfl, by simp, rfl, by simp, fun h => by simp at h⟩, rfl, by simp⟩
  · have hl : (zs.take len).length = len := by simp; omega
    refine ⟨?_, hl, fun n hn => h5 n (List.mem_of_mem_take hn)⟩
    have := Sl.of_cells (k := k) (w := w) (ad := x) (c := cap) (l := zs.take len) (by omega) (by unfold maxLen at h2; omega) (fun j y hj => by
      have hj2 : zs[j]? = some y := by
        rw [List.getElem?_take] at hj
        split at hj
        · exact hj
        · cases hj
      have hlt := (List.getElem?_eq_some_iff.1 hj2).1
      rw [h4 j hlt, List.getD_eq_getElem?_getD, hj2]; rfl)
    rwa [hl] at this
end Go.Proofs.Ytpdikfmdnlhllaa.Slices
