/-
  An array of whole numbers that comes in by value: how it is opened. Plain lemmas; no condition.
-/
import Derived.OpenShut
import Derived.WideShapes
namespace Go.Proofs.Ytpdikfmdnlhllaa.Arr
open Go.RowKit
variable {H : Type} {enc : TypeId × Value → H} {P : Program} {w : World} {base : Nat} {spare : Nat → Bool} {held : Bool}
theorem okWide_array {r : Reach} {t : TypeId} {v : Value} {n : Nat} {e : TypeId} (ht : P.underlying t = some (.array n e)) (h : Value.okWide P w r base t v) : ∃ cs, v = .agg cs ∧ cs.size = P.cellsOf t := by
  simp only [Value.okWide, ht] at h
  obtain ⟨cs, h1, h2, _⟩ := h
  exact ⟨cs, h1, h2⟩
/-- An array of whole numbers as a value. -/
def arrV (k : IntKind) (l : List Int) : Value := .agg (l.map (Value.int k)).toArray
theorem open_arr {r : Reach} {b0 : Nat} {k : IntKind} {t : TypeId} {v : Value} {d : DataW H} {p : List MemPlace} {n : Nat} {e : TypeId} (ht : P.underlying t = some (.array n e)) (he : P.underlying e = some (.int k)) (hE : P.cellsOf e = 1) (hT : P.cellsOf t = n)
    (hv : Value.okWide P w r b0 t v) (h : DataW.Trod enc P w base spare held t v d p) : ∃ l : List Int, l.length = n ∧ v = arrV k l ∧ ∀ x ∈ l, (Lit.int k x).wf = true := by
  obtain ⟨cs, rfl, hsz⟩ := okWide_array ht hv
  obtain ⟨fuel, hf⟩ := h
  obtain ⟨xs, m, _, _, hl, hx, hel⟩ := DataW.trod_array ht hf
  have hcs : (Value.agg cs).cells.toList = cs.toList := rfl
  rw [hcs] at hel hl
  have hone : ∀ i, i < n → ∃ y, cs.toList[i]? = some (.int k y) ∧ (Lit.int k y).wf = true := by
    intro i hi
    have h1 := hel i hi
    rw [hE, Nat.mul_one, List.getElem?_eq_getElem (by omega)] at h1
    obtain ⟨y, hy, _, hw⟩ := DataW.trod_int he h1
    refine ⟨y, ?_, hw⟩
    have : cs.toList[i]? = ((cs.toList.drop i).take 1)[0]? := by simp
    rw [this, hy]; rfl
  have hln : cs.toList.length = n := by rw [hl, hT]
  have key : ∀ m : Nat, m ≤ n → ∃ l : List Int, l.length = m ∧ cs.toList.take m = l.map (Value.int k) ∧ ∀ x ∈ l, (Lit.int k x).wf = true := by
    intro m
    induction m with
    | zero => intro _; exact ⟨[], rfl, by simp, by simp⟩
    | succ m ih =>
      intro hm
      obtain ⟨l, h1, h2, h3⟩ := ih (by omega)
      obtain ⟨y, hy, hw⟩ := hone m (by omega)
      refine ⟨l ++ [y], by simp [h1], ?_, ?_⟩
      · rw [List.take_add_one, hy, h2]; simp
      · intro x hx
        rcases List.mem_append.1 hx with hx | hx
        · exact h3 x hx
        · rw [List.mem_singleton.1 hx]; exact hw
  obtain ⟨l, h1, h2, h3⟩ := key n (Nat.le_refl _)
  rw [List.take_of_length_le (by omega)] at h2
  refine ⟨l, h1, ?_, h3⟩
  unfold arrV
  rw [← h2, Array.toArray_toList]
end Go.Proofs.Ytpdikfmdnlhllaa.Arr
