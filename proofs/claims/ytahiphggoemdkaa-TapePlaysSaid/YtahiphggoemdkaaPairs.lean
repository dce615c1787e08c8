/-
  A slice of structs of two ints that came in: its cells. Plain lemmas; no condition.
-/
import Derived.Test.YtahiphggoemdkaaWWords
import Derived.Deep.Slices
import Derived.ChangeSame
import Derived.Laws.LoneSync
namespace Go.Proofs.Ytahiphggoemdkaa.Pairs
open Go.ChangeShapes Go.WideShapes Go.Deep
/-- It is nil; or it leads to a row of pairs. -/
def IsPairs (w : World) (A : Option Addr) (len cap : Nat) : Prop :=
  (A = none ∧ len = 0) ∨ ∃ a, A = some a ∧ len ≤ cap ∧ cap ≤ maxLen ∧ ∀ i, i < len → ∃ k n : Int, w.cell? (a.add (i * 2)) = some (.int .i64 k) ∧ w.cell? ⟨(a.add (i * 2)).block, (a.add (i * 2)).off + 1, none⟩ = some (.int .i64 n) ∧ (Lit.int .i64 k).wf = true ∧ (Lit.int .i64 n).wf = true
section
variable {H : Type} {enc : TypeId × Value → H} {P : Program} {w : World} {base : Nat} {held : Bool}
theorem open_pairs {t e : TypeId} {f0 f1 : Field} {fuel : Nat} {A : Option Addr} {len cap : Nat} {x : DataW H × List MemPlace} (ht : P.underlying t = some (.slice e)) (he : P.underlying e = some (.struct #[f0, f1]))
    (hc : P.cellsOf e = 2) (o0 : f0.offset = 0) (o1 : f1.offset = 1) (c0 : P.cellsOf f0.type = 1) (c1 : P.cellsOf f1.type = 1) (u0 : P.underlying f0.type = some (.int .i64)) (u1 : P.underlying f1.type = some (.int .i64))
    (h : DataW.trod enc P w base (fun _ => true) held fuel t [.slice A len cap] = some x) : IsPairs w A len cap := by
  rcases open_slice ht h with ⟨h0, _⟩ | ⟨a, l, c, m, n, D, Pl, hcs, _, hl, hm, hmm, _, hi⟩
  · simp only [List.cons.injEq, Value.slice.injEq, and_true] at h0
    exact .inl ⟨h0.1, h0.2.1⟩
  · simp only [List.cons.injEq, Value.slice.injEq, and_true] at hcs
    obtain ⟨rfl, rfl, rfl⟩ := hcs
    refine .inr ⟨a, rfl, hl, hm, fun i hil => ?_⟩
    obtain ⟨cs', hcl, htr⟩ := hi i (by rw [hmm]; simp; omega)
    rw [hc] at hcl
    obtain ⟨_, hlen, hat⟩ := World.cells?_some hcl
    obtain ⟨y0, y1, n', _, _, t0, t1⟩ := trod_struct2 he htr
    rw [o0, c0, List.drop_zero] at t0
    rw [o1, c1] at t1
    obtain ⟨k, e0, _, w0⟩ := DataW.trod_int u0 t0
    obtain ⟨q, e1, _, w1⟩ := DataW.trod_int u1 t1
    match cs', hlen with
    | [v0, v1], _ =>
      simp only [List.take_succ_cons, List.take_zero, List.cons.injEq, and_true, List.drop_succ_cons, List.drop_zero] at e0 e1
      subst e0; subst e1
      have g0 := hat 0 (by decide)
      have g1 := hat 1 (by decide)
      rw [Go.Deep.add_add] at g0 g1
      have g0' : w.cell? (a.add (i * 2)) = some (.int .i64 k) := by simpa using g0
      obtain ⟨_, _, _, _, hsp⟩ := World.shape?_of_cell? g0'
      have e : (⟨(a.add (i * 2)).block, (a.add (i * 2)).off + 1, none⟩ : Addr) = a.add (i * 2 + 1) := by
        rw [← Go.Deep.add_add]
        generalize a.add (i * 2) = b at hsp
        unfold Addr.add
        cases b
        simp_all
      exact ⟨k, q, g0', by rw [e]; simpa using g1, w0, w1⟩
end
end Go.Proofs.Ytahiphggoemdkaa.Pairs
