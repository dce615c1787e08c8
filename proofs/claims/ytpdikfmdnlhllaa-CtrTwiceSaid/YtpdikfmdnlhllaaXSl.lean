/-
  A value that reads as a row of whole numbers, for walks by hand. Plain lemmas; no condition.
-/
import Derived.Test.YtpdikfmdnlhllaaXKit
namespace Go.Proofs.Ytpdikfmdnlhllaa.Sl
open Go.RowKit Go.Proofs.YtpdikfmdnlhllaaW.PrintWords
/-- In this world v is a slice that reads as l. -/
def Sl (k : IntKind) (w : World) (v : Value) (l : List Int) : Prop := ∃ A c, v = .slice A l.length c ∧ l.length ≤ c ∧ Kd.C (Kd.int k) w A l.length l
theorem Sl.below {k : IntKind} {w w' : World} {v : Value} {l : List Int} (h : Sl k w v l) (hb : Below w.heap.size w w') : Sl k w' v l := by
  obtain ⟨A, c, hv, hc, hC⟩ := h
  exact ⟨A, c, hv, hc, Kd.C_below hC hb⟩
theorem Sl.drewN {k : IntKind} {w : World} {v : Value} {l : List Int} (h : Sl k w v l) (n : Nat) : Sl k (w.drewN n) v l := h.below (pw_below_drewN (Below.refl _ _) n)
theorem Sl.drew {k : IntKind} {w : World} {v : Value} {l : List Int} (h : Sl k w v l) : Sl k w.drew v l := h.below (below_drew (Below.refl _ _))
theorem Sl.alloc {k : IntKind} {w : World} {v : Value} {l : List Int} (h : Sl k w v l) (o : Obj) : Sl k (w.alloc o) v l := h.below (below_alloc (Below.refl _ _) o)
theorem Sl.of_R {k : IntKind} {w : World} {e base : Nat} {ok : Nat → Prop} {v : Value} {l : List Int} (h : Kd.R (Kd.int k) e w base ok v l) : Sl k w v l := by
  obtain ⟨A, c, rfl, hc, hC⟩ := Kd.R_reads h
  exact ⟨A, c, rfl, hc, hC⟩
/-- Cells one behind the other. -/
theorem Sl.of_cells {k : IntKind} {w : World} {ad : Addr} {c : Nat} {l : List Int} (hc : l.length ≤ c) (hm : l.length ≤ 9223372036854775807) (h : ∀ j x, l[j]? = some x → w.cell? (ad.add j) = some (.int k x)) : Sl k w (.slice (some ad) l.length c) l := by
  refine ⟨some ad, c, rfl, hc, rfl, hm, fun _ => ⟨ad, rfl, fun j p hj => ⟨[.int k p], rfl, rfl, fun i u hi => ?_⟩⟩⟩
  have hi0 : i = 0 := by
    rcases Nat.eq_zero_or_pos i with h0 | h0
    · exact h0
    · rw [List.getElem?_eq_none (by simp; omega)] at hi; cases hi
  subst hi0
  have : u = .int k p := by simpa using hi.symm
  subst this
  have := h j p hj
  simpa [Kd.int, Kd.scalar] using this
theorem Sl.cell {k : IntKind} {w : World} {v : Value} {l : List Int} (h : Sl k w v l) (i : Nat) (hi : i < l.length) : ∃ ad c, v = .slice (some ad) l.length c ∧ w.cell? (ad.add i) = some (.int k (l.getD i 0)) := by
  obtain ⟨A, c, rfl, hc, hC⟩ := h
  obtain ⟨ad, rfl, hx⟩ := Kd.at_int hC (i : Int) (by omega) (by omega)
  refine ⟨ad, c, rfl, ?_⟩
  rw [Int.toNat_natCast] at hx
  unfold rd at hx
  rwa [Int.toNat_natCast] at hx
end Go.Proofs.Ytpdikfmdnlhllaa.Sl
