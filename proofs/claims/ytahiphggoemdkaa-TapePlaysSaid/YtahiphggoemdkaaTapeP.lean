/-
  A row of words lies apart from a tape's own block: its cells are of another kind. Plain lemmas.
-/
import Derived.Test.YtahiphggoemdkaaTapeD
import Derived.Test.YtahiphggoemdkaaPairs
namespace Go.Proofs.Ytahiphggoemdkaa.Tape
open Go.RowKit Go.Proofs.YtahiphggoemdkaaW.PrintWords _root_.Go.Proofs.Ytahiphggoemdkaa.Sl Gives
variable {w : World} {g : Nat} {v : Value} {u f : Int}
theorem no_word {A : Option Addr} {n c : Nat} (t : TypeId) (a : Addr) (x : Int) (h : w.heap[a.block]? = some (.cells #[.slice A n c, .int .i64 u, .int .i64 f] t (0, 0))) (hc : w.cell? a = some (.int .u64 x)) : False := by
  unfold World.cell? at hc
  rw [h] at hc
  split at hc
  · rename_i e
    have e := Option.some.inj e
    injection e with e1 e2 e3
    subst e1
    split at hc
    · cases hc
    · generalize a.off = i at hc
      rcases i with _ | _ | _ | i
      all_goals simp at hc
  · simp_all
theorem sl_first {l : List Int} {A : Option Addr} {n c : Nat} (h : Sl .u64 w (.slice A n c) l) (hn : 0 < n) : ∃ ad x, A = some ad ∧ w.cell? (ad.add 0) = some (.int .u64 x) := by
  obtain ⟨A', c', hv, hle, hC⟩ := h
  injection hv with e1 e2 e3
  subst e1; subst e2; subst e3
  obtain ⟨ad, c'', hv, hx⟩ := Sl.cell (k := .u64) (w := w) (v := .slice A l.length c) (l := l) ⟨A, c, rfl, hle, hC⟩ 0 hn
  injection hv with e1
  exact ⟨ad, _, e1, hx⟩
theorem away_of {A : Option Addr} {n c : Nat} {t : TypeId} (h : w.heap[g]? = some (.cells #[.slice A n c, .int .i64 u, .int .i64 f] t (0, 0))) {l : List Int} (hs : Sl .u64 w v l) : Away v g := by
  intro ad m c' hv hm hb
  subst hv
  obtain ⟨ad', x, e, hx⟩ := sl_first hs hm
  injection e with e
  subst e
  refine no_word (w := w) (u := u) (f := f) (A := A) (n := n) (c := c) t (ad.add 0) x ?_ hx
  have hb' : (ad.add 0).block = ad.block := by unfold Addr.add; split <;> rfl
  rw [hb', hb]; exact h
theorem At.away {A : Option Addr} {n c : Nat} (h : At w g (.slice A n c) u f) {l : List Int} (hs : Sl .u64 w v l) : Away v g := away_of h hs
theorem RAt.away {A : Option Addr} {n c : Nat} (h : RAt w g (.slice A n c) u f) {l : List Int} (hs : Sl .u64 w v l) : Away v g := away_of h hs
theorem apart {h : Nat} {v' : Value} {u' f' : Int} (a : At w g v u f) (b : RAt w h v' u' f') : g ≠ h := by
  rintro rfl
  unfold At at a
  unfold RAt at b
  rw [a] at b
  injection b with b
  injection b with b1 b2
  exact absurd b2 (by decide)
theorem sl_head {A : Option Addr} {n c : Nat} {l : List Int} (h : Sl .u64 w (.slice A n c) l) (hn : 0 < n) : ∃ ad n' c' x, A = some ad ∧ n = n' + 1 ∧ c = c' + 1 ∧ n' ≤ c' ∧ x = l.getD 0 0 ∧ w.cell? ad = some (.int .u64 x) ∧ ∀ ad' : Addr, (0 < n' → ad' = ad.add 1) → ∀ w', (∀ a x, a.block = ad.block → w.cell? a = some x → w'.cell? a = some x) → Sl .u64 w' (.slice (some ad') n' c') (l.drop 1) := by
  obtain ⟨A', c0, hv, hle, hC⟩ := h
  injection hv with e1 e2 e3
  subst e1; subst e2; subst e3
  have hS : Sl .u64 w (.slice A l.length c) l := ⟨A, c, rfl, hle, hC⟩
  obtain ⟨ad, c'', hv, hx⟩ := Sl.cell hS 0 hn
  injection hv with e1 e2 e3
  subst e1; subst e3
  rw [show ad.add 0 = ad from by simp [Addr.add]] at hx
  have hm : l.length ≤ 9223372036854775807 := hC.2.1
  refine ⟨ad, l.length - 1, c - 1, _, rfl, by omega, by omega, by omega, rfl, hx, fun ad' h1 w' hw => ?_⟩
  have hl : (l.drop 1).length = l.length - 1 := by rw [List.length_drop]
  rw [← hl] at h1 ⊢
  refine Sl.of_cells (by omega) (by omega) fun j x hj => ?_
  have hlt := (List.getElem?_eq_some_iff.1 hj).1
  obtain ⟨ad2, c2, hv2, hx2⟩ := Sl.cell hS (1 + j) (by omega)
  injection hv2 with e1 _ _
  injection e1 with e1
  subst e1
  rw [h1 (by omega), Go.Deep.add_add]
  refine hw _ _ (by unfold Addr.add; split <;> rfl) ?_
  rw [hx2]
  rw [List.getElem?_drop] at hj
  rw [List.getD_eq_getElem?_getD, hj]; rfl
theorem sl_cellv {ad : Addr} {c : Nat} {l : List Int} (h : Sl .u64 w (.slice (some ad) l.length c) l) (i : Nat) (hi : i < l.length) : w.cell? (ad.add i) = some (.int .u64 (l.getD i 0)) := by
  obtain ⟨ad2, c2, hv2, hx2⟩ := Sl.cell h i hi
  injection hv2 with e1 _ _
  injection e1 with e1
  subst e1
  exact hx2
theorem getD_drop0 (l : List Int) (u : Nat) : (l.drop u).getD 0 0 = l.getD u 0 := by
  simp [List.getD_eq_getElem?_getD]
end Go.Proofs.Ytahiphggoemdkaa.Tape
