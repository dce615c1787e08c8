/-
  The document's tape, walked.
-/
import Derived.Test.YtahiphggoemdkaaTapeR
namespace Go.Proofs.Ytahiphggoemdkaa.Tape
open Go.RowKit Go.Proofs.YtahiphggoemdkaaW.PrintWords Go.Proofs.YtahiphggoemdkaaW.PrintLast Go.Proofs.YtahiphggoemdkaaW.PrintMore _root_.Go.Proofs.Ytahiphggoemdkaa.Sl Gives
set_option linter.unusedVariables false
set_option linter.unusedSimpArgs false
set_option maxHeartbeats 4000000
set_option maxRecDepth 100000
variable {w : World} {g : Nat} {v : Value} {u f : Int}
/-- Block g is a tape of the document's: its words that are left, how many were drawn, how many may be. -/
def RAt (w : World) (g : Nat) (v : Value) (u f : Int) : Prop := w.heap[g]? = some (.cells #[v, .int .i64 u, .int .i64 f] 59 (0, 0))
theorem RAt.lt (h : RAt w g v u f) : g < w.heap.size := (Array.getElem?_eq_some_iff.1 h).1
theorem RAt.c0 (h : RAt w g v u f) : w.cell? ⟨g, 0, none⟩ = some v := by rw [cell_of_row w g 0 _ _ _ h]; rfl
theorem RAt.c1 (h : RAt w g v u f) : w.cell? ⟨g, 1, none⟩ = some (.int .i64 u) := by rw [cell_of_row w g 1 _ _ _ h]; rfl
theorem RAt.c2 (h : RAt w g v u f) : w.cell? ⟨g, 2, none⟩ = some (.int .i64 f) := by rw [cell_of_row w g 2 _ _ _ h]; rfl
theorem RAt.free (h : RAt w g v u f) (i : Nat) : w.frozen? ⟨g, i, none⟩ = false := by
  unfold World.frozen?
  rw [h]
  simp
theorem RAt.set (h : RAt w g v u f) (i : Nat) (x v' : Value) (u' f' : Int) (hx : (#[v, .int .i64 u, .int .i64 f] : Array Value).setIfInBounds i x = #[v', .int .i64 u', .int .i64 f']) : RAt (w.setCell ⟨g, i, none⟩ x) g v' u' f' := by
  have hlt := h.lt
  unfold RAt at h ⊢
  rw [Array.getElem?_eq_getElem hlt] at h
  have h0 := Option.some.inj h
  show (w.heap.modify g _)[g]? = _
  rw [Array.getElem?_modify, if_pos rfl, Array.getElem?_eq_getElem hlt, h0, ← hx]
  rfl
theorem RAt.below (h : RAt w g v u f) {w' : World} (hb : Below w.heap.size w w') : RAt w' g v u f := (hb.block g h.lt).trans h
theorem RAt.drewN (h : RAt w g v u f) (n : Nat) : RAt (w.drewN n) g v u f := h.below (pw_below_drewN (Below.refl _ _) n)
theorem RAt.drew (h : RAt w g v u f) : RAt w.drew g v u f := h
theorem RAt.ch (h : RAt w g v u f) {k : Nat} {w' : World} (hc : Ch k w w') (hne : g ≠ k) : RAt w' g v u f := (hc.block g h.lt (fun e => hne (Option.some.inj e))).trans h
theorem At.ch (h : At w g v u f) {k : Nat} {w' : World} (hc : Ch k w w') (hne : g ≠ k) : At w' g v u f := (hc.block g h.lt (fun e => hne (Option.some.inj e))).trans h
theorem rreserve_c {A : Option Addr} {n c : Nat} (k : Int) (h : RAt w g (.slice A n c) u f) : Calls Try.prog 66 #[.pointer (some ⟨g, 0, none⟩), .int .i64 k] w fun e w' => e = .returned (.int .i64 (if k < 0 then 1 else if k > (n : Int) then 2 else 0)) ∧ Ch g w w' ∧ RAt w' g (.slice A n c) u (if k < 0 then f else if k > (n : Int) then f else k) := by
  have HS := Aside0.mk h
  have hc0 := h.c0
  have hc := h.c2
  have hf := h.free 2
  clear h
  by_cases h1 : k < 0
  · rw [if_pos h1, if_pos h1]
    have b1 : decide (k < 0) = true := decide_eq_true h1
    go_enter Try.func66, Try.ntmps66
    go_wp2
    go_ret
    exact ⟨rfl, Ch.refl _, HS.out⟩
  · by_cases h2 : k > (n : Int)
    · rw [if_neg h1, if_neg h1, if_pos h2, if_pos h2]
      have b1 : decide (k < 0) = false := decide_eq_false h1
      have b2 : decide (k > (n : Int)) = true := decide_eq_true h2
      go_enter Try.func66, Try.ntmps66
      go_wp2
      go_ret
      exact ⟨rfl, Ch.refl _, HS.out⟩
    · rw [if_neg h1, if_neg h1, if_neg h2, if_neg h2]
      have b1 : decide (k < 0) = false := decide_eq_false h1
      have b2 : decide (k > (n : Int)) = false := decide_eq_false h2
      go_enter Try.func66, Try.ntmps66
      go_wp2
      go_ret
      exact ⟨rfl, Ch.set _ _ _, RAt.set HS.out 2 _ _ _ _ rfl⟩
theorem rdraw_no {A : Option Addr} {n c : Nat} (h : RAt w g (.slice A n c) u f) (hno : f < 1 ∨ n = 0) : Calls Try.prog 67 #[.pointer (some ⟨g, 0, none⟩)] w fun e w' => e = .returned (.tuple #[.int .u64 0, .bool false]) ∧ w' = w := by
  have hc0 := h.c0
  have hc := h.c2
  clear h
  by_cases h1 : f < 1
  · have b1 : decide (f < 1) = true := decide_eq_true h1
    clear hno h1
    go_enter Try.func67, Try.ntmps67
    go_wp2
    exact bodyPost_ret (results_tmp2 rfl _ _ _) rfl ⟨rfl, rfl⟩
  · obtain rfl : n = 0 := by omega
    have b1 : decide (f < 1) = false := decide_eq_false h1
    clear hno h1
    go_enter Try.func67, Try.ntmps67
    go_wp2
    exact bodyPost_ret (results_tmp2 rfl _ _ _) rfl ⟨rfl, rfl⟩
theorem rdraw_yes {ad : Addr} {n c : Nat} {x : Int} (h : RAt w g (.slice (some ad) (n + 1) (c + 1)) u f) (hu : 0 ≤ u) (hu2 : u ≤ 140737488355328) (hf1 : 1 ≤ f) (hf2 : f ≤ 140737488355328) (hnc : n ≤ c) (hx : w.cell? ad = some (.int .u64 x)) (ha : ad.block ≠ g) : Calls Try.prog 67 #[.pointer (some ⟨g, 0, none⟩)] w fun e w' => e = .returned (.tuple #[.int .u64 x, .bool true]) ∧ Ch g w w' ∧ ∃ ad', RAt w' g (.slice (some ad') n c) (u + 1) (f - 1) ∧ (0 < n → ad' = ad.add 1) := by
  have HS := Aside0.mk h
  have hc0 := h.c0
  have hc1 := h.c1
  have hc := h.c2
  have hf0 := h.free 0
  have hfr1 := h.free 1
  have hf := h.free 2
  have b1 : decide (f < 1) = false := decide_eq_false (by omega)
  have e1 : IntKind.i64.wrap (f - 1) = f - 1 := by rw [IntKind.wrap_i64]; omega
  have e2 : IntKind.i64.wrap (u + 1) = u + 1 := by rw [IntKind.wrap_i64]; omega
  have HA := Aside0.mk ha
  have b3 : ((n : Int) + 1 == 0) = false := by rw [beq_eq_false_iff_ne]; omega
  clear h ha hu hu2 hf1 hf2
  go_enter Try.func67, Try.ntmps67
  have HN := Aside0.mk hnc
  obtain ⟨ad1, had⟩ : ∃ z, z = ad.add 1 := ⟨_, rfl⟩
  rw [← had]
  have HAD := Aside0.mk had
  clear had hnc
  go_wp2
  · exact bodyPost_ret (results_tmp2 rfl _ _ _) rfl ⟨rfl, Ch.trans (Ch.set _ 0 _) (Ch.trans (Ch.set _ 2 _) (Ch.set _ 1 _)), _, RAt.set (RAt.set (RAt.set HS.out 0 _ _ _ _ rfl) 2 _ _ _ _ rfl) 1 _ _ _ _ rfl, fun h => by have := HN.out; omega⟩
  · exact bodyPost_ret (results_tmp2 rfl _ _ _) rfl ⟨rfl, Ch.trans (Ch.set _ 0 _) (Ch.trans (Ch.set _ 2 _) (Ch.set _ 1 _)), _, RAt.set (RAt.set (RAt.set HS.out 0 _ _ _ _ rfl) 2 _ _ _ _ rfl) 1 _ _ _ _ rfl, fun h => HAD.out.symm⟩
end Go.Proofs.Ytahiphggoemdkaa.Tape
