/-
  The box at its work, whatever was done with it before; rows of bytes of a call's own beside it. Plain lemmas; no condition.
-/
import Derived.Test.YtpdikfmdnlhllaaXAesMath
namespace Go.Proofs.Ytpdikfmdnlhllaa.Aes
open Go.RowKit Go.Proofs.Ytpdikfmdnlhllaa.PNib Go.Proofs.YtpdikfmdnlhllaaW.PrintWords Go.Proofs.YtpdikfmdnlhllaaW.PrintLast Go.Proofs.YtpdikfmdnlhllaaW.PrintMore Byte Sl Arr Mem Gives ArrEq Mat AesMath
set_option linter.unusedVariables false
set_option linter.unusedSimpArgs false
/-- Block g is a box, new or at work. -/
def BoxS (w : World) (g : Nat) : Prop := BAt w g F0 ∨ Box w g
theorem BoxS.lt {w : World} {g : Nat} (h : BoxS w g) : g < w.heap.size := h.elim (fun h => h.lt) (fun h => h.lt)
theorem BoxS.below {w w' : World} {g : Nat} (h : BoxS w g) (hb : Below w.heap.size w w') : BoxS w' g := h.imp (fun h => h.below hb) (fun h => h.below hb)
theorem BoxS.typed {w : World} {g : Nat} (h : BoxS w g) : ∃ cells, w.heap[g]? = some (.cells cells 116 (0, 0)) := by
  rcases h with h | ⟨F, h, _⟩
  · exact ⟨_, h⟩
  · exact ⟨_, h⟩
theorem BoxS.set {w : World} {g b : Nat} (h : BoxS w g) (hne : b ≠ g) (i : Nat) (v : Value) : BoxS (w.setCell ⟨b, i, none⟩ v) g := by
  rcases h with h | ⟨F, h, r⟩
  · exact Or.inl (h.other hne i v)
  · exact Or.inr ⟨F, h.other hne i v, r⟩
theorem BoxS.row {w : World} {g b : Nat} (h : BoxS w g) (hne : b ≠ g) (cs : Array Value) : BoxS (w.setRow b cs) g := by
  rcases h with h | h
  · exact Or.inl (h.row hne cs)
  · exact Or.inr (h.row hne cs)
theorem BoxS.grown {w w' : World} {g : Nat} (h : BoxS w g) {row : Option Nat} (hg : w.grownBy w' row) (hne : some g ≠ row) : BoxS w' g := by
  rcases h with h | ⟨F, h, r⟩
  · exact Or.inl ((hg.block g h.lt hne).trans h)
  · exact Or.inr ⟨F, (hg.block g h.lt hne).trans h, r⟩
theorem subS_c {w : World} {g : Nat} (h : BoxS w g) (b : B) : Calls Try.prog 75 #[.pointer (some ⟨g, 0, none⟩), .int .u8 (I8 b)] w fun e w' => e = .returned (.int .u8 (I8 (subB b))) ∧ BoxS w' g ∧ Ch g w w' := by
  rcases h with h | h
  · exact (sub_first h b).mono fun e w' ⟨h1, h2, h3⟩ => ⟨h1, Or.inr h2, h3⟩
  · refine (sub_done h b).mono ?_
    rintro e w' ⟨h1, rfl⟩
    exact ⟨h1, Or.inr h, Ch.refl _⟩
theorem backS_c {w : World} {g : Nat} (h : BoxS w g) (b : B) : Calls Try.prog 76 #[.pointer (some ⟨g, 0, none⟩), .int .u8 (I8 b)] w fun e w' => e = .returned (.int .u8 (I8 (backB b))) ∧ BoxS w' g ∧ Ch g w w' := by
  rcases h with h | h
  · exact (back_first h b).mono fun e w' ⟨h1, h2, h3⟩ => ⟨h1, Or.inr h2, h3⟩
  · refine (back_done h b).mono ?_
    rintro e w' ⟨h1, rfl⟩
    exact ⟨h1, Or.inr h, Ch.refl _⟩
/-! ### a row of bytes of the call's own, from base b on -/
def Ow (w : World) (b : Nat) (v : Value) (l : List Int) : Prop := Kd.Q (Kd.int .u8) 5 w b (fun k => b ≤ k) v l
section
variable {w w' : World} {b g : Nat} {v : Value} {l : List Int}
theorem Ow.below (h : Ow w b v l) (hb : Below w.heap.size w w') : Ow w' b v l := Kd.Q_below h hb
theorem Ow.drewN (h : Ow w b v l) (n : Nat) : Ow (w.drewN n) b v l := Kd.Q_drewN h n
theorem Ow.drew (h : Ow w b v l) : Ow w.drew b v l := Kd.Q_drew h
theorem Ow.alloc (h : Ow w b v l) (o : Obj) : Ow (w.alloc o) b v l := Kd.Q_alloc h o
theorem Ow.ch (h : Ow w b v l) (hc : Ch g w w') (hg : g < b) : Ow w' b v l := Kd.Q_grown h hc (fun k hk e => by have := Option.some.inj e; omega)
theorem Ow.reads (h : Ow w b v l) : ∃ A c, v = .slice A l.length c ∧ l.length ≤ c ∧ Kd.C (Kd.int .u8) w A l.length l := Kd.Q_reads h
theorem Ow.of_R {ok : Nat → Prop} {e : Nat} (h : Kd.R (Kd.int .u8) 5 w e ok v l) (hb : b ≤ e) : Ow w b v l := Kd.Q_mono (Kd.Q_lower (Kd.Q_bound (Kd.Q_of_R h)) hb) (fun k hk => Nat.le_trans hb hk.2.1)
theorem Ow.of_Q {ok : Nat → Prop} {e : Nat} (h : Kd.Q (Kd.int .u8) 5 w e ok v l) (hb : b ≤ e) : Ow w b v l := Kd.Q_mono (Kd.Q_lower (Kd.Q_bound h) hb) (fun k hk => Nat.le_trans hb hk.2.1)
end
end Go.Proofs.Ytpdikfmdnlhllaa.Aes
