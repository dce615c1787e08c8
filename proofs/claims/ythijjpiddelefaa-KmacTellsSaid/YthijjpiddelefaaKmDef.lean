/-
  kmac.Sum and visorref16.Sum in the print's form: what they tell, and that calls tell it. No condition.
-/
import Derived.Test.YthijjpiddelefaaKmRef
namespace Go.Proofs.Ythijjpiddelefaa.KmSum
open Go Go.RowKit Go.Proofs.Ythijjpiddelefaa Go.Proofs.Ythijjpiddelefaa.PSp Go.Proofs.YthijjpiddelefaaW.PrintWords Go.Proofs.YthijjpiddelefaaW.PrintLast Go.Proofs.YthijjpiddelefaaW.PrintMore
set_option linter.unusedVariables false
def longN (n : Int) (fr : Bool) : Int := if fr = true then 0 else 8 * (if 1048576 < n then 1048576 else n)
def kmac_Sum.f (k : Nat) (a0 : Int) (l1 l2 l3 : List Int) (a4 : Int) (b5 : Bool) : Option (List Int × Int) :=
  (kmac_Head.f k a0 l1).bind fun h => if h.2 = 0 then (if a4 < 0 then some (([] : List Int), 1) else (code_Right.f k (longN a4 b5)).bind fun rt => (kmac_join.f [h.1, l2, rt]).bind fun cat => sponge_Named.f k a0 nameL l3 cat a4) else if h.2 = 1 then some (([] : List Int), 1) else none
theorem kmac_Sum.mono : ∀ a0 a1 a2 a3 a4 a5 k, LeO (kmac_Sum.f k a0 a1 a2 a3 a4 a5) (kmac_Sum.f (k + 1) a0 a1 a2 a3 a4 a5) := by
  intro a0 a1 a2 a3 a4 a5 k
  unfold kmac_Sum.f
  repeat' first
    | (with_reducible exact kmac_Head.mono _ _ _)
    | (with_reducible exact code_Right.mono _ _)
    | (with_reducible exact sponge_Named.mono _ _ _ _ _ _)
    | (with_reducible exact LeO.refl _)
    | (with_reducible exact LeO.none _)
    | (with_reducible refine LeO.ite ?_ ?_)
    | (with_reducible refine LeO.bind ?_ (fun _ => ?_))
theorem kmac_Sum.calls (k : Nat) (a0 : Int) (A1 : Option Addr) (c1 : Nat) (l1 : List Int) (A2 : Option Addr) (c2 : Nat) (l2 : List Int) (A3 : Option Addr) (c3 : Nat) (l3 : List Int) (a4 : Int) (b5 : Bool) (r1 : List Int) (r2 : Int) (w : World) (hr1 : Kd.C (Kd.int .u8) w A1 l1.length l1) (hc1 : l1.length ≤ c1) (hr2 : Kd.C (Kd.int .u8) w A2 l2.length l2) (hc2 : l2.length ≤ c2) (hr3 : Kd.C (Kd.int .u8) w A3 l3.length l3) (hc3 : l3.length ≤ c3) (h : kmac_Sum.f k a0 l1 l2 l3 a4 b5 = some (r1, r2)) :
    Calls Try.prog 47 #[.int .i64 a0, .slice A1 l1.length c1, .slice A2 l2.length c2, .slice A3 l3.length c3, .int .i64 a4, .bool b5] w fun e w' => ∃ v0_ : Value, e = .returned (.tuple #[v0_, .int .i64 r2]) ∧ Kd.V (Kd.int .u8) 5 w' w.heap.size (fun k_ => (w.heap.size ≤ k_)) v0_ r1 ∧ Below w.heap.size w w' := by
  unfold kmac_Sum.f at h
  obtain ⟨⟨hd, e1⟩, h1, h⟩ := Option.bind_eq_some_iff.mp h
  simp only at h
  by_cases h0 : e1 = 0
  · subst h0
    rw [if_pos rfl] at h
    by_cases hn : a4 < 0
    · rw [if_pos hn] at h
      obtain ⟨rfl, rfl⟩ := Prod.mk.inj (Option.some.inj h)
      exact kmsum_c k k k A1 A2 A3 c1 c2 c3 a0 l1 l2 l3 a4 b5 hd [] [] [] 1 w hr1 hr2 hr3 hc1 hc2 hc3 (.inr (.inl ⟨h1, hn, rfl, rfl⟩))
    · rw [if_neg hn] at h
      obtain ⟨rt, h2, h⟩ := Option.bind_eq_some_iff.mp h
      obtain ⟨cat, h3, h⟩ := Option.bind_eq_some_iff.mp h
      refine kmsum_c k k k A1 A2 A3 c1 c2 c3 a0 l1 l2 l3 a4 b5 hd rt cat r1 r2 w hr1 hr2 hr3 hc1 hc2 hc3 (.inr (.inr ⟨h1, hn, h3, h, ?_⟩))
      unfold longN at h2
      cases b5 with
      | true => exact .inl ⟨rfl, h2⟩
      | false =>
        rw [if_neg (by decide)] at h2
        by_cases hb : 1048576 < a4
        · rw [if_pos hb] at h2
          exact .inr (.inl ⟨rfl, hb, h2⟩)
        · rw [if_neg hb] at h2
          exact .inr (.inr ⟨rfl, hb, h2⟩)
  · rw [if_neg h0] at h
    by_cases h01 : e1 = 1
    · subst h01
      rw [if_pos rfl] at h
      obtain ⟨rfl, rfl⟩ := Prod.mk.inj (Option.some.inj h)
      exact kmsum_c k k k A1 A2 A3 c1 c2 c3 a0 l1 l2 l3 a4 b5 hd [] [] [] 1 w hr1 hr2 hr3 hc1 hc2 hc3 (.inl ⟨h1, rfl, rfl⟩)
    · rw [if_neg h01] at h
      cases h
def visorref16_Sum.f (k : Nat) (a0 : Int) (l1 l2 l3 : List Int) (a4 : Int) (b5 : Bool) : Option (List Int) :=
  if 0 ≤ a4 ∧ a4 ≤ 65536 then (visorref16_Head.f k a0 l1).bind fun hd => (visorref14_Right.f k (if b5 = true then 0 else 8 * a4)).bind fun rt => if hd.length + l2.length + rt.length ≤ 1000000000 then visorref15_Named.f k a0 nameL l3 (hd ++ l2 ++ rt) a4 else none else none
theorem visorref16_Sum.mono : ∀ a0 a1 a2 a3 a4 a5 k, LeO (visorref16_Sum.f k a0 a1 a2 a3 a4 a5) (visorref16_Sum.f (k + 1) a0 a1 a2 a3 a4 a5) := by
  intro a0 a1 a2 a3 a4 a5 k
  unfold visorref16_Sum.f
  repeat' first
    | (with_reducible exact visorref16_Head.mono _ _ _)
    | (with_reducible exact visorref14_Right.mono _ _)
    | (with_reducible exact visorref15_Named.mono _ _ _ _ _ _)
    | (with_reducible exact LeO.refl _)
    | (with_reducible exact LeO.none _)
    | (with_reducible refine LeO.ite ?_ ?_)
    | (with_reducible refine LeO.bind ?_ (fun _ => ?_))
theorem visorref16_Sum.calls (k : Nat) (a0 : Int) (A1 : Option Addr) (c1 : Nat) (l1 : List Int) (A2 : Option Addr) (c2 : Nat) (l2 : List Int) (A3 : Option Addr) (c3 : Nat) (l3 : List Int) (a4 : Int) (b5 : Bool) (r : List Int) (w : World) (hr1 : Kd.C (Kd.int .u8) w A1 l1.length l1) (hc1 : l1.length ≤ c1) (hr2 : Kd.C (Kd.int .u8) w A2 l2.length l2) (hc2 : l2.length ≤ c2) (hr3 : Kd.C (Kd.int .u8) w A3 l3.length l3) (hc3 : l3.length ≤ c3) (h : visorref16_Sum.f k a0 l1 l2 l3 a4 b5 = some r) :
    Calls Try.prog 50 #[.int .i64 a0, .slice A1 l1.length c1, .slice A2 l2.length c2, .slice A3 l3.length c3, .int .i64 a4, .bool b5] w fun e w' => ∃ v0_ : Value, e = .returned (v0_) ∧ Kd.R (Kd.int .u8) 5 w' w.heap.size (fun _ => True) v0_ r ∧ Below w.heap.size w w' := by
  unfold visorref16_Sum.f at h
  by_cases hn : 0 ≤ a4 ∧ a4 ≤ 65536
  · rw [if_pos hn] at h
    obtain ⟨hd, h1, h⟩ := Option.bind_eq_some_iff.mp h
    obtain ⟨rt, h2, h⟩ := Option.bind_eq_some_iff.mp h
    by_cases hl : hd.length + l2.length + rt.length ≤ 1000000000
    · rw [if_pos hl] at h
      refine rkmsum_c k k k A1 A2 A3 c1 c2 c3 a0 l1 l2 l3 a4 b5 hd rt r w hr1 hr2 hr3 hc1 hc2 hc3 hn hl h1 h ?_
      cases b5 with
      | true => exact .inl ⟨rfl, h2⟩
      | false => exact .inr ⟨rfl, h2⟩
    · rw [if_neg hl] at h
      cases h
  · rw [if_neg hn] at h
    cases h
end Go.Proofs.Ythijjpiddelefaa.KmSum
