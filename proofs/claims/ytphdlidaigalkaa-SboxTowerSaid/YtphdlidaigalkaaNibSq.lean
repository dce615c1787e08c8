/-
  nib.Square, walked: for any byte: a byte put together of four bits; in the form that the print gives its own contracts.
-/
import Derived.Test.YtphdlidaigalkaaGives
import Derived.Test.YtphdlidaigalkaaByte
import Derived.WalkKit
import Derived.KernelRfl
namespace Go.Proofs.Ytphdlidaigalkaa.NibSq
open Go.RowKit Go.Proofs.YtphdlidaigalkaaW.PrintWords Byte Gives
theorem bit_c (g : Nat) (x i : Int) (w : World) (hx : w.cell? ⟨g, 0, none⟩ = some (.int .u8 x)) (h0 : 0 ≤ i) (h1 : i ≤ 8) :
    Calls Try.prog 120 #[.int .i64 i, .pointer (some ⟨g, 0, none⟩)] w fun e w' => e = .returned (.int .u8 (Go.bits .and .u8 (x / 2 ^ i.toNat) 1)) ∧ w = w' := by
  go_enter Try.func120, Try.ntmps120
  go_wp2
  go_ret
  exact ⟨rfl, rfl⟩
/-- The square, bit by bit. -/
def sq (a : BitVec 8) : BitVec 8 :=
  (if a.getLsbD 0 != a.getLsbD 2 then 1#8 else 0#8) ||| (if a.getLsbD 2 then 2#8 else 0#8) ||| (if a.getLsbD 1 != a.getLsbD 3 then 4#8 else 0#8) ||| (if a.getLsbD 3 then 8#8 else 0#8)
def b1 (a : BitVec 8) (i : Nat) : Int := Go.bits .and .u8 (I8 a / 2 ^ i) 1
theorem sq_all : ∀ a : BitVec 8, Go.bits .or .u8 (Go.bits .or .u8 (Go.bits .or .u8 (Go.bits .xor .u8 (b1 a 0) (b1 a 2)) (IntKind.u8.wrap (b1 a 2 * 2 ^ 1))) (IntKind.u8.wrap (Go.bits .xor .u8 (b1 a 1) (b1 a 3) * 2 ^ 2))) (IntKind.u8.wrap (b1 a 3 * 2 ^ 3)) = I8 (sq a) := by decide +kernel
def nib_Square.f (a0 : Int) : Option Int := if 0 ≤ a0 ∧ a0 < 256 then some (I8 (sq (BitVec.ofInt 8 a0))) else none
theorem sq_eq (a : BitVec 8) : nib_Square.f (I8 a) = some (I8 (sq a)) := by
  unfold nib_Square.f
  rw [if_pos ⟨I8_lo a, I8_hi a⟩, of8]
set_option maxHeartbeats 1000000 in
theorem nib_Square.calls (a0 : Int) (r : Int) (w : World) (h : nib_Square.f a0 = some r) :
    Calls Try.prog 92 #[.int .u8 a0] w fun e w' => e = .returned (.int .u8 r) ∧ Below w.heap.size w w' := by
  unfold nib_Square.f at h
  split at h
  case isFalse => cases h
  case isTrue hb =>
    obtain ⟨a, rfl⟩ := I8_of a0 hb.1 hb.2
    rw [of8] at h
    obtain rfl := Option.some.inj h
    have hs := sq_all a
    have e0 : b1 a 0 = Go.bits .and .u8 (I8 a / 2 ^ (0 : Int).toNat) 1 := rfl
    have e1 : b1 a 1 = Go.bits .and .u8 (I8 a / 2 ^ (1 : Int).toNat) 1 := rfl
    have e2 : b1 a 2 = Go.bits .and .u8 (I8 a / 2 ^ (2 : Int).toNat) 1 := rfl
    have e3 : b1 a 3 = Go.bits .and .u8 (I8 a / 2 ^ (3 : Int).toNat) 1 := rfl
    have c0 : ∀ w', w'.cell? ⟨w.heap.size, 0, none⟩ = some (.int .u8 (I8 a)) → Calls Try.prog 120 #[.int .i64 0, .pointer (some ⟨w.heap.size, 0, none⟩)] w' fun e w2 => e = .returned (.int .u8 (b1 a 0)) ∧ w' = w2 := fun w' hx => bit_c _ _ 0 w' hx (by decide) (by decide)
    have c1 : ∀ w', w'.cell? ⟨w.heap.size, 0, none⟩ = some (.int .u8 (I8 a)) → Calls Try.prog 120 #[.int .i64 1, .pointer (some ⟨w.heap.size, 0, none⟩)] w' fun e w2 => e = .returned (.int .u8 (b1 a 1)) ∧ w' = w2 := fun w' hx => bit_c _ _ 1 w' hx (by decide) (by decide)
    have c2 : ∀ w', w'.cell? ⟨w.heap.size, 0, none⟩ = some (.int .u8 (I8 a)) → Calls Try.prog 120 #[.int .i64 2, .pointer (some ⟨w.heap.size, 0, none⟩)] w' fun e w2 => e = .returned (.int .u8 (b1 a 2)) ∧ w' = w2 := fun w' hx => bit_c _ _ 2 w' hx (by decide) (by decide)
    have c3 : ∀ w', w'.cell? ⟨w.heap.size, 0, none⟩ = some (.int .u8 (I8 a)) → Calls Try.prog 120 #[.int .i64 3, .pointer (some ⟨w.heap.size, 0, none⟩)] w' fun e w2 => e = .returned (.int .u8 (b1 a 3)) ∧ w' = w2 := fun w' hx => bit_c _ _ 3 w' hx (by decide) (by decide)
    have C0 := Aside0.mk c0
    have C1 := Aside0.mk c1
    have C2 := Aside0.mk c2
    have C3 := Aside0.mk c3
    clear c0 c1 c2 c3 e0 e1 e2 e3
    generalize b1 a 0 = x0 at *
    generalize b1 a 1 = x1 at *
    generalize b1 a 2 = x2 at *
    generalize b1 a 3 = x3 at *
    generalize I8 (sq a) = y at *
    generalize I8 a = x at *
    have HS := Aside0.mk hs
    clear hs h hb
    have hmf : ∀ (fn : Fn) (first cap : Array Value) (w : World), (Instr.makeFunc fn first cap).run Try.prog w = .ok (.func fn first cap) w := fun _ _ _ _ => rfl
    have hx : (w.alloc (Obj.cells #[Value.int .u8 x] 5)).cell? ⟨w.heap.size, 0, none⟩ = some (.int .u8 x) := by go_simp
    have HX := Aside0.mk hx
    clear hx
    go_enter Try.func92, Try.ntmps92
    go_wp2_with (go_at_call 120; (first | (with_reducible refine (C0.out _ HX.out).mono ?_) | (with_reducible refine (C1.out _ HX.out).mono ?_) | (with_reducible refine (C2.out _ HX.out).mono ?_) | (with_reducible refine (C3.out _ HX.out).mono ?_)); rintro e w' ⟨rfl, rfl⟩)
    go_ret
    exact ⟨by rw [← HS.out]; rfl, below_alloc (Below.refl _ _) _⟩
end Go.Proofs.Ytphdlidaigalkaa.NibSq
