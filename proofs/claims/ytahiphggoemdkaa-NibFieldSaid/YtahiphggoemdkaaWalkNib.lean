/-
  The walk of NibField, out of contracts of nib: for all bytes.
-/
import Derived.Test.YtahiphggoemdkaaNibEval
import Derived.Test.YtahiphggoemdkaaGives
namespace Go.Proofs.Ytahiphggoemdkaa.Nib
open Go.RowKit Go.Proofs.Ytahiphggoemdkaa.PNib Go.Proofs.YtahiphggoemdkaaW.PrintWords Go.Proofs.YtahiphggoemdkaaW.PrintLast Go.Proofs.YtahiphggoemdkaaW.PrintMore Byte NibMath NibEval NibSq Gives

theorem mul_c (a b : BitVec 8) : Gives 49 #[.int .u8 (I8 a), .int .u8 (I8 b)] (.int .u8 (I8 (mul a b))) := fun w => nib_Mul.calls 100 _ _ _ w (Mul_eq a b 100 (by decide))
theorem sq_c (a : BitVec 8) : GivesB 50 #[.int .u8 (I8 a)] (.int .u8 (I8 (sq a))) := fun w => nib_Square.calls _ _ w (sq_eq a)
theorem inv_c (a : BitVec 8) : GivesB 53 #[.int .u8 (I8 a)] (.int .u8 (I8 (inv a))) := fun w => nib_Inv.calls 100 _ _ w (Inv_eq a 100 (by decide))
theorem pow_c (a : BitVec 8) (n : Nat) (hn : n < 9223372036854775808) : GivesB 51 #[.int .u8 (I8 a), .int .i64 n] (.int .u8 (I8 (pow a n))) := fun w => nib_Pow.calls 100 _ _ _ w (Pow_eq a n hn 100 (by decide))
theorem mark_c (a : BitVec 8) : GivesB 55 #[.int .u8 (I8 a)] (.int .u8 (I8 (NibMath.mark 4 a 0#8))) := fun w => nib_Mark.calls 100 _ _ w (Mark_eq a 100 (by decide))
theorem apart_c (a : BitVec 8) : GivesB 46 #[.int .u8 (I8 a)] (.bool (NibMath.mark 4 a 0#8 == 1#8)) := fun w => nib_Apart.calls 100 _ _ w (Apart_eq a 100 (by decide))
theorem awake_c : GivesB 48 #[] (.bool true) := fun w => visorlaw04_awake.calls 100 _ w (awake_eq 100 (by decide))

set_option maxHeartbeats 2000000 in
set_option maxRecDepth 100000 in
theorem field (a0 a1 a2 x y z p q s u v yz xy sx sy sxy kx ky kxy iv : Int) (ap zz : Bool) (w : World) (hx : Aside0 (Int.tmod a0 16 = x)) (hy : Aside0 (Int.tmod a1 16 = y)) (hz : Aside0 (Int.tmod a2 16 = z))
    (m1 : Gives 49 #[.int .u8 x, .int .u8 y] (.int .u8 p)) (m2 : Gives 49 #[.int .u8 y, .int .u8 x] (.int .u8 p))
    (m3 : Gives 49 #[.int .u8 y, .int .u8 z] (.int .u8 q)) (m4 : Gives 49 #[.int .u8 x, .int .u8 q] (.int .u8 s)) (m5 : Gives 49 #[.int .u8 p, .int .u8 z] (.int .u8 s))
    (hyz : Aside0 (Go.bits .xor .u8 y z = yz)) (m6 : Gives 49 #[.int .u8 x, .int .u8 yz] (.int .u8 u)) (m7 : Gives 49 #[.int .u8 x, .int .u8 z] (.int .u8 v)) (hu : Aside0 (Go.bits .xor .u8 p v = u))
    (hxy : Aside0 (Go.bits .xor .u8 x y = xy)) (s1 : GivesB 50 #[.int .u8 xy] (.int .u8 sxy)) (s2 : GivesB 50 #[.int .u8 x] (.int .u8 sx)) (s3 : GivesB 50 #[.int .u8 y] (.int .u8 sy)) (hs : Aside0 (Go.bits .xor .u8 sx sy = sxy))
    (k1 : GivesB 55 #[.int .u8 xy] (.int .u8 kxy)) (k2 : GivesB 55 #[.int .u8 x] (.int .u8 kx)) (k3 : GivesB 55 #[.int .u8 y] (.int .u8 ky)) (hk : Aside0 (Go.bits .xor .u8 kx ky = kxy)) (kb : kx ≤ 1)
    (a1' : GivesB 46 #[.int .u8 x] (.bool ap)) (hap : (kx == 1) = ap) (i1 : GivesB 53 #[.int .u8 x] (.int .u8 iv)) (p1 : GivesB 51 #[.int .u8 x, .int .i64 14] (.int .u8 iv))
    (hz0 : (x == 0) = zz) (m8 : zz = false → Gives 49 #[.int .u8 x, .int .u8 iv] (.int .u8 1)) (aw : GivesB 48 #[] (.bool true)) :
    Calls Try.prog 11 #[.int .u8 a0, .int .u8 a1, .int .u8 a2] w fun e w' => e = .returned (.bool true) ∧ Below w.heap.size w w' := by
  have HB := Aside0.mk (Below.refl w.heap.size w)
  have X1 := hx.out
  have X2 := hy.out
  have X3 := hz.out
  have X4 := hyz.out
  have X5 := hu.out
  have X6 := hxy.out
  have X7 := hs.out
  have X8 := hk.out
  clear hx hy hz hyz hu hxy hs hk
  cases zz
  case false =>
    have m8' := m8 rfl
    clear m8
    go_enter Try.func11, Try.ntmps11
    go_wp2_with (first
      | (go_at_call 49; (first | (with_reducible refine (m1.q _).mono ?_) | (with_reducible refine (m2.q _).mono ?_) | (with_reducible refine (m3.q _).mono ?_) | (with_reducible refine (m4.q _).mono ?_) | (with_reducible refine (m5.q _).mono ?_) | (with_reducible refine (m6.q _).mono ?_) | (with_reducible refine (m7.q _).mono ?_) | (with_reducible refine (m8'.q _).mono ?_)); rintro e w' ⟨rfl, ⟨nd, rfl⟩⟩)
      | (go_at_call 50; (first | (with_reducible refine (s1.q _).mono ?_) | (with_reducible refine (s2.q _).mono ?_) | (with_reducible refine (s3.q _).mono ?_)); rintro e w21 ⟨rfl, hb⟩; have n0_ := Aside0.mk (below_step (by repeat (first | (with_reducible first | exact HB.out | apply below_alloc | apply pw_below_drewN | apply below_drew1) | exact HB.out)) hb); clear HB; have HB := n0_; clear n0_; (try clear hb))
      | (go_at_call 55; (first | (with_reducible refine (k1.q _).mono ?_) | (with_reducible refine (k2.q _).mono ?_) | (with_reducible refine (k3.q _).mono ?_)); rintro e w21 ⟨rfl, hb⟩; have n0_ := Aside0.mk (below_step (by repeat (first | (with_reducible first | exact HB.out | apply below_alloc | apply pw_below_drewN | apply below_drew1) | exact HB.out)) hb); clear HB; have HB := n0_; clear n0_; (try clear hb))
      | (go_at_call 46; (first | (with_reducible refine (a1'.q _).mono ?_)); rintro e w21 ⟨rfl, hb⟩; have n0_ := Aside0.mk (below_step (by repeat (first | (with_reducible first | exact HB.out | apply below_alloc | apply pw_below_drewN | apply below_drew1) | exact HB.out)) hb); clear HB; have HB := n0_; clear n0_; (try clear hb))
      | (go_at_call 53; (first | (with_reducible refine (i1.q _).mono ?_)); rintro e w21 ⟨rfl, hb⟩; have n0_ := Aside0.mk (below_step (by repeat (first | (with_reducible first | exact HB.out | apply below_alloc | apply pw_below_drewN | apply below_drew1) | exact HB.out)) hb); clear HB; have HB := n0_; clear n0_; (try clear hb))
      | (go_at_call 51; (first | (with_reducible refine (p1.q _).mono ?_)); rintro e w21 ⟨rfl, hb⟩; have n0_ := Aside0.mk (below_step (by repeat (first | (with_reducible first | exact HB.out | apply below_alloc | apply pw_below_drewN | apply below_drew1) | exact HB.out)) hb); clear HB; have HB := n0_; clear n0_; (try clear hb))
      | (go_at_call 48; (first | (with_reducible refine (aw.q _).mono ?_)); rintro e w21 ⟨rfl, hb⟩; have n0_ := Aside0.mk (below_step (by repeat (first | (with_reducible first | exact HB.out | apply below_alloc | apply pw_below_drewN | apply below_drew1) | exact HB.out)) hb); clear HB; have HB := n0_; clear n0_; (try clear hb)))
    go_ret
    exact ⟨rfl, by repeat (first | (with_reducible first | exact HB.out | apply below_alloc | apply pw_below_drewN | apply below_drew1) | exact HB.out)⟩
  case true =>
    clear m8
    go_enter Try.func11, Try.ntmps11
    go_wp2_with (first
      | (go_at_call 49; (first | (with_reducible refine (m1.q _).mono ?_) | (with_reducible refine (m2.q _).mono ?_) | (with_reducible refine (m3.q _).mono ?_) | (with_reducible refine (m4.q _).mono ?_) | (with_reducible refine (m5.q _).mono ?_) | (with_reducible refine (m6.q _).mono ?_) | (with_reducible refine (m7.q _).mono ?_)); rintro e w' ⟨rfl, ⟨nd, rfl⟩⟩)
      | (go_at_call 50; (first | (with_reducible refine (s1.q _).mono ?_) | (with_reducible refine (s2.q _).mono ?_) | (with_reducible refine (s3.q _).mono ?_)); rintro e w21 ⟨rfl, hb⟩; have n0_ := Aside0.mk (below_step (by repeat (first | (with_reducible first | exact HB.out | apply below_alloc | apply pw_below_drewN | apply below_drew1) | exact HB.out)) hb); clear HB; have HB := n0_; clear n0_; (try clear hb))
      | (go_at_call 55; (first | (with_reducible refine (k1.q _).mono ?_) | (with_reducible refine (k2.q _).mono ?_) | (with_reducible refine (k3.q _).mono ?_)); rintro e w21 ⟨rfl, hb⟩; have n0_ := Aside0.mk (below_step (by repeat (first | (with_reducible first | exact HB.out | apply below_alloc | apply pw_below_drewN | apply below_drew1) | exact HB.out)) hb); clear HB; have HB := n0_; clear n0_; (try clear hb))
      | (go_at_call 46; (first | (with_reducible refine (a1'.q _).mono ?_)); rintro e w21 ⟨rfl, hb⟩; have n0_ := Aside0.mk (below_step (by repeat (first | (with_reducible first | exact HB.out | apply below_alloc | apply pw_below_drewN | apply below_drew1) | exact HB.out)) hb); clear HB; have HB := n0_; clear n0_; (try clear hb))
      | (go_at_call 53; (first | (with_reducible refine (i1.q _).mono ?_)); rintro e w21 ⟨rfl, hb⟩; have n0_ := Aside0.mk (below_step (by repeat (first | (with_reducible first | exact HB.out | apply below_alloc | apply pw_below_drewN | apply below_drew1) | exact HB.out)) hb); clear HB; have HB := n0_; clear n0_; (try clear hb))
      | (go_at_call 51; (first | (with_reducible refine (p1.q _).mono ?_)); rintro e w21 ⟨rfl, hb⟩; have n0_ := Aside0.mk (below_step (by repeat (first | (with_reducible first | exact HB.out | apply below_alloc | apply pw_below_drewN | apply below_drew1) | exact HB.out)) hb); clear HB; have HB := n0_; clear n0_; (try clear hb))
      | (go_at_call 48; (first | (with_reducible refine (aw.q _).mono ?_)); rintro e w21 ⟨rfl, hb⟩; have n0_ := Aside0.mk (below_step (by repeat (first | (with_reducible first | exact HB.out | apply below_alloc | apply pw_below_drewN | apply below_drew1) | exact HB.out)) hb); clear HB; have HB := n0_; clear n0_; (try clear hb)))
    go_ret
    exact ⟨rfl, by repeat (first | (with_reducible first | exact HB.out | apply below_alloc | apply pw_below_drewN | apply below_drew1) | exact HB.out)⟩
theorem mark_xor : ∀ x y : BitVec 4, NibMath.mark 4 (up x ^^^ up y) 0#8 = NibMath.mark 4 (up x) 0#8 ^^^ NibMath.mark 4 (up y) 0#8 := by decide +kernel
theorem mark_le : ∀ a : BitVec 8, (NibMath.mark 4 a 0#8).toNat ≤ 1 := by decide +kernel
theorem inv_pow : ∀ a : BitVec 8, pow a 14 = inv a := by decide +kernel
theorem inv_mul : ∀ x : BitVec 4, x ≠ 0#4 → mul (up x) (inv (up x)) = 1#8 := by decide +kernel
theorem field_walk (a0 a1 a2 : Int) (w : World) (w0 : (Lit.int .u8 a0).wf = true) (w1 : (Lit.int .u8 a1).wf = true) (w2 : (Lit.int .u8 a2).wf = true) :
    Calls Try.prog 11 #[.int .u8 a0, .int .u8 a1, .int .u8 a2] w fun e w' => e = .returned (.bool true) ∧ Below w.heap.size w w' := by
  obtain ⟨a, rfl⟩ := byte_of w0
  obtain ⟨b, rfl⟩ := byte_of w1
  obtain ⟨c, rfl⟩ := byte_of w2
  have ta := tmod16 a
  have tb := tmod16 b
  have tc := tmod16 c
  rw [← up_lo] at ta tb tc
  generalize lo a = x at *
  generalize lo b = y at *
  generalize lo c = z at *
  have m2 := mul_c (up y) (up x)
  rw [mul_comm (up y) (up x)] at m2
  have m5 := mul_c (mul (up x) (up y)) (up z)
  rw [← mul_assoc] at m5
  have p1 := pow_c (up x) 14 (by decide)
  rw [inv_pow] at p1
  refine field _ _ _ _ _ _ _ _ _ _ _ _ _ _ _ _ _ _ _ _ _ (I8 (up x) == 0) w ⟨ta⟩ ⟨tb⟩ ⟨tc⟩ (mul_c _ _) m2 (mul_c _ _) (mul_c _ _) m5 ⟨xor8 _ _⟩ (mul_c _ _) (mul_c _ _) ⟨?_⟩ ⟨xor8 _ _⟩ (sq_c _) (sq_c _) (sq_c _) ⟨?_⟩ (mark_c _) (mark_c _) (mark_c _) ⟨?_⟩ ?_ (apart_c _) ?_ (inv_c _) p1 rfl ?_ awake_c
  · rw [xor8, mul_xor]
  · rw [xor8, sq_mul, sq_mul, sq_mul, mul_xor, xor_mul, xor_mul, mul_comm (up y) (up x)]
    congr 1
    generalize mul (up x) (up x) = A
    generalize mul (up x) (up y) = B
    generalize mul (up y) (up y) = C
    rw [BitVec.xor_assoc, ← BitVec.xor_assoc B B C, BitVec.xor_self, BitVec.zero_xor]
  · rw [xor8, mark_xor]
  · have := mark_le (up x); unfold I8; omega
  · rw [Bool.eq_iff_iff, beq_iff_eq, beq_iff_eq, I8_one]
  · intro h
    have h0 : x ≠ 0#4 := by rintro rfl; exact absurd h (by decide)
    have m8 := mul_c (up x) (inv (up x))
    rw [inv_mul x h0] at m8
    exact m8
end Go.Proofs.Ytahiphggoemdkaa.Nib
