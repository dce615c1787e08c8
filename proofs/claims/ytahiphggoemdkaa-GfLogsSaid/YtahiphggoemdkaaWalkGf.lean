/-
  The walks of GfField and GfLogs, out of the printed contracts of gf and of its reference: for all bytes, and any int.
-/
import Derived.Test.YtahiphggoemdkaaGfEval
import Derived.Test.YtahiphggoemdkaaGives
namespace Go.Proofs.Ytahiphggoemdkaa.Gf
open Go.RowKit Go.Proofs.Ytahiphggoemdkaa.PGfTells Go.Proofs.YtahiphggoemdkaaW.PrintWords Go.Proofs.YtahiphggoemdkaaW.PrintLast Go.Proofs.YtahiphggoemdkaaW.PrintMore Byte GfMath GfEval Gives

theorem mul_c (a b : BitVec 8) : Gives 33 #[.int .u8 (I8 a), .int .u8 (I8 b)] (.int .u8 (I8 (mul a b))) := fun w => gf_Mul.calls 100 _ _ _ w (Mul_eq a b 100 (by decide))
theorem inv_c (a : BitVec 8) : Gives 36 #[.int .u8 (I8 a)] (.int .u8 (I8 (pow a 254))) := fun w => gf_Inv.calls 100 _ _ w (Inv_eq a 100 (by decide))
theorem pow_c (a : BitVec 8) (n : Nat) (hn : n < 9223372036854775808) : Gives 34 #[.int .u8 (I8 a), .int .i64 n] (.int .u8 (I8 (pow a n))) := fun w => gf_Pow.calls 100 _ _ _ w (Pow_eq a n hn 100 (by decide))
theorem order_c (e : Nat) : GivesB 38 #[.int .u8 (I8 (pow 3#8 e))] (.int .i64 (ord e)) := fun w => gf_Order.calls 200 _ _ w (Order_eq e 200 (by decide))
theorem order0_c : GivesB 38 #[.int .u8 (I8 0#8)] (.int .i64 0) := fun w => gf_Order.calls 200 _ _ w (Order_zero 200)
theorem awake_c : Gives 40 #[] (.bool true) := fun w => visorlaw03_awake.calls 100 _ w (awake_eq 100 (by decide))

set_option maxHeartbeats 1000000 in
set_option maxRecDepth 100000 in
theorem field0 (x y z p q s u v yz i : Int) (w : World) (m1 : Gives 33 #[.int .u8 x, .int .u8 y] (.int .u8 p)) (m2 : Gives 33 #[.int .u8 y, .int .u8 x] (.int .u8 p))
    (m3 : Gives 33 #[.int .u8 y, .int .u8 z] (.int .u8 q)) (m4 : Gives 33 #[.int .u8 x, .int .u8 q] (.int .u8 s)) (m5 : Gives 33 #[.int .u8 p, .int .u8 z] (.int .u8 s))
    (hyz : Aside0 (Go.bits .xor .u8 y z = yz)) (m6 : Gives 33 #[.int .u8 x, .int .u8 yz] (.int .u8 u)) (m7 : Gives 33 #[.int .u8 x, .int .u8 z] (.int .u8 v)) (hu : Aside0 (Go.bits .xor .u8 p v = u))
    (m8 : Gives 33 #[.int .u8 x, .int .u8 1] (.int .u8 x)) (o : GivesB 38 #[.int .u8 x] (.int .i64 i)) (aw : Gives 40 #[] (.bool true))
    (x0 : (x == 0) = true) (i0 : (i == 0) = true) (iv : Gives 36 #[.int .u8 x] (.int .u8 0)) :
    Calls Try.prog 7 #[.int .u8 x, .int .u8 y, .int .u8 z] w fun e w' => e = .returned (.bool true) ∧ Below w.heap.size w w' := by
  have HB := Aside0.mk (Below.refl w.heap.size w)
  go_enter Try.func7, Try.ntmps7
  have E1 := hyz.out
  have E2 := hu.out
  go_wp2_with (first
    | (go_at_call 33; (first | (with_reducible refine (m1.q _).mono ?_) | (with_reducible refine (m2.q _).mono ?_) | (with_reducible refine (m3.q _).mono ?_) | (with_reducible refine (m4.q _).mono ?_) | (with_reducible refine (m5.q _).mono ?_) | (with_reducible refine (m6.q _).mono ?_) | (with_reducible refine (m7.q _).mono ?_) | (with_reducible refine (m8.q _).mono ?_)); rintro e w' ⟨rfl, ⟨nd, rfl⟩⟩)
    | (go_at_call 38; (with_reducible refine (o.q _).mono ?_); rintro e w21 ⟨rfl, hb⟩; have n0_ := Aside0.mk (below_step (by repeat (first | (with_reducible first | exact HB.out | apply below_alloc | apply pw_below_drewN | apply below_drew1) | exact HB.out)) hb); clear HB; have HB := n0_; clear n0_; (try clear hb))
    | (go_at_call 36; (with_reducible refine (iv.q _).mono ?_); rintro e w' ⟨rfl, ⟨nd, rfl⟩⟩)
    | (go_at_call 40; (with_reducible refine (aw.q _).mono ?_); rintro e w' ⟨rfl, ⟨nd, rfl⟩⟩))
  go_ret
  exact ⟨rfl, by repeat (first | (with_reducible first | exact HB.out | apply below_alloc | apply pw_below_drewN | apply below_drew1) | exact HB.out)⟩

set_option maxHeartbeats 1000000 in
set_option maxRecDepth 100000 in
theorem field1 (x y z p q s u v yz n r : Int) (w : World) (m1 : Gives 33 #[.int .u8 x, .int .u8 y] (.int .u8 p)) (m2 : Gives 33 #[.int .u8 y, .int .u8 x] (.int .u8 p))
    (m3 : Gives 33 #[.int .u8 y, .int .u8 z] (.int .u8 q)) (m4 : Gives 33 #[.int .u8 x, .int .u8 q] (.int .u8 s)) (m5 : Gives 33 #[.int .u8 p, .int .u8 z] (.int .u8 s))
    (hyz : Aside0 (Go.bits .xor .u8 y z = yz)) (m6 : Gives 33 #[.int .u8 x, .int .u8 yz] (.int .u8 u)) (m7 : Gives 33 #[.int .u8 x, .int .u8 z] (.int .u8 v)) (hu : Aside0 (Go.bits .xor .u8 p v = u))
    (m8 : Gives 33 #[.int .u8 x, .int .u8 1] (.int .u8 x)) (o : GivesB 38 #[.int .u8 x] (.int .i64 n)) (aw : Gives 40 #[] (.bool true))
    (x0 : (x == 0) = false) (n1 : 1 ≤ n) (n2 : n ≤ 255) (n3 : (255 % n == 0) = true) (po : Gives 34 #[.int .u8 x, .int .i64 n] (.int .u8 1)) (po2 : Gives 34 #[.int .u8 x, .int .i64 254] (.int .u8 r))
    (iv : Gives 36 #[.int .u8 x] (.int .u8 r)) (m9 : Gives 33 #[.int .u8 x, .int .u8 r] (.int .u8 1)) :
    Calls Try.prog 7 #[.int .u8 x, .int .u8 y, .int .u8 z] w fun e w' => e = .returned (.bool true) ∧ Below w.heap.size w w' := by
  have HB := Aside0.mk (Below.refl w.heap.size w)
  go_enter Try.func7, Try.ntmps7
  have E1 := hyz.out
  have E2 := hu.out
  go_wp2_with (first
    | (go_at_call 33; (first | (with_reducible refine (m1.q _).mono ?_) | (with_reducible refine (m2.q _).mono ?_) | (with_reducible refine (m3.q _).mono ?_) | (with_reducible refine (m4.q _).mono ?_) | (with_reducible refine (m5.q _).mono ?_) | (with_reducible refine (m6.q _).mono ?_) | (with_reducible refine (m7.q _).mono ?_) | (with_reducible refine (m8.q _).mono ?_) | (with_reducible refine (m9.q _).mono ?_)); rintro e w' ⟨rfl, ⟨nd, rfl⟩⟩)
    | (go_at_call 38; (with_reducible refine (o.q _).mono ?_); rintro e w21 ⟨rfl, hb⟩; have n0_ := Aside0.mk (below_step (by repeat (first | (with_reducible first | exact HB.out | apply below_alloc | apply pw_below_drewN | apply below_drew1) | exact HB.out)) hb); clear HB; have HB := n0_; clear n0_; (try clear hb))
    | (go_at_call 36; (first | (with_reducible refine (iv.q _).mono ?_)); rintro e w' ⟨rfl, ⟨nd, rfl⟩⟩)
    | (go_at_call 34; (first | (with_reducible refine (po.q _).mono ?_) | (with_reducible refine (po2.q _).mono ?_)); rintro e w' ⟨rfl, ⟨nd, rfl⟩⟩)
    | (go_at_call 40; (first | (with_reducible refine (aw.q _).mono ?_)); rintro e w' ⟨rfl, ⟨nd, rfl⟩⟩))
  go_ret
  exact ⟨rfl, by repeat (first | (with_reducible first | exact HB.out | apply below_alloc | apply pw_below_drewN | apply below_drew1) | exact HB.out)⟩

theorem ord_bd (e : Nat) (he : e < 255) : 1 ≤ ord e ∧ ord e ≤ 255 := by
  have h := orders_div e he
  have : ord e ≠ 0 := by
    intro h0
    have := h.1
    rw [show ((firstOf e [1, 3, 5, 15, 17, 51, 85]).getD 255) = 0 from h0] at this
    exact absurd this (by decide)
  refine ⟨by omega, Nat.le_of_not_lt fun hlt => ?_⟩
  have := h.1
  rw [Nat.mod_eq_of_lt (show 255 < (firstOf e [1, 3, 5, 15, 17, 51, 85]).getD 255 from hlt)] at this
  exact absurd this (by decide)

theorem field_walk (a0 a1 a2 : Int) (w : World) (w0 : (Lit.int .u8 a0).wf = true) (w1 : (Lit.int .u8 a1).wf = true) (w2 : (Lit.int .u8 a2).wf = true) :
    Calls Try.prog 7 #[.int .u8 a0, .int .u8 a1, .int .u8 a2] w fun e w' => e = .returned (.bool true) ∧ Below w.heap.size w w' := by
  obtain ⟨a, rfl⟩ := byte_of w0
  obtain ⟨b, rfl⟩ := byte_of w1
  obtain ⟨c, rfl⟩ := byte_of w2
  have m2 := mul_c b a
  rw [mul_comm b a] at m2
  have m5 := mul_c (mul a b) c
  rw [← mul_assoc] at m5
  have m8 := mul_c a 1#8
  rw [mul_one] at m8
  by_cases h : a = 0#8
  · subst h
    refine field0 _ _ _ _ _ _ _ _ _ _ w (mul_c 0#8 b) m2 (mul_c b c) (mul_c _ _) m5 ⟨xor8 b c⟩ (mul_c _ _) (mul_c _ _) ⟨?_⟩ m8 order0_c awake_c (by decide) (by decide) ?_
    · rw [xor8, mul_right]
    · exact inv_c 0#8
  · obtain ⟨e, he, rfl⟩ := is_pow a h
    have hd := orders_div e he
    have hb := ord_bd e he
    have hp := pow_c (pow 3#8 e) (ord e) (by omega)
    rw [← pow_mul, (pow_one_iff (e * ord e)).2 hd.2] at hp
    have hm := mul_c (pow 3#8 e) (pow (pow 3#8 e) 254)
    rw [mul_inv _ h] at hm
    refine field1 _ _ _ _ _ _ _ _ _ (ord e : Int) (I8 (pow (pow 3#8 e) 254)) w (mul_c _ b) m2 (mul_c b c) (mul_c _ _) m5 ⟨xor8 b c⟩ (mul_c _ _) (mul_c _ _) ⟨?_⟩ m8 (order_c e) awake_c ?_ (by omega) (by omega) ?_ hp (pow_c _ 254 (by decide)) (inv_c _) hm
    · rw [xor8, mul_right]
    · exact beq_eq_false_iff_ne.2 (mt I8_zero.1 h)
    · have h1 := hd.1
      rw [beq_iff_eq]
      have h2 : ((255 % ord e : Nat) : Int) = 0 := by rw [show 255 % ord e = 0 from h1]; rfl
      rw [Int.natCast_emod] at h2
      exact h2

/-! ### Logs -/
theorem log0_c : Gives 41 #[.int .u8 (I8 0#8)] (.tuple #[.int .i64 0, .bool false]) := by
  intro w
  have hz : (I8 0#8 == 0) = true := by decide
  generalize I8 0#8 = x at *
  go_enter Try.func41, Try.ntmps41
  go_wp2
  go_ret2
  exact ⟨rfl, Drawn0.refl _⟩
set_option maxHeartbeats 1000000 in
theorem log_c (e : Nat) (he : e < 255) : Gives 41 #[.int .u8 (I8 (pow 3#8 e))] (.tuple #[.int .i64 e, .bool true]) := by
  intro w
  have hz : (I8 (pow 3#8 e) == 0) = false := beq_eq_false_iff_ne.2 (mt I8_zero.1 (pow_ne_zero e))
  obtain ⟨x, hx⟩ : ∃ x, x = I8 (pow 3#8 e) := ⟨_, rfl⟩
  rw [← hx] at hz ⊢
  have HX := Aside0.mk hx
  clear hx
  go_enter Try.func41, Try.ntmps41
  go_wp2
  go_loopg [4, 5] e (fun kq n y w' => ∃ i : Nat, i + kq = e ∧ n = .int .i64 i ∧ Aside0 (y = .int .u8 (I8 (pow 3#8 i))) ∧ Aside0 (Drawn0 w w'))
  case atStart => exact ⟨0, by omega, rfl, ⟨rfl⟩, ⟨Drawn0.refl _⟩⟩
  case round =>
    obtain ⟨i, hi, rfl, hy, hd⟩ := hrel
    obtain ⟨⟨nd, hdr⟩⟩ := hd.out
    obtain ⟨z, hz2⟩ : ∃ z, z = I8 (pow 3#8 i) := ⟨_, rfl⟩
    have hy' := hy.out
    rw [← hz2] at hy'
    subst hy'
    have m1 := mul_c (pow 3#8 i) 3#8
    rw [← hz2] at m1
    have m2 : Gives 33 #[.int .u8 z, .int .u8 3] (.int .u8 (I8 (pow 3#8 (i + 1)))) := m1
    clear m1
    have HZ := Aside0.mk hz2
    have HD := Aside0.mk hdr
    by_cases hie : i = e
    · have hzx : (z != x) = false := by rw [hz2, HX.out, hie]; simp
      clear hz2 hy hdr
      go_wp2
      go_ret2
      exact ⟨by rw [hie]; rfl, hd.out⟩
    · have hzx : (z != x) = true := by
        rw [hz2, HX.out, bne_iff_ne]
        exact fun h => hie (pow_inj (by omega) he (I8_inj h))
      clear hz2 hy hdr
      cases gk with
      | zero => exact absurd hi (by omega)
      | succ g1 =>
        go_wp2_with (first | (go_at_call 33; (first | (with_reducible refine (m2.q _).mono ?_)); rintro e w' ⟨rfl, ⟨nd, rfl⟩⟩))
        go_roundg g1
        case measure => omega
        case rel => exact ⟨i + 1, by omega, by go_num, ⟨rfl⟩, ⟨hd.out.step _⟩⟩
theorem rpow_c (a : BitVec 8) (n : Nat) (hn : n < 9223372036854775808) : Gives 35 #[.int .u8 (I8 a), .int .i64 n] (.int .u8 (I8 (pow a n))) := fun w => visorref03_Pow.calls 300 _ _ _ w (RPow_eq a n hn 300 (by decide))
theorem sqrt_c (a : BitVec 8) : Gives 44 #[.int .u8 (I8 a)] (.int .u8 (I8 (pow a 128))) := by
  intro w
  have h : Gives 34 #[.int .u8 (I8 a), .int .i64 128] (.int .u8 (I8 (pow a 128))) := pow_c a 128 (by decide)
  generalize I8 (pow a 128) = r at *
  generalize I8 a = x at *
  go_enter Try.func44, Try.ntmps44
  go_wp2_with (first | (go_at_call 34; (first | (with_reducible refine (h.q _).mono ?_)); rintro e w' ⟨rfl, ⟨nd, rfl⟩⟩))
  go_ret
  exact ⟨rfl, (Drawn0.refl _).step _⟩
/-- A number modulo 255, from 0 on. -/
def m255 (n : Int) : Nat := (n % 255).toNat
theorem exp_c (n : Int) (h0 : -9223372036854775808 ≤ n) (h1 : n < 9223372036854775808) : Gives 42 #[.int .i64 n] (.int .u8 (I8 (pow 3#8 (m255 n)))) := by
  intro w
  have h : Gives 34 #[.int .u8 3, .int .i64 (m255 n)] (.int .u8 (I8 (pow 3#8 (m255 n)))) := pow_c 3#8 (m255 n) (by unfold m255; omega)
  generalize I8 (pow 3#8 (m255 n)) = r at *
  obtain ⟨t, ht⟩ : ∃ t, t = Int.tmod n 255 := ⟨_, rfl⟩
  have tm := tmod_nat n 255
  have tm' : (0 ≤ n → t = n % 255) ∧ (n < 0 → n % 255 = 0 → t = 0) ∧ (n < 0 → n % 255 ≠ 0 → t = n % 255 - 255) := by rw [ht]; exact tm
  clear tm
  have ht1 : -255 < t := by omega
  have ht2 : t < 255 := by omega
  by_cases hneg : t < 0
  · have hm : ((m255 n : Nat) : Int) = t + 255 := by unfold m255; omega
    rw [hm] at h
    have HT := Aside0.mk ht
    clear ht hm tm'
    go_enter Try.func42, Try.ntmps42
    have ht := HT.out.symm
    go_wp2_with (first | (go_at_call 34; (first | (with_reducible refine (h.q _).mono ?_)); rintro e w' ⟨rfl, ⟨nd, rfl⟩⟩))
    go_ret
    exact ⟨rfl, (Drawn0.refl _).step _⟩
  · have hm : ((m255 n : Nat) : Int) = t := by unfold m255; omega
    rw [hm] at h
    have HT := Aside0.mk ht
    clear ht hm tm'
    go_enter Try.func42, Try.ntmps42
    have ht := HT.out.symm
    go_wp2_with (first | (go_at_call 34; (first | (with_reducible refine (h.q _).mono ?_)); rintro e w' ⟨rfl, ⟨nd, rfl⟩⟩))
    go_ret
    exact ⟨rfl, (Drawn0.refl _).step _⟩
theorem rexp_c (n : Int) (h0 : -9223372036854775808 ≤ n) (h1 : n < 9223372036854775808) : Gives 43 #[.int .i64 n] (.int .u8 (I8 (pow 3#8 (m255 n)))) := by
  intro w
  have h : Gives 35 #[.int .u8 3, .int .i64 (m255 n)] (.int .u8 (I8 (pow 3#8 (m255 n)))) := rpow_c 3#8 (m255 n) (by unfold m255; omega)
  generalize I8 (pow 3#8 (m255 n)) = r at *
  obtain ⟨t, ht⟩ : ∃ t, t = Int.tmod n 255 := ⟨_, rfl⟩
  have tm := tmod_nat n 255
  have tm' : (0 ≤ n → t = n % 255) ∧ (n < 0 → n % 255 = 0 → t = 0) ∧ (n < 0 → n % 255 ≠ 0 → t = n % 255 - 255) := by rw [ht]; exact tm
  clear tm
  have ht1 : -255 < t := by omega
  have ht2 : t < 255 := by omega
  by_cases hneg : t < 0
  · have hm : ((m255 n : Nat) : Int) = t + 255 := by unfold m255; omega
    rw [hm] at h
    have HT := Aside0.mk ht
    clear ht hm tm'
    go_enter Try.func43, Try.ntmps43
    have ht := HT.out.symm
    go_wp2_with (first | (go_at_call 35; (first | (with_reducible refine (h.q _).mono ?_)); rintro e w' ⟨rfl, ⟨nd, rfl⟩⟩))
    go_ret
    exact ⟨rfl, (Drawn0.refl _).step _⟩
  · have hm : ((m255 n : Nat) : Int) = t := by unfold m255; omega
    rw [hm] at h
    have HT := Aside0.mk ht
    clear ht hm tm'
    go_enter Try.func43, Try.ntmps43
    have ht := HT.out.symm
    go_wp2_with (first | (go_at_call 35; (first | (with_reducible refine (h.q _).mono ?_)); rintro e w' ⟨rfl, ⟨nd, rfl⟩⟩))
    go_ret
    exact ⟨rfl, (Drawn0.refl _).step _⟩

set_option maxHeartbeats 1000000 in
set_option maxRecDepth 100000 in
theorem logs0 (x y n i j r s : Int) (oa ob : Bool) (w : World) (la : Gives 41 #[.int .u8 x] (.tuple #[.int .i64 i, .bool oa])) (lb : Gives 41 #[.int .u8 y] (.tuple #[.int .i64 j, .bool ob]))
    (e1 : Gives 42 #[.int .i64 n] (.int .u8 r)) (e2 : Gives 43 #[.int .i64 n] (.int .u8 r)) (sq : Gives 44 #[.int .u8 x] (.int .u8 s)) (m1 : Gives 33 #[.int .u8 s, .int .u8 s] (.int .u8 x))
    (aw : Gives 40 #[] (.bool true)) (ha : (x != 0) = oa) (hb : (y != 0) = ob) (hi : oa = false → (i != 0) = false) (hab : (oa && ob) = false) :
    Calls Try.prog 8 #[.int .u8 x, .int .u8 y, .int .i64 n] w fun e w' => e = .returned (.bool true) ∧ Below w.heap.size w w' := by
  cases oa <;> cases ob
  case true.true => cases hab
  case false.false =>
    have hi' := hi rfl
    clear hi hab
    go_enter Try.func8, Try.ntmps8
    go_wp2_with (first
      | (go_at_call 41; (first | (with_reducible refine (la.q _).mono ?_) | (with_reducible refine (lb.q _).mono ?_)); rintro e w' ⟨rfl, ⟨nd, rfl⟩⟩)
      | (go_at_call 42; (first | (with_reducible refine (e1.q _).mono ?_)); rintro e w' ⟨rfl, ⟨nd, rfl⟩⟩)
      | (go_at_call 43; (first | (with_reducible refine (e2.q _).mono ?_)); rintro e w' ⟨rfl, ⟨nd, rfl⟩⟩)
      | (go_at_call 44; (first | (with_reducible refine (sq.q _).mono ?_)); rintro e w' ⟨rfl, ⟨nd, rfl⟩⟩)
      | (go_at_call 33; (first | (with_reducible refine (m1.q _).mono ?_)); rintro e w' ⟨rfl, ⟨nd, rfl⟩⟩)
      | (go_at_call 40; (first | (with_reducible refine (aw.q _).mono ?_)); rintro e w' ⟨rfl, ⟨nd, rfl⟩⟩))
    go_ret
    exact ⟨rfl, by repeat (first | exact Below.refl _ _ | apply pw_below_drewN)⟩
  case false.true =>
    have hi' := hi rfl
    clear hi hab
    go_enter Try.func8, Try.ntmps8
    go_wp2_with (first
      | (go_at_call 41; (first | (with_reducible refine (la.q _).mono ?_) | (with_reducible refine (lb.q _).mono ?_)); rintro e w' ⟨rfl, ⟨nd, rfl⟩⟩)
      | (go_at_call 42; (first | (with_reducible refine (e1.q _).mono ?_)); rintro e w' ⟨rfl, ⟨nd, rfl⟩⟩)
      | (go_at_call 43; (first | (with_reducible refine (e2.q _).mono ?_)); rintro e w' ⟨rfl, ⟨nd, rfl⟩⟩)
      | (go_at_call 44; (first | (with_reducible refine (sq.q _).mono ?_)); rintro e w' ⟨rfl, ⟨nd, rfl⟩⟩)
      | (go_at_call 33; (first | (with_reducible refine (m1.q _).mono ?_)); rintro e w' ⟨rfl, ⟨nd, rfl⟩⟩)
      | (go_at_call 40; (first | (with_reducible refine (aw.q _).mono ?_)); rintro e w' ⟨rfl, ⟨nd, rfl⟩⟩))
    go_ret
    exact ⟨rfl, by repeat (first | exact Below.refl _ _ | apply pw_below_drewN)⟩
  case true.false =>
    clear hi hab
    go_enter Try.func8, Try.ntmps8
    go_wp2_with (first
      | (go_at_call 41; (first | (with_reducible refine (la.q _).mono ?_) | (with_reducible refine (lb.q _).mono ?_)); rintro e w' ⟨rfl, ⟨nd, rfl⟩⟩)
      | (go_at_call 42; (first | (with_reducible refine (e1.q _).mono ?_)); rintro e w' ⟨rfl, ⟨nd, rfl⟩⟩)
      | (go_at_call 43; (first | (with_reducible refine (e2.q _).mono ?_)); rintro e w' ⟨rfl, ⟨nd, rfl⟩⟩)
      | (go_at_call 44; (first | (with_reducible refine (sq.q _).mono ?_)); rintro e w' ⟨rfl, ⟨nd, rfl⟩⟩)
      | (go_at_call 33; (first | (with_reducible refine (m1.q _).mono ?_)); rintro e w' ⟨rfl, ⟨nd, rfl⟩⟩)
      | (go_at_call 40; (first | (with_reducible refine (aw.q _).mono ?_)); rintro e w' ⟨rfl, ⟨nd, rfl⟩⟩))
    go_ret
    exact ⟨rfl, by repeat (first | exact Below.refl _ _ | apply pw_below_drewN)⟩

set_option maxHeartbeats 1000000 in
set_option maxRecDepth 100000 in
theorem logs1 (x y n i j r s p : Int) (w : World) (la : Gives 41 #[.int .u8 x] (.tuple #[.int .i64 i, .bool true])) (lb : Gives 41 #[.int .u8 y] (.tuple #[.int .i64 j, .bool true]))
    (e1 : Gives 42 #[.int .i64 n] (.int .u8 r)) (e2 : Gives 43 #[.int .i64 n] (.int .u8 r)) (sq : Gives 44 #[.int .u8 x] (.int .u8 s)) (m1 : Gives 33 #[.int .u8 s, .int .u8 s] (.int .u8 x))
    (aw : Gives 40 #[] (.bool true)) (ha : (x != 0) = true) (hb : (y != 0) = true) (i0 : 0 ≤ i) (i1 : i ≤ 254) (j0 : 0 ≤ j) (j1 : j ≤ 254)
    (e3 : Gives 42 #[.int .i64 i] (.int .u8 x)) (m2 : Gives 33 #[.int .u8 x, .int .u8 y] (.int .u8 p)) (e4 : Gives 43 #[.int .i64 (i + j)] (.int .u8 p)) (b : Bool) (hx : (x == y) = b) (hi : (i == j) = b) :
    Calls Try.prog 8 #[.int .u8 x, .int .u8 y, .int .i64 n] w fun e w' => e = .returned (.bool true) ∧ Below w.heap.size w w' := by
  cases b
  all_goals
    go_enter Try.func8, Try.ntmps8
    go_wp2_with (first
      | (go_at_call 41; (first | (with_reducible refine (la.q _).mono ?_) | (with_reducible refine (lb.q _).mono ?_)); rintro e w' ⟨rfl, ⟨nd, rfl⟩⟩)
      | (go_at_call 42; (first | (with_reducible refine (e1.q _).mono ?_) | (with_reducible refine (e3.q _).mono ?_)); rintro e w' ⟨rfl, ⟨nd, rfl⟩⟩)
      | (go_at_call 43; (first | (with_reducible refine (e2.q _).mono ?_) | (with_reducible refine (e4.q _).mono ?_)); rintro e w' ⟨rfl, ⟨nd, rfl⟩⟩)
      | (go_at_call 44; (first | (with_reducible refine (sq.q _).mono ?_)); rintro e w' ⟨rfl, ⟨nd, rfl⟩⟩)
      | (go_at_call 33; (first | (with_reducible refine (m1.q _).mono ?_) | (with_reducible refine (m2.q _).mono ?_)); rintro e w' ⟨rfl, ⟨nd, rfl⟩⟩)
      | (go_at_call 40; (first | (with_reducible refine (aw.q _).mono ?_)); rintro e w' ⟨rfl, ⟨nd, rfl⟩⟩))
    go_ret
    exact ⟨rfl, by repeat (first | exact Below.refl _ _ | apply pw_below_drewN)⟩

theorem logs_walk (a0 a1 a2 : Int) (w : World) (w0 : (Lit.int .u8 a0).wf = true) (w1 : (Lit.int .u8 a1).wf = true) (w2 : (Lit.int .i64 a2).wf = true) :
    Calls Try.prog 8 #[.int .u8 a0, .int .u8 a1, .int .i64 a2] w fun e w' => e = .returned (.bool true) ∧ Below w.heap.size w w' := by
  obtain ⟨a, rfl⟩ := byte_of w0
  obtain ⟨b, rfl⟩ := byte_of w1
  have hn := wf_i64 w2
  have m1 := mul_c (pow a 128) (pow a 128)
  rw [sqrt] at m1
  by_cases ha : a = 0#8
  · subst ha
    by_cases hb : b = 0#8
    · subst hb
      exact logs0 _ _ _ 0 0 _ _ false false w log0_c log0_c (exp_c a2 hn.1 hn.2) (rexp_c a2 hn.1 hn.2) (sqrt_c _) m1 awake_c (by decide) (by decide) (fun _ => rfl) rfl
    · obtain ⟨f, hf, rfl⟩ := is_pow b hb
      exact logs0 _ _ _ 0 f _ _ false true w log0_c (log_c f hf) (exp_c a2 hn.1 hn.2) (rexp_c a2 hn.1 hn.2) (sqrt_c _) m1 awake_c (by decide) (bne_iff_ne.2 (mt I8_zero.1 hb)) (fun _ => rfl) rfl
  · obtain ⟨e, he, rfl⟩ := is_pow a ha
    by_cases hb : b = 0#8
    · subst hb
      exact logs0 _ _ _ e 0 _ _ true false w (log_c e he) log0_c (exp_c a2 hn.1 hn.2) (rexp_c a2 hn.1 hn.2) (sqrt_c _) m1 awake_c (bne_iff_ne.2 (mt I8_zero.1 ha)) (by decide) (fun h => by cases h) rfl
    · obtain ⟨f, hf, rfl⟩ := is_pow b hb
      have e3 := exp_c (e : Int) (by omega) (by omega)
      rw [show m255 (e : Int) = e by unfold m255; omega] at e3
      have e4 := rexp_c ((e : Int) + f) (by omega) (by omega)
      rw [show m255 ((e : Int) + f) = (e + f) % 255 by unfold m255; omega, ← pow_mod, pow_add] at e4
      refine logs1 _ _ _ e f _ _ _ w (log_c e he) (log_c f hf) (exp_c a2 hn.1 hn.2) (rexp_c a2 hn.1 hn.2) (sqrt_c _) m1 awake_c (bne_iff_ne.2 (mt I8_zero.1 ha)) (bne_iff_ne.2 (mt I8_zero.1 hb)) (by omega) (by omega) (by omega) (by omega) e3 (mul_c _ _) e4 (decide (e = f)) ?_ ?_
      · by_cases h : e = f
        · subst h; simp
        · rw [decide_eq_false h]; exact beq_eq_false_iff_ne.2 fun h2 => h (pow_inj he hf (I8_inj h2))
      · by_cases h : e = f
        · subst h; simp
        · rw [decide_eq_false h]; exact beq_eq_false_iff_ne.2 fun h2 => h (by omega)
end Go.Proofs.Ytahiphggoemdkaa.Gf
