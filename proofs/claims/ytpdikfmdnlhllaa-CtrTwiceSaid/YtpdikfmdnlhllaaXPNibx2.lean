/- Plain Lean functions with the answers of Go functions, and proofs that the Go code comes to them. Written by a program of this session's that runs the kit's print.py with contracts proved by hand handed to it; not trusted: Lean checks it. No condition. -/
import Derived.Test.YtpdikfmdnlhllaaXPNibx0
import Derived.Test.YtpdikfmdnlhllaaXPNibx1
namespace Go.Proofs.Ytpdikfmdnlhllaa.PNib
open Go.RowKit  Go.Proofs.YtpdikfmdnlhllaaW.PrintWords Go.Proofs.YtpdikfmdnlhllaaW.PrintLast Go.Proofs.YtpdikfmdnlhllaaW.PrintMore
attribute [local go_sem] max2_int min2_int max_two min_two max_three min_three max_four min_four   -- for this text's walks alone
set_option linter.unusedVariables false
set_option linter.unusedSimpArgs false

/-! ### nib_Mul: function 143 -/
def nib_Mul.l0 : Nat → Int → Int → Int → Option (Int)
  | 0, _, _, _ => none
  | k + 1, x0, x1, x5 => if x1 = 0 then (some x5) else (if (Go.bits .and .u8 x1 1) = 1 then ((nib_twice.f x0).bind fun t110 => (nib_Mul.l0 k t110 (x1 / 2) (Go.bits .xor .u8 x5 x0))) else ((nib_twice.f x0).bind fun t111 => (nib_Mul.l0 k t111 (x1 / 2) x5)))
def nib_Mul.f (k : Nat) (a0 : Int) (a1 : Int) : Option (Int) := nib_Mul.l0 k (Go.bits .and .u8 a0 15) (Go.bits .and .u8 a1 15) 0
theorem nib_Mul.mono_l : ∀ k, (∀ y0 y1 y2, LeO (nib_Mul.l0 k y0 y1 y2) (nib_Mul.l0 (k + 1) y0 y1 y2))
  | 0 => fun _ _ _ r h => by simp [nib_Mul.l0] at h
  | k + 1 => by
    have ih0 := nib_Mul.mono_l k
    · intro y0 y1 y2
      unfold nib_Mul.l0
      repeat' first
      | (with_reducible exact ih0 _ _ _)
      | (with_reducible exact LeO.refl _)
      | (with_reducible exact LeO.none _)
      | (with_reducible refine LeO.ite ?_ ?_)
      | (with_reducible refine LeO.bind ?_ (fun _ => ?_))
      | exact ih0 _ _ _
      | exact LeO.none _
      | refine LeO.ite ?_ ?_
      | refine LeO.bind ?_ (fun _ => ?_)
set_option maxHeartbeats 8000000 in
set_option maxRecDepth 100000 in
theorem nib_Mul.calls (k : Nat) (a0 : Int) (a1 : Int) (r : Int) (w : World) (h : nib_Mul.f k a0 a1 = some r) :
    Calls Try.prog 143 #[.int .u8 a0, .int .u8 a1] w fun e w' => e = .returned (.int .u8 r) ∧ Drawn0 w w' := by
  have H : (nib_Mul.l0 k (Go.bits .and .u8 a0 15) (Go.bits .and .u8 a1 15) 0) = some r := h
  clear h
  have H' := Aside0.mk H
  clear H
  go_enter Try.func143, Try.ntmps143
  go_wp2
  go_loopg [0, 1, 5] k (fun kq v0 v1 v5 w' => ∃ (x0_1 : Int) (x1_1 : Int) (x5_1 : Int), v0 = .int .u8 x0_1 ∧ v1 = .int .u8 x1_1 ∧ v5 = .int .u8 x5_1 ∧ Aside0 (nib_Mul.l0 kq x0_1 x1_1 x5_1 = some r) ∧ Aside0 (kq ≤ k) ∧ Drawn0 w w')
  case atStart => exact ⟨(Go.bits .and .u8 a0 15), (Go.bits .and .u8 a1 15), (0), (by first | rfl | (simp; done) | (simp [*]; done)), (by first | rfl | (simp; done) | (simp [*]; done)), (by first | rfl | (simp; done) | (simp [*]; done)), H', ⟨Nat.le_refl _⟩, by repeat (first | exact Drawn0.refl _ | apply Drawn0.step)⟩
  case round =>
    clear H'
    try clear c1
    try clear p2
    obtain ⟨x0_1, x1_1, x5_1, rfl, rfl, rfl, HA, HK1, ⟨m1, rfl⟩⟩ := hrel
    cases gk with
    | zero => exact absurd HA.out (by simp [nib_Mul.l0])
    | succ k1 =>
      have H := HA.out
      clear HA
      simp only [nib_Mul.l0] at H
      by_cases c3 : x1_1 = 0
      · rw [if_pos c3] at H
        have c3b0 : (x1_1 == 0) = true := beq_iff_eq.mpr c3
        have c3b1 : (x1_1 != 0) = false := bne_eq_false_iff_eq.mpr c3
        clear c3
        obtain rfl := Option.some.inj H
        go_wp2
        go_ret
        exact ⟨by first | rfl | (simp; done) | (simp [*]; done), by repeat (first | exact Drawn0.refl _ | apply Drawn0.step)⟩
      · rw [if_neg c3] at H
        have c3b0 : (x1_1 == 0) = false := beq_eq_false_iff_ne.mpr c3
        have c3b1 : (x1_1 != 0) = true := bne_iff_ne.mpr c3
        by_cases c4 : (Go.bits .and .u8 x1_1 1) = 1
        · rw [if_pos c4] at H
          have c4b0 : ((Go.bits .and .u8 x1_1 1) == 1) = true := beq_iff_eq.mpr c4
          have c4b1 : ((Go.bits .and .u8 x1_1 1) != 1) = false := bne_eq_false_iff_eq.mpr c4
          clear c4
          replace H := Option.bind_eq_some_iff.mp H
          obtain ⟨t110, A50, H⟩ := H
          replace H : (nib_Mul.l0 k1 t110 (x1_1 / 2) (Go.bits .xor .u8 x5_1 x0_1)) = some r := H
          have A5 := Aside0.mk A50
          clear A50
          have H' := Aside0.mk H
          clear H
          go_wp2_with (first | ((with_reducible refine gate_callee (f := 145) rfl ?_); refine goesL_ (some 21) rfl rfl Try.func145 (by kernel_rfl) rfl #[.int .u8 x0_1] rfl (by (try simp only [List.map_toArray, List.map_cons, List.map_nil]); first | done | rfl | (simp only [List.length_drop, List.length_take]; rfl)) ?_; (with_reducible refine (nib_twice.calls x0_1 t110 _ A5.out).mono ?_); rintro e w' ⟨rfl, ⟨nd, rfl⟩⟩; refine ⟨_, rfl, ?_⟩))
          go_roundg k1
          case measure => have := HK1.out; omega
          case rel => exact ⟨(t110), (x1_1 / 2), (Go.bits .xor .u8 x5_1 x0_1), (by first | rfl | (simp; done) | (simp [*]; done)), (by first | rfl | (simp; done) | (simp [*]; done)), (by first | rfl | (simp; done) | (simp [*]; done)), H', ⟨by have := HK1.out; omega⟩, by repeat (first | exact Drawn0.refl _ | apply Drawn0.step)⟩
        · rw [if_neg c4] at H
          have c4b0 : ((Go.bits .and .u8 x1_1 1) == 1) = false := beq_eq_false_iff_ne.mpr c4
          have c4b1 : ((Go.bits .and .u8 x1_1 1) != 1) = true := bne_iff_ne.mpr c4
          replace H := Option.bind_eq_some_iff.mp H
          obtain ⟨t111, A60, H⟩ := H
          replace H : (nib_Mul.l0 k1 t111 (x1_1 / 2) x5_1) = some r := H
          have A6 := Aside0.mk A60
          clear A60
          have H' := Aside0.mk H
          clear H
          go_wp2_with (first | ((with_reducible refine gate_callee (f := 145) rfl ?_); refine goesL_ (some 21) rfl rfl Try.func145 (by kernel_rfl) rfl #[.int .u8 x0_1] rfl (by (try simp only [List.map_toArray, List.map_cons, List.map_nil]); first | done | rfl | (simp only [List.length_drop, List.length_take]; rfl)) ?_; (with_reducible refine (nib_twice.calls x0_1 t111 _ A6.out).mono ?_); rintro e w' ⟨rfl, ⟨nd, rfl⟩⟩; refine ⟨_, rfl, ?_⟩))
          go_roundg k1
          case measure => have := HK1.out; omega
          case rel => exact ⟨(t111), (x1_1 / 2), (x5_1), (by first | rfl | (simp; done) | (simp [*]; done)), (by first | rfl | (simp; done) | (simp [*]; done)), (by first | rfl | (simp; done) | (simp [*]; done)), H', ⟨by have := HK1.out; omega⟩, by repeat (first | exact Drawn0.refl _ | apply Drawn0.step)⟩

/-! ### tower_Mul: function 132 -/
def tower_Mul.f (k : Nat) (a0 : Int) (a1 : Int) : Option (Int) := (tower_parts.f a0).bind fun bt112 => ((tower_parts.f a1).bind fun bt114 => ((nib_Mul.f k bt112.1 bt114.1).bind fun t116 => ((nib_Mul.f k bt112.2 bt114.2).bind fun t117 => ((nib_Mul.f k (Go.bits .xor .u8 bt112.1 bt112.2) (Go.bits .xor .u8 bt114.1 bt114.2)).bind fun t118 => ((nib_Mul.f k t116 8).bind fun t119 => (some (Go.bits .xor .u8 (Go.bits .or .u8 (((Go.bits .xor .u8 t118 t117) * 16) % 256) t117) t119)))))))
set_option maxHeartbeats 8000000 in
set_option maxRecDepth 100000 in
theorem tower_Mul.calls (k : Nat) (a0 : Int) (a1 : Int) (r : Int) (w : World) (h : tower_Mul.f k a0 a1 = some r) :
    Calls Try.prog 132 #[.int .u8 a0, .int .u8 a1] w fun e w' => e = .returned (.int .u8 r) ∧ Drawn0 w w' := by
  have H : ((tower_parts.f a0).bind fun bt112 => ((tower_parts.f a1).bind fun bt114 => ((nib_Mul.f k bt112.1 bt114.1).bind fun t116 => ((nib_Mul.f k bt112.2 bt114.2).bind fun t117 => ((nib_Mul.f k (Go.bits .xor .u8 bt112.1 bt112.2) (Go.bits .xor .u8 bt114.1 bt114.2)).bind fun t118 => ((nib_Mul.f k t116 8).bind fun t119 => (some (Go.bits .xor .u8 (Go.bits .or .u8 (((Go.bits .xor .u8 t118 t117) * 16) % 256) t117) t119)))))))) = some r := h
  clear h
  replace H := Option.bind_eq_some_iff.mp H
  obtain ⟨⟨t112, t113⟩, A30, H⟩ := H
  replace H : ((tower_parts.f a1).bind fun bt114 => ((nib_Mul.f k t112 bt114.1).bind fun t116 => ((nib_Mul.f k t113 bt114.2).bind fun t117 => ((nib_Mul.f k (Go.bits .xor .u8 t112 t113) (Go.bits .xor .u8 bt114.1 bt114.2)).bind fun t118 => ((nib_Mul.f k t116 8).bind fun t119 => (some (Go.bits .xor .u8 (Go.bits .or .u8 (((Go.bits .xor .u8 t118 t117) * 16) % 256) t117) t119))))))) = some r := H
  have A3 := Aside0.mk A30
  clear A30
  replace H := Option.bind_eq_some_iff.mp H
  obtain ⟨⟨t114, t115⟩, A40, H⟩ := H
  replace H : ((nib_Mul.f k t112 t114).bind fun t116 => ((nib_Mul.f k t113 t115).bind fun t117 => ((nib_Mul.f k (Go.bits .xor .u8 t112 t113) (Go.bits .xor .u8 t114 t115)).bind fun t118 => ((nib_Mul.f k t116 8).bind fun t119 => (some (Go.bits .xor .u8 (Go.bits .or .u8 (((Go.bits .xor .u8 t118 t117) * 16) % 256) t117) t119)))))) = some r := H
  have A4 := Aside0.mk A40
  clear A40
  replace H := Option.bind_eq_some_iff.mp H
  obtain ⟨t116, A50, H⟩ := H
  replace H : ((nib_Mul.f k t113 t115).bind fun t117 => ((nib_Mul.f k (Go.bits .xor .u8 t112 t113) (Go.bits .xor .u8 t114 t115)).bind fun t118 => ((nib_Mul.f k t116 8).bind fun t119 => (some (Go.bits .xor .u8 (Go.bits .or .u8 (((Go.bits .xor .u8 t118 t117) * 16) % 256) t117) t119))))) = some r := H
  have A5 := Aside0.mk A50
  clear A50
  replace H := Option.bind_eq_some_iff.mp H
  obtain ⟨t117, A60, H⟩ := H
  replace H : ((nib_Mul.f k (Go.bits .xor .u8 t112 t113) (Go.bits .xor .u8 t114 t115)).bind fun t118 => ((nib_Mul.f k t116 8).bind fun t119 => (some (Go.bits .xor .u8 (Go.bits .or .u8 (((Go.bits .xor .u8 t118 t117) * 16) % 256) t117) t119)))) = some r := H
  have A6 := Aside0.mk A60
  clear A60
  replace H := Option.bind_eq_some_iff.mp H
  obtain ⟨t118, A70, H⟩ := H
  replace H : ((nib_Mul.f k t116 8).bind fun t119 => (some (Go.bits .xor .u8 (Go.bits .or .u8 (((Go.bits .xor .u8 t118 t117) * 16) % 256) t117) t119))) = some r := H
  have A7 := Aside0.mk A70
  clear A70
  replace H := Option.bind_eq_some_iff.mp H
  obtain ⟨t119, A80, H⟩ := H
  replace H : (some (Go.bits .xor .u8 (Go.bits .or .u8 (((Go.bits .xor .u8 t118 t117) * 16) % 256) t117) t119)) = some r := H
  have A8 := Aside0.mk A80
  clear A80
  obtain rfl := Option.some.inj H
  go_enter Try.func132, Try.ntmps132
  go_wp2_with (first | ((with_reducible refine gate_callee (f := 142) rfl ?_); refine goesL_ (some 14) rfl rfl Try.func142 (by kernel_rfl) rfl #[.int .u8 a0] rfl (by (try simp only [List.map_toArray, List.map_cons, List.map_nil]); first | done | rfl | (simp only [List.length_drop, List.length_take]; rfl)) ?_; (with_reducible refine (tower_parts.calls a0 t112 t113 _ A3.out).mono ?_); rintro e w' ⟨rfl, ⟨nd, rfl⟩⟩; refine ⟨_, rfl, ?_⟩) | ((with_reducible refine gate_callee (f := 142) rfl ?_); refine goesL_ (some 19) rfl rfl Try.func142 (by kernel_rfl) rfl #[.int .u8 a1] rfl (by (try simp only [List.map_toArray, List.map_cons, List.map_nil]); first | done | rfl | (simp only [List.length_drop, List.length_take]; rfl)) ?_; (with_reducible refine (tower_parts.calls a1 t114 t115 _ A4.out).mono ?_); rintro e w' ⟨rfl, ⟨nd, rfl⟩⟩; refine ⟨_, rfl, ?_⟩) | ((with_reducible refine gate_callee (f := 143) rfl ?_); refine goesL_ (some 24) rfl rfl Try.func143 (by kernel_rfl) rfl #[.int .u8 t112, .int .u8 t114] rfl (by (try simp only [List.map_toArray, List.map_cons, List.map_nil]); first | done | rfl | (simp only [List.length_drop, List.length_take]; rfl)) ?_; (with_reducible refine (nib_Mul.calls k t112 t114 t116 _ A5.out).mono ?_); rintro e w' ⟨rfl, ⟨nd, rfl⟩⟩; refine ⟨_, rfl, ?_⟩) | ((with_reducible refine gate_callee (f := 143) rfl ?_); refine goesL_ (some 27) rfl rfl Try.func143 (by kernel_rfl) rfl #[.int .u8 t113, .int .u8 t115] rfl (by (try simp only [List.map_toArray, List.map_cons, List.map_nil]); first | done | rfl | (simp only [List.length_drop, List.length_take]; rfl)) ?_; (with_reducible refine (nib_Mul.calls k t113 t115 t117 _ A6.out).mono ?_); rintro e w' ⟨rfl, ⟨nd, rfl⟩⟩; refine ⟨_, rfl, ?_⟩) | ((with_reducible refine gate_callee (f := 143) rfl ?_); refine goesL_ (some 34) rfl rfl Try.func143 (by kernel_rfl) rfl #[.int .u8 (Go.bits .xor .u8 t112 t113), .int .u8 (Go.bits .xor .u8 t114 t115)] rfl (by (try simp only [List.map_toArray, List.map_cons, List.map_nil]); first | done | rfl | (simp only [List.length_drop, List.length_take]; rfl)) ?_; (with_reducible refine (nib_Mul.calls k (Go.bits .xor .u8 t112 t113) (Go.bits .xor .u8 t114 t115) t118 _ A7.out).mono ?_); rintro e w' ⟨rfl, ⟨nd, rfl⟩⟩; refine ⟨_, rfl, ?_⟩) | ((with_reducible refine gate_callee (f := 143) rfl ?_); refine goesL_ (some 42) rfl rfl Try.func143 (by kernel_rfl) rfl #[.int .u8 t116, .int .u8 8] rfl (by (try simp only [List.map_toArray, List.map_cons, List.map_nil]); first | done | rfl | (simp only [List.length_drop, List.length_take]; rfl)) ?_; (with_reducible refine (nib_Mul.calls k t116 8 t119 _ A8.out).mono ?_); rintro e w' ⟨rfl, ⟨nd, rfl⟩⟩; refine ⟨_, rfl, ?_⟩))
  go_ret
  exact ⟨by first | rfl | (simp; done) | (simp [*]; done), by repeat (first | exact Drawn0.refl _ | apply Drawn0.step)⟩

/-! ### tower_sum: function 141 -/
def tower_sum.l0 : Nat → Int → Int → Int → Int → Option (Int)
  | 0, _, _, _, _ => none
  | k + 1, x0, x3, x4, x5 => if x5 = 0 then (some x3) else (if (Go.bits .and .i64 x5 1) = 1 then ((tower_Mul.f k x4 x0).bind fun t120 => (tower_sum.l0 k x0 (Go.bits .xor .u8 x3 x4) t120 (x5 / 2))) else ((tower_Mul.f k x4 x0).bind fun t121 => (tower_sum.l0 k x0 x3 t121 (x5 / 2))))
def tower_sum.f (k : Nat) (a0 : Int) : Option (Int) := tower_sum.l0 k a0 0 1 283
set_option maxHeartbeats 8000000 in
set_option maxRecDepth 100000 in
theorem tower_sum.calls (k : Nat) (a0 : Int) (r : Int) (w : World) (h : tower_sum.f k a0 = some r) :
    Calls Try.prog 141 #[.int .u8 a0] w fun e w' => e = .returned (.int .u8 r) ∧ Drawn0 w w' := by
  have H : (tower_sum.l0 k a0 0 1 283) = some r := h
  clear h
  have H' := Aside0.mk H
  clear H
  go_enter Try.func141, Try.ntmps141
  go_wp2
  go_loopg [3, 4, 5] k (fun kq v3 v4 v5 w' => ∃ (x3_1 : Int) (x4_1 : Int) (x5_1 : Int), v3 = .int .u8 x3_1 ∧ v4 = .int .u8 x4_1 ∧ v5 = .int .i64 x5_1 ∧ Aside0 (tower_sum.l0 kq a0 x3_1 x4_1 x5_1 = some r) ∧ Aside0 (kq ≤ k) ∧ Drawn0 w w')
  case atStart => exact ⟨(0), (1), (283), (by first | rfl | (simp; done) | (simp [*]; done)), (by first | rfl | (simp; done) | (simp [*]; done)), (by first | rfl | (simp; done) | (simp [*]; done)), H', ⟨Nat.le_refl _⟩, by repeat (first | exact Drawn0.refl _ | apply Drawn0.step)⟩
  case round =>
    clear H'
    try clear c1
    obtain ⟨x3_1, x4_1, x5_1, rfl, rfl, rfl, HA, HK1, ⟨m1, rfl⟩⟩ := hrel
    cases gk with
    | zero => exact absurd HA.out (by simp [tower_sum.l0])
    | succ k1 =>
      have H := HA.out
      clear HA
      simp only [tower_sum.l0] at H
      by_cases c2 : x5_1 = 0
      · rw [if_pos c2] at H
        have c2b0 : (x5_1 == 0) = true := beq_iff_eq.mpr c2
        have c2b1 : (x5_1 != 0) = false := bne_eq_false_iff_eq.mpr c2
        clear c2
        obtain rfl := Option.some.inj H
        go_wp2
        go_ret
        exact ⟨by first | rfl | (simp; done) | (simp [*]; done), by repeat (first | exact Drawn0.refl _ | apply Drawn0.step)⟩
      · rw [if_neg c2] at H
        have c2b0 : (x5_1 == 0) = false := beq_eq_false_iff_ne.mpr c2
        have c2b1 : (x5_1 != 0) = true := bne_iff_ne.mpr c2
        by_cases c3 : (Go.bits .and .i64 x5_1 1) = 1
        · rw [if_pos c3] at H
          have c3b0 : ((Go.bits .and .i64 x5_1 1) == 1) = true := beq_iff_eq.mpr c3
          have c3b1 : ((Go.bits .and .i64 x5_1 1) != 1) = false := bne_eq_false_iff_eq.mpr c3
          clear c3
          replace H := Option.bind_eq_some_iff.mp H
          obtain ⟨t120, A40, H⟩ := H
          replace H : (tower_sum.l0 k1 a0 (Go.bits .xor .u8 x3_1 x4_1) t120 (x5_1 / 2)) = some r := H
          have A4 := Aside0.mk A40
          clear A40
          have H' := Aside0.mk H
          clear H
          go_wp2_with (first | ((with_reducible refine gate_callee (f := 132) rfl ?_); refine goesL_ (some 18) rfl rfl Try.func132 (by kernel_rfl) rfl #[.int .u8 x4_1, .int .u8 a0] rfl (by (try simp only [List.map_toArray, List.map_cons, List.map_nil]); first | done | rfl | (simp only [List.length_drop, List.length_take]; rfl)) ?_; (with_reducible refine (tower_Mul.calls k1 x4_1 a0 t120 _ A4.out).mono ?_); rintro e w' ⟨rfl, ⟨nd, rfl⟩⟩; refine ⟨_, rfl, ?_⟩))
          go_roundg k1
          case measure => have := HK1.out; omega
          case rel => exact ⟨(Go.bits .xor .u8 x3_1 x4_1), (t120), (x5_1 / 2), (by first | rfl | (simp; done) | (simp [*]; done)), (by first | rfl | (simp; done) | (simp [*]; done)), (by first | rfl | (simp; done) | (simp [*]; done)), H', ⟨by have := HK1.out; omega⟩, by repeat (first | exact Drawn0.refl _ | apply Drawn0.step)⟩
        · rw [if_neg c3] at H
          have c3b0 : ((Go.bits .and .i64 x5_1 1) == 1) = false := beq_eq_false_iff_ne.mpr c3
          have c3b1 : ((Go.bits .and .i64 x5_1 1) != 1) = true := bne_iff_ne.mpr c3
          replace H := Option.bind_eq_some_iff.mp H
          obtain ⟨t121, A50, H⟩ := H
          replace H : (tower_sum.l0 k1 a0 x3_1 t121 (x5_1 / 2)) = some r := H
          have A5 := Aside0.mk A50
          clear A50
          have H' := Aside0.mk H
          clear H
          go_wp2_with (first | ((with_reducible refine gate_callee (f := 132) rfl ?_); refine goesL_ (some 18) rfl rfl Try.func132 (by kernel_rfl) rfl #[.int .u8 x4_1, .int .u8 a0] rfl (by (try simp only [List.map_toArray, List.map_cons, List.map_nil]); first | done | rfl | (simp only [List.length_drop, List.length_take]; rfl)) ?_; (with_reducible refine (tower_Mul.calls k1 x4_1 a0 t121 _ A5.out).mono ?_); rintro e w' ⟨rfl, ⟨nd, rfl⟩⟩; refine ⟨_, rfl, ?_⟩))
          go_roundg k1
          case measure => have := HK1.out; omega
          case rel => exact ⟨(x3_1), (t121), (x5_1 / 2), (by first | rfl | (simp; done) | (simp [*]; done)), (by first | rfl | (simp; done) | (simp [*]; done)), (by first | rfl | (simp; done) | (simp [*]; done)), H', ⟨by have := HK1.out; omega⟩, by repeat (first | exact Drawn0.refl _ | apply Drawn0.step)⟩

/-! ### tower_Root: function 131 -/
def tower_Root.l0 : Nat → Int → Option (Int)
  | 0, _ => none
  | k + 1, x1 => if x1 ≤ 255 then ((tower_sum.f k ((x1) % 256)).bind fun t122 => (if t122 = 0 then (some ((x1) % 256)) else (tower_Root.l0 k (wrap64 (x1 + 1))))) else (some 0)
def tower_Root.f (k : Nat)  : Option (Int) := tower_Root.l0 k 2
set_option maxHeartbeats 8000000 in
set_option maxRecDepth 100000 in
theorem tower_Root.calls (k : Nat)  (r : Int) (w : World) (h : tower_Root.f k  = some r) :
    Calls Try.prog 131 #[] w fun e w' => e = .returned (.int .u8 r) ∧ Drawn0 w w' := by
  have H : (tower_Root.l0 k 2) = some r := h
  clear h
  have H' := Aside0.mk H
  clear H
  go_enter Try.func131, Try.ntmps131
  go_wp2
  go_loopg [1] k (fun kq v1 w' => ∃ (x1_1 : Int), v1 = .int .i64 x1_1 ∧ Aside0 (tower_Root.l0 kq x1_1 = some r) ∧ Aside0 (kq ≤ k) ∧ Drawn0 w w')
  case atStart => exact ⟨(2), (by first | rfl | (simp; done) | (simp [*]; done)), H', ⟨Nat.le_refl _⟩, by repeat (first | exact Drawn0.refl _ | apply Drawn0.step)⟩
  case round =>
    clear H'
    obtain ⟨x1_1, rfl, HA, HK1, ⟨m1, rfl⟩⟩ := hrel
    cases gk with
    | zero => exact absurd HA.out (by simp [tower_Root.l0])
    | succ k1 =>
      have H := HA.out
      clear HA
      simp only [tower_Root.l0] at H
      by_cases c1 : x1_1 ≤ 255
      · rw [if_pos c1] at H
        have c1b0 : decide (x1_1 ≤ 255) = true := decide_eq_true c1
        clear c1
        replace H := Option.bind_eq_some_iff.mp H
        obtain ⟨t122, A20, H⟩ := H
        replace H : (if t122 = 0 then (some ((x1_1) % 256)) else (tower_Root.l0 k1 (wrap64 (x1_1 + 1)))) = some r := H
        have A2 := Aside0.mk A20
        clear A20
        by_cases c3 : t122 = 0
        · rw [if_pos c3] at H
          have c3b0 : (t122 == 0) = true := beq_iff_eq.mpr c3
          have c3b1 : (t122 != 0) = false := bne_eq_false_iff_eq.mpr c3
          clear c3
          obtain rfl := Option.some.inj H
          go_wp2_with (first | ((with_reducible refine gate_callee (f := 141) rfl ?_); refine goesL_ (some 8) rfl rfl Try.func141 (by kernel_rfl) rfl #[.int .u8 ((x1_1) % 256)] rfl (by (try simp only [List.map_toArray, List.map_cons, List.map_nil]); first | done | rfl | (simp only [List.length_drop, List.length_take]; rfl)) ?_; (with_reducible refine (tower_sum.calls k1 ((x1_1) % 256) t122 _ A2.out).mono ?_); rintro e w' ⟨rfl, ⟨nd, rfl⟩⟩; refine ⟨_, rfl, ?_⟩))
          go_ret
          exact ⟨by first | rfl | (simp; done) | (simp [*]; done), by repeat (first | exact Drawn0.refl _ | apply Drawn0.step)⟩
        · rw [if_neg c3] at H
          have c3b0 : (t122 == 0) = false := beq_eq_false_iff_ne.mpr c3
          have c3b1 : (t122 != 0) = true := bne_iff_ne.mpr c3
          have H' := Aside0.mk H
          clear H
          go_wp2_with (first | ((with_reducible refine gate_callee (f := 141) rfl ?_); refine goesL_ (some 8) rfl rfl Try.func141 (by kernel_rfl) rfl #[.int .u8 ((x1_1) % 256)] rfl (by (try simp only [List.map_toArray, List.map_cons, List.map_nil]); first | done | rfl | (simp only [List.length_drop, List.length_take]; rfl)) ?_; (with_reducible refine (tower_sum.calls k1 ((x1_1) % 256) t122 _ A2.out).mono ?_); rintro e w' ⟨rfl, ⟨nd, rfl⟩⟩; refine ⟨_, rfl, ?_⟩))
          go_roundg k1
          case measure => have := HK1.out; omega
          case rel => exact ⟨(wrap64 (x1_1 + 1)), (by first | rfl | (simp; done) | (simp [*]; done)), H', ⟨by have := HK1.out; omega⟩, by repeat (first | exact Drawn0.refl _ | apply Drawn0.step)⟩
      · rw [if_neg c1] at H
        have c1b0 : decide (x1_1 ≤ 255) = false := decide_eq_false c1
        clear c1
        obtain rfl := Option.some.inj H
        go_wp2
        go_ret
        exact ⟨by first | rfl | (simp; done) | (simp [*]; done), by repeat (first | exact Drawn0.refl _ | apply Drawn0.step)⟩

-- NOT PRINTED: function 144 (mat_Flip)

-- NOT PRINTED: function 133 (mat_Columns)

-- NOT PRINTED: function 122 (tower_Field_make1)

-- NOT PRINTED: function 116 (tower_Field_own)

-- NOT PRINTED: function 106 (tower_Field_In)

-- NOT PRINTED: function 107 (mat_Mul)

-- NOT PRINTED: function 108 (tower_Field_Out)

-- NOT PRINTED: function 98 (sbox_Box_fill)

-- NOT PRINTED: function 92 (sbox_Box_own)

-- NOT PRINTED: function 75 (sbox_Box_Sub)

-- NOT PRINTED: function 67 (keys_made)

-- NOT PRINTED: function 18 (keys_Expand)

/-! ### visorref03_Inv: function 69 -/
def visorref03_Inv.l0 : Nat → Int → Int → Option (Int)
  | 0, _, _ => none
  | k + 1, x0, x3 => if x3 < 256 then ((visorref03_Mul.f k x0 ((x3) % 256)).bind fun t124 => (if t124 = 1 then (some ((x3) % 256)) else (visorref03_Inv.l0 k x0 (wrap64 (x3 + 1))))) else (some 0)
def visorref03_Inv.f (k : Nat) (a0 : Int) : Option (Int) := visorref03_Inv.l0 k a0 1
set_option maxHeartbeats 8000000 in
set_option maxRecDepth 100000 in
theorem visorref03_Inv.calls (k : Nat) (a0 : Int) (r : Int) (w : World) (h : visorref03_Inv.f k a0 = some r) :
    Calls Try.prog 69 #[.int .u8 a0] w fun e w' => e = .returned (.int .u8 r) ∧ Drawn0 w w' := by
  have H : (visorref03_Inv.l0 k a0 1) = some r := h
  clear h
  have H' := Aside0.mk H
  clear H
  go_enter Try.func69, Try.ntmps69
  go_wp2
  go_loopg [3] k (fun kq v3 w' => ∃ (x3_1 : Int), v3 = .int .i64 x3_1 ∧ Aside0 (visorref03_Inv.l0 kq a0 x3_1 = some r) ∧ Aside0 (kq ≤ k) ∧ Drawn0 w w')
  case atStart => exact ⟨(1), (by first | rfl | (simp; done) | (simp [*]; done)), H', ⟨Nat.le_refl _⟩, by repeat (first | exact Drawn0.refl _ | apply Drawn0.step)⟩
  case round =>
    clear H'
    obtain ⟨x3_1, rfl, HA, HK1, ⟨m1, rfl⟩⟩ := hrel
    cases gk with
    | zero => exact absurd HA.out (by simp [visorref03_Inv.l0])
    | succ k1 =>
      have H := HA.out
      clear HA
      simp only [visorref03_Inv.l0] at H
      by_cases c2 : x3_1 < 256
      · rw [if_pos c2] at H
        have c2b0 : decide (x3_1 < 256) = true := decide_eq_true c2
        clear c2
        replace H := Option.bind_eq_some_iff.mp H
        obtain ⟨t124, A30, H⟩ := H
        replace H : (if t124 = 1 then (some ((x3_1) % 256)) else (visorref03_Inv.l0 k1 a0 (wrap64 (x3_1 + 1)))) = some r := H
        have A3 := Aside0.mk A30
        clear A30
        by_cases c4 : t124 = 1
        · rw [if_pos c4] at H
          have c4b0 : (t124 == 1) = true := beq_iff_eq.mpr c4
          have c4b1 : (t124 != 1) = false := bne_eq_false_iff_eq.mpr c4
          clear c4
          obtain rfl := Option.some.inj H
          go_wp2_with (first | ((with_reducible refine gate_callee (f := 72) rfl ?_); refine goesL_ (some 11) rfl rfl Try.func72 (by kernel_rfl) rfl #[.int .u8 a0, .int .u8 ((x3_1) % 256)] rfl (by (try simp only [List.map_toArray, List.map_cons, List.map_nil]); first | done | rfl | (simp only [List.length_drop, List.length_take]; rfl)) ?_; (with_reducible refine (visorref03_Mul.calls k1 a0 ((x3_1) % 256) t124 _ A3.out).mono ?_); rintro e w' ⟨rfl, ⟨nd, rfl⟩⟩; refine ⟨_, rfl, ?_⟩))
          go_ret
          exact ⟨by first | rfl | (simp; done) | (simp [*]; done), by repeat (first | exact Drawn0.refl _ | apply Drawn0.step)⟩
        · rw [if_neg c4] at H
          have c4b0 : (t124 == 1) = false := beq_eq_false_iff_ne.mpr c4
          have c4b1 : (t124 != 1) = true := bne_iff_ne.mpr c4
          have H' := Aside0.mk H
          clear H
          go_wp2_with (first | ((with_reducible refine gate_callee (f := 72) rfl ?_); refine goesL_ (some 11) rfl rfl Try.func72 (by kernel_rfl) rfl #[.int .u8 a0, .int .u8 ((x3_1) % 256)] rfl (by (try simp only [List.map_toArray, List.map_cons, List.map_nil]); first | done | rfl | (simp only [List.length_drop, List.length_take]; rfl)) ?_; (with_reducible refine (visorref03_Mul.calls k1 a0 ((x3_1) % 256) t124 _ A3.out).mono ?_); rintro e w' ⟨rfl, ⟨nd, rfl⟩⟩; refine ⟨_, rfl, ?_⟩))
          go_roundg k1
          case measure => have := HK1.out; omega
          case rel => exact ⟨(wrap64 (x3_1 + 1)), (by first | rfl | (simp; done) | (simp [*]; done)), H', ⟨by have := HK1.out; omega⟩, by repeat (first | exact Drawn0.refl _ | apply Drawn0.step)⟩
      · rw [if_neg c2] at H
        have c2b0 : decide (x3_1 < 256) = false := decide_eq_false c2
        clear c2
        obtain rfl := Option.some.inj H
        go_wp2
        go_ret
        exact ⟨by first | rfl | (simp; done) | (simp [*]; done), by repeat (first | exact Drawn0.refl _ | apply Drawn0.step)⟩

/-! ### visorref07_Sub: function 21 -/
mutual
def visorref07_Sub.l0 : Nat → Int → Int → Int → Option (Int)
  | 0, _, _, _ => none
  | k + 1, x3, x4, x5 => if x5 < 8 then (if 0 ≤ (IntKind.u64.wrap (x5)) then (visorref07_Sub.l1 k x3 x4 x5 ((shr .i64 99 (IntKind.u64.wrap (x5))) % 2) 0) else (none)) else (some ((x4) % 256))
def visorref07_Sub.l1 : Nat → Int → Int → Int → Int → Int → Option (Int)
  | 0, _, _, _, _, _ => none
  | k + 1, x3, x4, x5, x6, x7 => if x7 < 5 then (if x7 = 4 then (if 0 ≤ (IntKind.u64.wrap (x5)) then (visorref07_Sub.l1 k x3 x4 x5 (wrap64 (x6 + (shr .i64 x3 (IntKind.u64.wrap (x5))))) (wrap64 (x7 + 1))) else (none)) else (if 0 ≤ (IntKind.u64.wrap (Int.tmod (wrap64 ((wrap64 (x5 + x7)) + 4)) 8)) then (visorref07_Sub.l1 k x3 x4 x5 (wrap64 (x6 + (shr .i64 x3 (IntKind.u64.wrap (Int.tmod (wrap64 ((wrap64 (x5 + x7)) + 4)) 8))))) (wrap64 (x7 + 1))) else (none))) else (if 0 ≤ (IntKind.u64.wrap (x5)) then (visorref07_Sub.l0 k x3 (wrap64 (x4 + (shl .i64 (Int.tmod x6 2) (IntKind.u64.wrap (x5))))) (wrap64 (x5 + 1))) else (none))
end
def visorref07_Sub.f (k : Nat) (a0 : Int) : Option (Int) := (visorref03_Inv.f k a0).bind fun t125 => (visorref07_Sub.l0 k (wrap64 (t125)) 0 0)
theorem visorref07_Sub.mono_l : ∀ k, (∀ y0 y1 y2, LeO (visorref07_Sub.l0 k y0 y1 y2) (visorref07_Sub.l0 (k + 1) y0 y1 y2)) ∧ (∀ y0 y1 y2 y3 y4, LeO (visorref07_Sub.l1 k y0 y1 y2 y3 y4) (visorref07_Sub.l1 (k + 1) y0 y1 y2 y3 y4))
  | 0 => ⟨fun _ _ _ r h => by simp [visorref07_Sub.l0] at h, fun _ _ _ _ _ r h => by simp [visorref07_Sub.l1] at h⟩
  | k + 1 => by
    obtain ⟨ih0, ih1⟩ := visorref07_Sub.mono_l k
    refine ⟨?_, ?_⟩
    · intro y0 y1 y2
      unfold visorref07_Sub.l0
      repeat' first
      | (with_reducible exact ih0 _ _ _)
      | (with_reducible exact ih1 _ _ _ _ _)
      | (with_reducible exact visorref03_Inv.mono _ _)
      | (with_reducible exact LeO.refl _)
      | (with_reducible exact LeO.none _)
      | (with_reducible refine LeO.ite ?_ ?_)
      | (with_reducible refine LeO.bind ?_ (fun _ => ?_))
      | exact ih0 _ _ _
      | exact ih1 _ _ _ _ _
      | exact visorref03_Inv.mono _ _
      | exact LeO.none _
      | refine LeO.ite ?_ ?_
      | refine LeO.bind ?_ (fun _ => ?_)
    · intro y0 y1 y2 y3 y4
      unfold visorref07_Sub.l1
      repeat' first
      | (with_reducible exact ih0 _ _ _)
      | (with_reducible exact ih1 _ _ _ _ _)
      | (with_reducible exact visorref03_Inv.mono _ _)
      | (with_reducible exact LeO.refl _)
      | (with_reducible exact LeO.none _)
      | (with_reducible refine LeO.ite ?_ ?_)
      | (with_reducible refine LeO.bind ?_ (fun _ => ?_))
      | exact ih0 _ _ _
      | exact ih1 _ _ _ _ _
      | exact visorref03_Inv.mono _ _
      | exact LeO.none _
      | refine LeO.ite ?_ ?_
      | refine LeO.bind ?_ (fun _ => ?_)
set_option maxHeartbeats 8000000 in
set_option maxRecDepth 100000 in
theorem visorref07_Sub.calls (k : Nat) (a0 : Int) (r : Int) (w : World) (h : visorref07_Sub.f k a0 = some r) :
    Calls Try.prog 21 #[.int .u8 a0] w fun e w' => e = .returned (.int .u8 r) ∧ Drawn0 w w' := by
  have H : ((visorref03_Inv.f k a0).bind fun t125 => (visorref07_Sub.l0 k (wrap64 (t125)) 0 0)) = some r := h
  clear h
  replace H := Option.bind_eq_some_iff.mp H
  obtain ⟨t125, A20, H⟩ := H
  replace H : (visorref07_Sub.l0 k (wrap64 (t125)) 0 0) = some r := H
  have A2 := Aside0.mk A20
  clear A20
  have H' := Aside0.mk H
  clear H
  go_enter Try.func21, Try.ntmps21
  go_wp2_with (first | ((with_reducible refine gate_callee (f := 69) rfl ?_); refine goesL_ (some 10) rfl rfl Try.func69 (by kernel_rfl) rfl #[.int .u8 a0] rfl (by (try simp only [List.map_toArray, List.map_cons, List.map_nil]); first | done | rfl | (simp only [List.length_drop, List.length_take]; rfl)) ?_; (with_reducible refine (visorref03_Inv.calls k a0 t125 _ A2.out).mono ?_); rintro e w' ⟨rfl, ⟨nd, rfl⟩⟩; refine ⟨_, rfl, ?_⟩))
  go_loopg [4, 5] k (fun kq v4 v5 w' => ∃ (x4_1 : Int) (x5_1 : Int), v4 = .int .i64 x4_1 ∧ v5 = .int .i64 x5_1 ∧ Aside0 (visorref07_Sub.l0 kq (wrap64 (t125)) x4_1 x5_1 = some r) ∧ Aside0 (kq ≤ k) ∧ Drawn0 w w')
  case atStart => exact ⟨(0), (0), (by first | rfl | (simp; done) | (simp [*]; done)), (by first | rfl | (simp; done) | (simp [*]; done)), H', ⟨Nat.le_refl _⟩, by repeat (first | exact Drawn0.refl _ | apply Drawn0.step)⟩
  case round =>
    clear H'
    try clear c2
    try clear p2
    obtain ⟨x4_1, x5_1, rfl, rfl, HA, HK1, ⟨m1, rfl⟩⟩ := hrel
    cases gk with
    | zero => exact absurd HA.out (by simp [visorref07_Sub.l0])
    | succ k1 =>
      have H := HA.out
      clear HA
      simp only [visorref07_Sub.l0] at H
      by_cases c3 : x5_1 < 8
      · rw [if_pos c3] at H
        have c3b0 : decide (x5_1 < 8) = true := decide_eq_true c3
        clear c3
        obtain ⟨ji4, hji4⟩ : ∃ j_ : Int, (IntKind.u64.wrap (x5_1)) = j_ := ⟨_, rfl⟩
        replace H : (if 0 ≤ (ji4) then (visorref07_Sub.l1 k1 (wrap64 (t125)) x4_1 x5_1 ((shr .i64 99 (ji4)) % 2) 0) else (none)) = some r := by first | (rw [hji4] at H; exact H) | (simp only [hji4] at H ⊢; exact H)
        by_cases c5 : 0 ≤ (ji4)
        · rw [if_pos c5] at H
          have c5b0 := eq_true c5
          have c5b1 : decide (0 ≤ (ji4)) = true := decide_eq_true c5
          clear c5
          obtain ⟨ji6, hji6⟩ : ∃ j_ : Int, (shr .i64 99 (ji4)) = j_ := ⟨_, rfl⟩
          replace H : (visorref07_Sub.l1 k1 (wrap64 (t125)) x4_1 x5_1 ((ji6) % 2) 0) = some r := by first | (rw [hji6] at H; exact H) | (simp only [hji6] at H ⊢; exact H)
          have hji6_ : (99 / 2 ^ min (ji4).toNat 64) = ji6 := hji6
          have hji6z : (ji4) ≤ 64 → (99 / 2 ^ (ji4).toNat) = ji6 := shr_small hji6
          have hji6t : Int.tmod ji6 2 = ji6 % 2 := Int.tmod_eq_emod_of_nonneg (by rw [← hji6_]; exact Int.ediv_nonneg (by decide) (by first | exact Int.pow_nonneg (by decide) | exact Int.le_of_lt (Int.pow_pos (by decide)) | exact Int.le_of_lt (Int.pos_pow_of_pos _ (by decide))))
          have H' := Aside0.mk H
          clear H
          go_wp2
          go_loopg [6, 7] k1 (fun kq v6 v7 w' => ∃ (x6_2 : Int) (x7_2 : Int), v6 = .int .i64 x6_2 ∧ v7 = .int .i64 x7_2 ∧ Aside0 (visorref07_Sub.l1 kq (wrap64 (t125)) x4_1 x5_1 x6_2 x7_2 = some r) ∧ Aside0 (kq ≤ k1) ∧ Drawn0 w w')
          case atStart => exact ⟨((ji6) % 2), (0), (by first | rfl | (simp; done) | (simp only [← hji6] <;> (first | rfl | simp)) | (simp [*]; done)), (by first | rfl | (simp; done) | (simp [*]; done)), H', ⟨Nat.le_refl _⟩, by repeat (first | exact Drawn0.refl _ | apply Drawn0.step)⟩
          case round =>
            clear H'
            try clear c2
            try clear p2
            try clear c3
            try clear c3b0
            try clear c5
            try clear c5b0
            try clear c5b1
            try clear c6
            try clear p6
            try clear p2
            obtain ⟨x6_2, x7_2, rfl, rfl, HA, HK2, ⟨m2, rfl⟩⟩ := hrel
            cases gk with
            | zero => exact absurd HA.out (by simp [visorref07_Sub.l1])
            | succ k2 =>
              have H := HA.out
              clear HA
              simp only [visorref07_Sub.l1] at H
              by_cases c7 : x7_2 < 5
              · rw [if_pos c7] at H
                have c7b0 : decide (x7_2 < 5) = true := decide_eq_true c7
                clear c7
                by_cases c8 : x7_2 = 4
                · rw [if_pos c8] at H
                  have c8b0 : (x7_2 == 4) = true := beq_iff_eq.mpr c8
                  have c8b1 : (x7_2 != 4) = false := bne_eq_false_iff_eq.mpr c8
                  clear c8
                  replace H : (if 0 ≤ (ji4) then (visorref07_Sub.l1 k2 (wrap64 (t125)) x4_1 x5_1 (wrap64 (x6_2 + (shr .i64 (wrap64 (t125)) (ji4)))) (wrap64 (x7_2 + 1))) else (none)) = some r := by first | (rw [hji4] at H; exact H) | (simp only [hji4] at H ⊢; exact H)
                  by_cases c10 : 0 ≤ (ji4)
                  · rw [if_pos c10] at H
                    have c10b0 := eq_true c10
                    have c10b1 : decide (0 ≤ (ji4)) = true := decide_eq_true c10
                    clear c10
                    obtain ⟨ji11, hji11⟩ : ∃ j_ : Int, (shr .i64 (wrap64 (t125)) (ji4)) = j_ := ⟨_, rfl⟩
                    replace H : (visorref07_Sub.l1 k2 (wrap64 (t125)) x4_1 x5_1 (wrap64 (x6_2 + (ji11))) (wrap64 (x7_2 + 1))) = some r := by first | (rw [hji11] at H; exact H) | (simp only [hji11] at H ⊢; exact H)
                    have hji11_ : ((wrap64 (t125)) / 2 ^ min (ji4).toNat 64) = ji11 := hji11
                    have hji11z : (ji4) ≤ 64 → ((wrap64 (t125)) / 2 ^ (ji4).toNat) = ji11 := shr_small hji11
                    have H' := Aside0.mk H
                    clear H
                    go_wp2
                    go_roundg k2
                    case measure => have := HK1.out; have := HK2.out; omega
                    case rel => exact ⟨(wrap64 (x6_2 + (ji11))), (wrap64 (x7_2 + 1)), (by first | rfl | (simp; done) | (simp only [← hji11] <;> (first | rfl | simp)) | (simp [*]; done)), (by first | rfl | (simp; done) | (simp [*]; done)), H', ⟨by have := HK1.out; have := HK2.out; omega⟩, by repeat (first | exact Drawn0.refl _ | apply Drawn0.step)⟩
                  · rw [if_neg c10] at H
                    exact absurd H (by simp)
                · rw [if_neg c8] at H
                  have c8b0 : (x7_2 == 4) = false := beq_eq_false_iff_ne.mpr c8
                  have c8b1 : (x7_2 != 4) = true := bne_iff_ne.mpr c8
                  obtain ⟨ji12, hji12⟩ : ∃ j_ : Int, (IntKind.u64.wrap (Int.tmod (wrap64 ((wrap64 (x5_1 + x7_2)) + 4)) 8)) = j_ := ⟨_, rfl⟩
                  replace H : (if 0 ≤ (ji12) then (visorref07_Sub.l1 k2 (wrap64 (t125)) x4_1 x5_1 (wrap64 (x6_2 + (shr .i64 (wrap64 (t125)) (ji12)))) (wrap64 (x7_2 + 1))) else (none)) = some r := by first | (rw [hji12] at H; exact H) | (simp only [hji12] at H ⊢; exact H)
                  by_cases c13 : 0 ≤ (ji12)
                  · rw [if_pos c13] at H
                    have c13b0 := eq_true c13
                    have c13b1 : decide (0 ≤ (ji12)) = true := decide_eq_true c13
                    clear c13
                    obtain ⟨ji14, hji14⟩ : ∃ j_ : Int, (shr .i64 (wrap64 (t125)) (ji12)) = j_ := ⟨_, rfl⟩
                    replace H : (visorref07_Sub.l1 k2 (wrap64 (t125)) x4_1 x5_1 (wrap64 (x6_2 + (ji14))) (wrap64 (x7_2 + 1))) = some r := by first | (rw [hji14] at H; exact H) | (simp only [hji14] at H ⊢; exact H)
                    have hji14_ : ((wrap64 (t125)) / 2 ^ min (ji12).toNat 64) = ji14 := hji14
                    have hji14z : (ji12) ≤ 64 → ((wrap64 (t125)) / 2 ^ (ji12).toNat) = ji14 := shr_small hji14
                    have H' := Aside0.mk H
                    clear H
                    go_wp2
                    go_roundg k2
                    case measure => have := HK1.out; have := HK2.out; omega
                    case rel => exact ⟨(wrap64 (x6_2 + (ji14))), (wrap64 (x7_2 + 1)), (by first | rfl | (simp; done) | (simp only [← hji14] <;> (first | rfl | simp)) | (simp [*]; done)), (by first | rfl | (simp; done) | (simp [*]; done)), H', ⟨by have := HK1.out; have := HK2.out; omega⟩, by repeat (first | exact Drawn0.refl _ | apply Drawn0.step)⟩
                  · rw [if_neg c13] at H
                    exact absurd H (by simp)
              · rw [if_neg c7] at H
                have c7b0 : decide (x7_2 < 5) = false := decide_eq_false c7
                clear c7
                replace H : (if 0 ≤ (ji4) then (visorref07_Sub.l0 k2 (wrap64 (t125)) (wrap64 (x4_1 + (shl .i64 (Int.tmod x6_2 2) (ji4)))) (wrap64 (x5_1 + 1))) else (none)) = some r := by first | (rw [hji4] at H; exact H) | (simp only [hji4] at H ⊢; exact H)
                by_cases c16 : 0 ≤ (ji4)
                · rw [if_pos c16] at H
                  have c16b0 := eq_true c16
                  have c16b1 : decide (0 ≤ (ji4)) = true := decide_eq_true c16
                  clear c16
                  obtain ⟨ji17, hji17⟩ : ∃ j_ : Int, (shl .i64 (Int.tmod x6_2 2) (ji4)) = j_ := ⟨_, rfl⟩
                  replace H : (visorref07_Sub.l0 k2 (wrap64 (t125)) (wrap64 (x4_1 + (ji17))) (wrap64 (x5_1 + 1))) = some r := by first | (rw [hji17] at H; exact H) | (simp only [hji17] at H ⊢; exact H)
                  have hji17_ : (IntKind.i64.wrap ((Int.tmod x6_2 2) * 2 ^ min (ji4).toNat 64)) = ji17 := hji17
                  have hji17z : (ji4) ≤ 64 → (IntKind.i64.wrap ((Int.tmod x6_2 2) * 2 ^ (ji4).toNat)) = ji17 := shl_small hji17
                  have hji17y : (wrap64 ((Int.tmod x6_2 2) * 2 ^ min (ji4).toNat 64)) = ji17 := (i64_w _).symm.trans hji17_
                  have hji17x : (ji4) ≤ 64 → (wrap64 ((Int.tmod x6_2 2) * 2 ^ (ji4).toNat)) = ji17 := fun h_ => (i64_w _).symm.trans (hji17z h_)
                  have H' := Aside0.mk H
                  clear H
                  go_wp2
                  go_roundg k2
                  case measure => have := HK1.out; have := HK2.out; omega
                  case rel => exact ⟨(wrap64 (x4_1 + (ji17))), (wrap64 (x5_1 + 1)), (by first | rfl | (simp; done) | (simp only [← hji17] <;> (first | rfl | simp)) | (simp [*]; done)), (by first | rfl | (simp; done) | (simp [*]; done)), H', ⟨by have := HK1.out; have := HK2.out; omega⟩, by repeat (first | exact Drawn0.refl _ | apply Drawn0.step)⟩
                · rw [if_neg c16] at H
                  exact absurd H (by simp)
        · rw [if_neg c5] at H
          exact absurd H (by simp)
      · rw [if_neg c3] at H
        have c3b0 : decide (x5_1 < 8) = false := decide_eq_false c3
        clear c3
        obtain rfl := Option.some.inj H
        go_wp2
        go_ret
        exact ⟨by first | rfl | (simp; done) | (simp [*]; done), by repeat (first | exact Drawn0.refl _ | apply Drawn0.step)⟩

-- NOT PRINTED: function 68 (visorref08_Word)

-- NOT PRINTED: function 19 (visorref08_Expand)

-- NOT PRINTED: function 20 (visorlaw08_awake)

-- NOT PRINTED: function 3 (visorlaw08_KeysTells)

-- NOT PRINTED: function 4 (visorlaw08_KeysBack)

-- NOT PRINTED: function 70 (aes_moved)

-- NOT PRINTED: function 22 (aes_Rows)

-- NOT PRINTED: function 23 (visorref09_Rows)

-- NOT PRINTED: function 24 (aes_Columns)

-- NOT PRINTED: function 25 (visorref09_Columns)

-- NOT PRINTED: function 26 (aes_BackRows)

-- NOT PRINTED: function 27 (visorref09_BackRows)

-- NOT PRINTED: function 28 (aes_BackColumns)

-- NOT PRINTED: function 29 (visorref09_BackColumns)

-- NOT PRINTED: function 30 (aes_New)

-- NOT PRINTED: function 73 (aes_Cipher_add)

-- NOT PRINTED: function 74 (aes_each)

-- NOT PRINTED: function 31 (aes_Cipher_Block)

-- NOT PRINTED: function 76 (sbox_Box_Back)

-- NOT PRINTED: function 32 (aes_Cipher_Unblock)

-- NOT PRINTED: function 33 (visorlaw09_awake)

-- NOT PRINTED: function 36 (visorref09_Add)

-- NOT PRINTED: function 77 (visorref09_Sub)

-- NOT PRINTED: function 34 (visorref09_Block)

/-! ### visorref07_Back: function 93 -/
end Go.Proofs.Ytpdikfmdnlhllaa.PNib
