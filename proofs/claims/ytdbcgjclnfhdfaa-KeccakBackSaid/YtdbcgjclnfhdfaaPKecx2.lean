/- Plain Lean functions with the answers of Go functions, and proofs that the Go code comes to them. Written by a program of this session's that runs the kit's print.py with contracts proved by hand handed to it; not trusted: Lean checks it. No condition. -/
import Derived.Test.YtdbcgjclnfhdfaaPKecx0
import Derived.Test.YtdbcgjclnfhdfaaPKecx1
namespace Go.Proofs.Ytdbcgjclnfhdfaa.PKec
open Go.RowKit  Go.Proofs.YtdbcgjclnfhdfaaW.PrintWords Go.Proofs.YtdbcgjclnfhdfaaW.PrintLast Go.Proofs.YtdbcgjclnfhdfaaW.PrintMore
attribute [local go_sem] max2_int min2_int max_two min_two max_three min_three max_four min_four   -- for this text's walks alone
set_option linter.unusedVariables false
set_option linter.unusedSimpArgs false

/-! ### keccak_Turn: function 30 -/
mutual
def keccak_Turn.j0 : Nat → Int → Int → Bool → Option (Int)
  | 0, _, _, _ => none
  | k + 1, x0, x1, x29 => if x29 = true then (some 0) else (keccak_Turn.l0 k x0 x1 1 0 1)
def keccak_Turn.l0 : Nat → Int → Int → Int → Int → Int → Option (Int)
  | 0, _, _, _, _, _ => none
  | k + 1, x0, x1, x5, x6, x7 => if x5 = x0 then (if x6 = x1 then (some (Int.tmod (wrap64 (Int.tdiv (wrap64 (x7 * (wrap64 (x7 + 1)))) 2)) 64)) else ((keccak_next.f x5 x6).bind fun bt124 => (keccak_Turn.l0 k x0 x1 bt124.1 bt124.2 (wrap64 (x7 + 1))))) else ((keccak_next.f x5 x6).bind fun bt126 => (keccak_Turn.l0 k x0 x1 bt126.1 bt126.2 (wrap64 (x7 + 1))))
end
def keccak_Turn.f (k : Nat) (a0 : Int) (a1 : Int) : Option (Int) := if a0 < 0 then (keccak_Turn.j0 k a0 a1 true) else (if a1 < 0 then (keccak_Turn.j0 k a0 a1 true) else (if a0 ≥ 5 then (keccak_Turn.j0 k a0 a1 true) else (if a1 ≥ 5 then (keccak_Turn.j0 k a0 a1 true) else (if a0 = 0 then (keccak_Turn.j0 k a0 a1 (a1 == 0)) else (keccak_Turn.j0 k a0 a1 false)))))
theorem keccak_Turn.mono_l : ∀ k, (∀ y0 y1 y2, LeO (keccak_Turn.j0 k y0 y1 y2) (keccak_Turn.j0 (k + 1) y0 y1 y2)) ∧ (∀ y0 y1 y2 y3 y4, LeO (keccak_Turn.l0 k y0 y1 y2 y3 y4) (keccak_Turn.l0 (k + 1) y0 y1 y2 y3 y4))
  | 0 => ⟨fun _ _ _ r h => by simp [keccak_Turn.j0] at h, fun _ _ _ _ _ r h => by simp [keccak_Turn.l0] at h⟩
  | k + 1 => by
    obtain ⟨ih0, ih1⟩ := keccak_Turn.mono_l k
    refine ⟨?_, ?_⟩
    · intro y0 y1 y2
      unfold keccak_Turn.j0
      repeat' first
      | (with_reducible exact ih0 _ _ _)
      | (with_reducible exact ih1 _ _ _ _ _)
      | (with_reducible exact LeO.refl _)
      | (with_reducible exact LeO.none _)
      | (with_reducible refine LeO.ite ?_ ?_)
      | (with_reducible refine LeO.bind ?_ (fun _ => ?_))
      | exact ih0 _ _ _
      | exact ih1 _ _ _ _ _
      | exact LeO.none _
      | refine LeO.ite ?_ ?_
      | refine LeO.bind ?_ (fun _ => ?_)
    · intro y0 y1 y2 y3 y4
      unfold keccak_Turn.l0
      repeat' first
      | (with_reducible exact ih0 _ _ _)
      | (with_reducible exact ih1 _ _ _ _ _)
      | (with_reducible exact LeO.refl _)
      | (with_reducible exact LeO.none _)
      | (with_reducible refine LeO.ite ?_ ?_)
      | (with_reducible refine LeO.bind ?_ (fun _ => ?_))
      | exact ih0 _ _ _
      | exact ih1 _ _ _ _ _
      | exact LeO.none _
      | refine LeO.ite ?_ ?_
      | refine LeO.bind ?_ (fun _ => ?_)
theorem keccak_Turn.mono : ∀ a0 a1 k, LeO (keccak_Turn.f k a0 a1) (keccak_Turn.f (k + 1) a0 a1) := by
  intro a0 a1 k
  obtain ⟨ih0, ih1⟩ := keccak_Turn.mono_l k
  unfold keccak_Turn.f
  repeat' first
      | (with_reducible exact ih0 _ _ _)
      | (with_reducible exact ih1 _ _ _ _ _)
      | (with_reducible exact LeO.refl _)
      | (with_reducible exact LeO.none _)
      | (with_reducible refine LeO.ite ?_ ?_)
      | (with_reducible refine LeO.bind ?_ (fun _ => ?_))
      | exact ih0 _ _ _
      | exact ih1 _ _ _ _ _
      | exact LeO.none _
      | refine LeO.ite ?_ ?_
      | refine LeO.bind ?_ (fun _ => ?_)
set_option maxHeartbeats 8000000 in
set_option maxRecDepth 100000 in
theorem keccak_Turn.calls (k : Nat) (a0 : Int) (a1 : Int) (r : Int) (w : World) (h : keccak_Turn.f k a0 a1 = some r) :
    Calls Try.prog 30 #[.int .i64 a0, .int .i64 a1] w fun e w' => e = .returned (.int .i64 r) ∧ Drawn0 w w' := by
  have H : (if a0 < 0 then (keccak_Turn.j0 k a0 a1 true) else (if a1 < 0 then (keccak_Turn.j0 k a0 a1 true) else (if a0 ≥ 5 then (keccak_Turn.j0 k a0 a1 true) else (if a1 ≥ 5 then (keccak_Turn.j0 k a0 a1 true) else (if a0 = 0 then (keccak_Turn.j0 k a0 a1 (a1 == 0)) else (keccak_Turn.j0 k a0 a1 false)))))) = some r := h
  clear h
  have HC3 := Aside0.mk H
  clear H
  go_enter Try.func30, Try.ntmps30
  go_upto_region 1 with (fail)
  go_cut [29] (fun v29 wc => ∃ (kq : Nat) (x29_2 : Bool), v29 = .bool x29_2 ∧ Aside0 (keccak_Turn.j0 kq a0 a1 x29_2 = some r) ∧ Aside0 (kq ≤ k) ∧ Drawn0 w wc)
  case first =>
    have H := HC3.out
    clear HC3
    by_cases c4 : a0 < 0
    · rw [if_pos c4] at H
      have c4b0 : decide (a0 < 0) = true := decide_eq_true c4
      clear c4
      (first | rw [c4b0] | (simp only [i64_w, i32_w]; rw [c4b0]) | skip)
      have H' := Aside0.mk H
      clear H
      go_wp2
      go_meet
      case rel => exact ⟨_, (true), (by first | rfl | (simp; done) | (simp [*]; done)), H', ⟨by first | omega | exact Nat.le_refl _⟩, by repeat (first | exact Drawn0.refl _ | apply Drawn0.step)⟩
    · rw [if_neg c4] at H
      have c4b0 : decide (a0 < 0) = false := decide_eq_false c4
      clear c4
      (first | rw [c4b0] | (simp only [i64_w, i32_w]; rw [c4b0]) | skip)
      by_cases c5 : a1 < 0
      · rw [if_pos c5] at H
        have c5b0 : decide (a1 < 0) = true := decide_eq_true c5
        clear c5
        have H' := Aside0.mk H
        clear H
        go_wp2
        go_meet
        case rel => exact ⟨_, (true), (by first | rfl | (simp; done) | (simp [*]; done)), H', ⟨by first | omega | exact Nat.le_refl _⟩, by repeat (first | exact Drawn0.refl _ | apply Drawn0.step)⟩
      · rw [if_neg c5] at H
        have c5b0 : decide (a1 < 0) = false := decide_eq_false c5
        clear c5
        by_cases c6 : a0 ≥ 5
        · rw [if_pos c6] at H
          have c6b0 : decide (5 ≤ a0) = true := decide_eq_true c6
          clear c6
          have H' := Aside0.mk H
          clear H
          go_wp2
          go_meet
          case rel => exact ⟨_, (true), (by first | rfl | (simp; done) | (simp [*]; done)), H', ⟨by first | omega | exact Nat.le_refl _⟩, by repeat (first | exact Drawn0.refl _ | apply Drawn0.step)⟩
        · rw [if_neg c6] at H
          have c6b0 : decide (5 ≤ a0) = false := decide_eq_false c6
          clear c6
          by_cases c7 : a1 ≥ 5
          · rw [if_pos c7] at H
            have c7b0 : decide (5 ≤ a1) = true := decide_eq_true c7
            clear c7
            have H' := Aside0.mk H
            clear H
            go_wp2
            go_meet
            case rel => exact ⟨_, (true), (by first | rfl | (simp; done) | (simp [*]; done)), H', ⟨by first | omega | exact Nat.le_refl _⟩, by repeat (first | exact Drawn0.refl _ | apply Drawn0.step)⟩
          · rw [if_neg c7] at H
            have c7b0 : decide (5 ≤ a1) = false := decide_eq_false c7
            clear c7
            by_cases c8 : a0 = 0
            · rw [if_pos c8] at H
              have c8b0 : (a0 == 0) = true := beq_iff_eq.mpr c8
              have c8b1 : (a0 != 0) = false := bne_eq_false_iff_eq.mpr c8
              clear c8
              have H' := Aside0.mk H
              clear H
              go_wp2
              go_meet
              case rel => exact ⟨_, ((a1 == 0)), (by first | rfl | (simp; done) | (simp [*]; done)), H', ⟨by first | omega | exact Nat.le_refl _⟩, by repeat (first | exact Drawn0.refl _ | apply Drawn0.step)⟩
            · rw [if_neg c8] at H
              have c8b0 : (a0 == 0) = false := beq_eq_false_iff_ne.mpr c8
              have c8b1 : (a0 != 0) = true := bne_iff_ne.mpr c8
              have H' := Aside0.mk H
              clear H
              go_wp2
              go_meet
              case rel => exact ⟨_, (false), (by first | rfl | (simp; done) | (simp [*]; done)), H', ⟨by first | omega | exact Nat.le_refl _⟩, by repeat (first | exact Drawn0.refl _ | apply Drawn0.step)⟩
  case rest =>
    clear HC3
    try clear p2
    try clear c3
    try clear c4
    try clear c4b0
    try clear c5
    try clear c5b0
    try clear c6
    try clear c6b0
    try clear c7
    try clear c7b0
    try clear c8
    try clear c8b0
    try clear c8b1
    obtain ⟨kq, x29_2, rfl, HA, HJ2, ⟨mc2, rfl⟩⟩ := hcut
    cases kq with
    | zero => exact absurd HA.out (by simp [keccak_Turn.j0])
    | succ kj2 =>
      have H := HA.out
      clear HA
      simp only [keccak_Turn.j0] at H
      by_cases c9 : x29_2 = true
      · subst c9
        have H1 : (some 0) = some r := by rw [if_pos rfl] at H; exact H
        clear H
        have H := H1
        clear H1
        obtain rfl := Option.some.inj H
        go_wp2
        go_ret
        exact ⟨by first | rfl | (simp; done) | (simp [*]; done), by repeat (first | exact Drawn0.refl _ | apply Drawn0.step)⟩
      · replace c9 := Bool.eq_false_iff.mpr c9
        subst c9
        have H1 : (keccak_Turn.l0 kj2 a0 a1 1 0 1) = some r := by rw [if_neg (show ¬ (false = true) by decide)] at H; exact H
        clear H
        have H := H1
        clear H1
        have H' := Aside0.mk H
        clear H
        go_wp2
        go_loopg [5, 6, 7] kj2 (fun kq v5 v6 v7 w' => ∃ (x5_2 : Int) (x6_2 : Int) (x7_2 : Int), v5 = .int .i64 x5_2 ∧ v6 = .int .i64 x6_2 ∧ v7 = .int .i64 x7_2 ∧ Aside0 (keccak_Turn.l0 kq a0 a1 x5_2 x6_2 x7_2 = some r) ∧ Aside0 (kq ≤ kj2) ∧ Drawn0 w w')
        case atStart => exact ⟨(1), (0), (1), (by first | rfl | (simp; done) | (simp [*]; done)), (by first | rfl | (simp; done) | (simp [*]; done)), (by first | rfl | (simp; done) | (simp [*]; done)), H', ⟨Nat.le_refl _⟩, by repeat (first | exact Drawn0.refl _ | apply Drawn0.step)⟩
        case round =>
          clear H'
          try clear c2
          try clear p2
          try clear c3
          try clear c4
          try clear c4b0
          try clear c5
          try clear c5b0
          try clear c6
          try clear c6b0
          try clear c7
          try clear c7b0
          try clear c8
          try clear c8b0
          try clear c8b1
          try clear c9
          try clear p2
          obtain ⟨x5_2, x6_2, x7_2, rfl, rfl, rfl, HA, HK2, ⟨m2, rfl⟩⟩ := hrel
          cases gk with
          | zero => exact absurd HA.out (by simp [keccak_Turn.l0])
          | succ k2 =>
            have H := HA.out
            clear HA
            simp only [keccak_Turn.l0] at H
            by_cases c10 : x5_2 = a0
            · rw [if_pos c10] at H
              have c10b0 : (x5_2 == a0) = true := beq_iff_eq.mpr c10
              have c10b1 : (x5_2 != a0) = false := bne_eq_false_iff_eq.mpr c10
              clear c10
              by_cases c11 : x6_2 = a1
              · rw [if_pos c11] at H
                have c11b0 : (x6_2 == a1) = true := beq_iff_eq.mpr c11
                have c11b1 : (x6_2 != a1) = false := bne_eq_false_iff_eq.mpr c11
                clear c11
                obtain rfl := Option.some.inj H
                go_wp2
                go_ret
                exact ⟨by first | rfl | (simp; done) | (simp [*]; done), by repeat (first | exact Drawn0.refl _ | apply Drawn0.step)⟩
              · rw [if_neg c11] at H
                have c11b0 : (x6_2 == a1) = false := beq_eq_false_iff_ne.mpr c11
                have c11b1 : (x6_2 != a1) = true := bne_iff_ne.mpr c11
                replace H := Option.bind_eq_some_iff.mp H
                obtain ⟨⟨t124, t125⟩, A120, H⟩ := H
                replace H : (keccak_Turn.l0 k2 a0 a1 t124 t125 (wrap64 (x7_2 + 1))) = some r := H
                have A12 := Aside0.mk A120
                clear A120
                have H' := Aside0.mk H
                clear H
                go_wp2_with (first | ((with_reducible refine gate_callee (f := 62) rfl ?_); refine goesL_ (some 43) rfl rfl Try.func62 (by kernel_rfl) rfl #[.int .i64 x5_2, .int .i64 x6_2] rfl (by (try simp only [List.map_toArray, List.map_cons, List.map_nil]); first | done | rfl | (simp only [List.length_drop, List.length_take]; rfl)) ?_; (with_reducible refine (keccak_next.calls x5_2 x6_2 t124 t125 _ A12.out).mono ?_); rintro e w' ⟨rfl, ⟨nd, rfl⟩⟩; refine ⟨_, rfl, ?_⟩))
                go_roundg k2
                case measure => have := HJ2.out; have := HK2.out; omega
                case rel => exact ⟨(t124), (t125), (wrap64 (x7_2 + 1)), (by first | rfl | (simp; done) | (simp [*]; done)), (by first | rfl | (simp; done) | (simp [*]; done)), (by first | rfl | (simp; done) | (simp [*]; done)), H', ⟨by have := HJ2.out; have := HK2.out; omega⟩, by repeat (first | exact Drawn0.refl _ | apply Drawn0.step)⟩
            · rw [if_neg c10] at H
              have c10b0 : (x5_2 == a0) = false := beq_eq_false_iff_ne.mpr c10
              have c10b1 : (x5_2 != a0) = true := bne_iff_ne.mpr c10
              replace H := Option.bind_eq_some_iff.mp H
              obtain ⟨⟨t126, t127⟩, A130, H⟩ := H
              replace H : (keccak_Turn.l0 k2 a0 a1 t126 t127 (wrap64 (x7_2 + 1))) = some r := H
              have A13 := Aside0.mk A130
              clear A130
              have H' := Aside0.mk H
              clear H
              go_wp2_with (first | ((with_reducible refine gate_callee (f := 62) rfl ?_); refine goesL_ (some 43) rfl rfl Try.func62 (by kernel_rfl) rfl #[.int .i64 x5_2, .int .i64 x6_2] rfl (by (try simp only [List.map_toArray, List.map_cons, List.map_nil]); first | done | rfl | (simp only [List.length_drop, List.length_take]; rfl)) ?_; (with_reducible refine (keccak_next.calls x5_2 x6_2 t126 t127 _ A13.out).mono ?_); rintro e w' ⟨rfl, ⟨nd, rfl⟩⟩; refine ⟨_, rfl, ?_⟩))
              go_roundg k2
              case measure => have := HJ2.out; have := HK2.out; omega
              case rel => exact ⟨(t126), (t127), (wrap64 (x7_2 + 1)), (by first | rfl | (simp; done) | (simp [*]; done)), (by first | rfl | (simp; done) | (simp [*]; done)), (by first | rfl | (simp; done) | (simp [*]; done)), H', ⟨by have := HJ2.out; have := HK2.out; omega⟩, by repeat (first | exact Drawn0.refl _ | apply Drawn0.step)⟩

/-! ### visorref13_Turn: function 31 -/
def visorref13_Turn.l0 : Nat → Int → Int → Int → Int → Int → Option (Int)
  | 0, _, _, _, _, _ => none
  | k + 1, x0, x1, x5, x6, x7 => if x7 < 24 then (if x5 = x0 then (if x6 = x1 then (some (Int.tmod (wrap64 (Int.tdiv (wrap64 ((wrap64 (x7 + 1)) * (wrap64 (x7 + 2)))) 2)) 64)) else (visorref13_Turn.l0 k x0 x1 x6 (Int.tmod (wrap64 ((wrap64 (2 * x5)) + (wrap64 (3 * x6)))) 5) (wrap64 (x7 + 1)))) else (visorref13_Turn.l0 k x0 x1 x6 (Int.tmod (wrap64 ((wrap64 (2 * x5)) + (wrap64 (3 * x6)))) 5) (wrap64 (x7 + 1)))) else (some 0)
def visorref13_Turn.f (k : Nat) (a0 : Int) (a1 : Int) : Option (Int) := visorref13_Turn.l0 k a0 a1 1 0 0
theorem visorref13_Turn.mono_l : ∀ k, (∀ y0 y1 y2 y3 y4, LeO (visorref13_Turn.l0 k y0 y1 y2 y3 y4) (visorref13_Turn.l0 (k + 1) y0 y1 y2 y3 y4))
  | 0 => fun _ _ _ _ _ r h => by simp [visorref13_Turn.l0] at h
  | k + 1 => by
    have ih0 := visorref13_Turn.mono_l k
    · intro y0 y1 y2 y3 y4
      unfold visorref13_Turn.l0
      repeat' first
      | (with_reducible exact ih0 _ _ _ _ _)
      | (with_reducible exact LeO.refl _)
      | (with_reducible exact LeO.none _)
      | (with_reducible refine LeO.ite ?_ ?_)
      | (with_reducible refine LeO.bind ?_ (fun _ => ?_))
      | exact ih0 _ _ _ _ _
      | exact LeO.none _
      | refine LeO.ite ?_ ?_
      | refine LeO.bind ?_ (fun _ => ?_)
theorem visorref13_Turn.mono : ∀ a0 a1 k, LeO (visorref13_Turn.f k a0 a1) (visorref13_Turn.f (k + 1) a0 a1) := by
  intro a0 a1 k
  have ih0 := visorref13_Turn.mono_l k
  unfold visorref13_Turn.f
  repeat' first
      | (with_reducible exact ih0 _ _ _ _ _)
      | (with_reducible exact LeO.refl _)
      | (with_reducible exact LeO.none _)
      | (with_reducible refine LeO.ite ?_ ?_)
      | (with_reducible refine LeO.bind ?_ (fun _ => ?_))
      | exact ih0 _ _ _ _ _
      | exact LeO.none _
      | refine LeO.ite ?_ ?_
      | refine LeO.bind ?_ (fun _ => ?_)
set_option maxHeartbeats 8000000 in
set_option maxRecDepth 100000 in
theorem visorref13_Turn.calls (k : Nat) (a0 : Int) (a1 : Int) (r : Int) (w : World) (h : visorref13_Turn.f k a0 a1 = some r) :
    Calls Try.prog 31 #[.int .i64 a0, .int .i64 a1] w fun e w' => e = .returned (.int .i64 r) ∧ Drawn0 w w' := by
  have H : (visorref13_Turn.l0 k a0 a1 1 0 0) = some r := h
  clear h
  have H' := Aside0.mk H
  clear H
  go_enter Try.func31, Try.ntmps31
  go_wp2
  go_loopg [5, 6, 7] k (fun kq v5 v6 v7 w' => ∃ (x5_1 : Int) (x6_1 : Int) (x7_1 : Int), v5 = .int .i64 x5_1 ∧ v6 = .int .i64 x6_1 ∧ v7 = .int .i64 x7_1 ∧ Aside0 (visorref13_Turn.l0 kq a0 a1 x5_1 x6_1 x7_1 = some r) ∧ Aside0 (kq ≤ k) ∧ Drawn0 w w')
  case atStart => exact ⟨(1), (0), (0), (by first | rfl | (simp; done) | (simp [*]; done)), (by first | rfl | (simp; done) | (simp [*]; done)), (by first | rfl | (simp; done) | (simp [*]; done)), H', ⟨Nat.le_refl _⟩, by repeat (first | exact Drawn0.refl _ | apply Drawn0.step)⟩
  case round =>
    clear H'
    try clear p2
    obtain ⟨x5_1, x6_1, x7_1, rfl, rfl, rfl, HA, HK1, ⟨m1, rfl⟩⟩ := hrel
    cases gk with
    | zero => exact absurd HA.out (by simp [visorref13_Turn.l0])
    | succ k1 =>
      have H := HA.out
      clear HA
      simp only [visorref13_Turn.l0] at H
      by_cases c3 : x7_1 < 24
      · rw [if_pos c3] at H
        have c3b0 : decide (x7_1 < 24) = true := decide_eq_true c3
        clear c3
        by_cases c4 : x5_1 = a0
        · rw [if_pos c4] at H
          have c4b0 : (x5_1 == a0) = true := beq_iff_eq.mpr c4
          have c4b1 : (x5_1 != a0) = false := bne_eq_false_iff_eq.mpr c4
          clear c4
          by_cases c5 : x6_1 = a1
          · rw [if_pos c5] at H
            have c5b0 : (x6_1 == a1) = true := beq_iff_eq.mpr c5
            have c5b1 : (x6_1 != a1) = false := bne_eq_false_iff_eq.mpr c5
            clear c5
            obtain rfl := Option.some.inj H
            go_wp2
            go_ret
            exact ⟨by first | rfl | (simp; done) | (simp [*]; done), by repeat (first | exact Drawn0.refl _ | apply Drawn0.step)⟩
          · rw [if_neg c5] at H
            have c5b0 : (x6_1 == a1) = false := beq_eq_false_iff_ne.mpr c5
            have c5b1 : (x6_1 != a1) = true := bne_iff_ne.mpr c5
            have H' := Aside0.mk H
            clear H
            go_wp2
            go_roundg k1
            case measure => have := HK1.out; omega
            case rel => exact ⟨(x6_1), (Int.tmod (wrap64 ((wrap64 (2 * x5_1)) + (wrap64 (3 * x6_1)))) 5), (wrap64 (x7_1 + 1)), (by first | rfl | (simp; done) | (simp [*]; done)), (by first | rfl | (simp; done) | (simp [*]; done)), (by first | rfl | (simp; done) | (simp [*]; done)), H', ⟨by have := HK1.out; omega⟩, by repeat (first | exact Drawn0.refl _ | apply Drawn0.step)⟩
        · rw [if_neg c4] at H
          have c4b0 : (x5_1 == a0) = false := beq_eq_false_iff_ne.mpr c4
          have c4b1 : (x5_1 != a0) = true := bne_iff_ne.mpr c4
          have H' := Aside0.mk H
          clear H
          go_wp2
          go_roundg k1
          case measure => have := HK1.out; omega
          case rel => exact ⟨(x6_1), (Int.tmod (wrap64 ((wrap64 (2 * x5_1)) + (wrap64 (3 * x6_1)))) 5), (wrap64 (x7_1 + 1)), (by first | rfl | (simp; done) | (simp [*]; done)), (by first | rfl | (simp; done) | (simp [*]; done)), (by first | rfl | (simp; done) | (simp [*]; done)), H', ⟨by have := HK1.out; omega⟩, by repeat (first | exact Drawn0.refl _ | apply Drawn0.step)⟩
      · rw [if_neg c3] at H
        have c3b0 : decide (x7_1 < 24) = false := decide_eq_false c3
        clear c3
        obtain rfl := Option.some.inj H
        go_wp2
        go_ret
        exact ⟨by first | rfl | (simp; done) | (simp [*]; done), by repeat (first | exact Drawn0.refl _ | apply Drawn0.step)⟩

/-! ### octet_Rot: function 63 -/
def octet_Rot.f (a0 : Int) (a1 : Int) : Option (Int) := if 0 ≤ (Go.bits .and .i64 a1 63) then (if 0 ≤ (wrap64 (64 - (Go.bits .and .i64 a1 63))) then (some (Go.bits .or .u64 (shl .u64 a0 (Go.bits .and .i64 a1 63)) (shr .u64 a0 (wrap64 (64 - (Go.bits .and .i64 a1 63)))))) else (none)) else (none)
set_option maxHeartbeats 8000000 in
set_option maxRecDepth 100000 in
theorem octet_Rot.calls (a0 : Int) (a1 : Int) (r : Int) (w : World) (h : octet_Rot.f a0 a1 = some r) :
    Calls Try.prog 63 #[.int .u64 a0, .int .i64 a1] w fun e w' => e = .returned (.int .u64 r) ∧ Drawn0 w w' := by
  have H : (if 0 ≤ (Go.bits .and .i64 a1 63) then (if 0 ≤ (wrap64 (64 - (Go.bits .and .i64 a1 63))) then (some (Go.bits .or .u64 (shl .u64 a0 (Go.bits .and .i64 a1 63)) (shr .u64 a0 (wrap64 (64 - (Go.bits .and .i64 a1 63)))))) else (none)) else (none)) = some r := h
  clear h
  by_cases c3 : 0 ≤ (Go.bits .and .i64 a1 63)
  · rw [if_pos c3] at H
    have c3b0 := eq_true c3
    have c3b1 : decide (0 ≤ (Go.bits .and .i64 a1 63)) = true := decide_eq_true c3
    clear c3
    obtain ⟨ji4, hji4⟩ : ∃ j_ : Int, (shl .u64 a0 (Go.bits .and .i64 a1 63)) = j_ := ⟨_, rfl⟩
    replace H : (if 0 ≤ (wrap64 (64 - (Go.bits .and .i64 a1 63))) then (some (Go.bits .or .u64 (ji4) (shr .u64 a0 (wrap64 (64 - (Go.bits .and .i64 a1 63)))))) else (none)) = some r := by first | (rw [hji4] at H; exact H) | (simp only [hji4] at H ⊢; exact H)
    have hji4_ : (IntKind.u64.wrap (a0 * 2 ^ min (Go.bits .and .i64 a1 63).toNat 64)) = ji4 := hji4
    have hji4z : (Go.bits .and .i64 a1 63) ≤ 64 → (IntKind.u64.wrap (a0 * 2 ^ (Go.bits .and .i64 a1 63).toNat)) = ji4 := shl_small hji4
    obtain ⟨ji5, hji5⟩ : ∃ j_ : Int, (wrap64 (64 - (Go.bits .and .i64 a1 63))) = j_ := ⟨_, rfl⟩
    replace H : (if 0 ≤ (ji5) then (some (Go.bits .or .u64 (ji4) (shr .u64 a0 (ji5)))) else (none)) = some r := by first | (rw [hji5] at H; exact H) | (simp only [hji5] at H ⊢; exact H)
    have hji5w : (IntKind.i64.wrap (64 - (Go.bits .and .i64 a1 63))) = ji5 := (i64_w _).trans hji5
    by_cases c6 : 0 ≤ (ji5)
    · rw [if_pos c6] at H
      have c6b0 := eq_true c6
      have c6b1 : decide (0 ≤ (ji5)) = true := decide_eq_true c6
      clear c6
      obtain ⟨ji7, hji7⟩ : ∃ j_ : Int, (shr .u64 a0 (ji5)) = j_ := ⟨_, rfl⟩
      replace H : (some (Go.bits .or .u64 (ji4) (ji7))) = some r := by first | (rw [hji7] at H; exact H) | (simp only [hji7] at H ⊢; exact H)
      have hji7_ : (a0 / 2 ^ min (ji5).toNat 64) = ji7 := hji7
      have hji7z : (ji5) ≤ 64 → (a0 / 2 ^ (ji5).toNat) = ji7 := shr_small hji7
      obtain rfl := Option.some.inj H
      go_enter Try.func63, Try.ntmps63
      go_wp2
      repeat (go_quiet (fail); try go_wp2)
      go_ret
      exact ⟨by first | rfl | (simp; done) | (simp only [← hji4, ← hji5, ← hji7] <;> (first | rfl | simp)) | (simp [*]; done), by repeat (first | exact Drawn0.refl _ | apply Drawn0.step)⟩
    · rw [if_neg c6] at H
      exact absurd H (by simp)
  · rw [if_neg c3] at H
    exact absurd H (by simp)

-- NOT PRINTED: function 32 (keccak_Theta)

/-! ### visorref01_Mod: function 70 -/
def visorref01_Mod.f (a0 : Int) (a1 : Int) : Option (Int) := if a1 = 0 then (none) else (if (Int.tmod a0 a1) < 0 then (some (wrap64 ((Int.tmod a0 a1) + a1))) else (some (Int.tmod a0 a1)))
set_option maxHeartbeats 8000000 in
set_option maxRecDepth 100000 in
theorem visorref01_Mod.calls (a0 : Int) (a1 : Int) (r : Int) (w : World) (h : visorref01_Mod.f a0 a1 = some r) :
    Calls Try.prog 70 #[.int .i64 a0, .int .i64 a1] w fun e w' => e = .returned (.int .i64 r) ∧ Drawn0 w w' := by
  have H : (if a1 = 0 then (none) else (if (Int.tmod a0 a1) < 0 then (some (wrap64 ((Int.tmod a0 a1) + a1))) else (some (Int.tmod a0 a1)))) = some r := h
  clear h
  by_cases c3 : a1 = 0
  · rw [if_pos c3] at H
    exact absurd H (by simp)
  · rw [if_neg c3] at H
    have c3b0 : (a1 == 0) = false := beq_eq_false_iff_ne.mpr c3
    have c3b1 : (a1 != 0) = true := bne_iff_ne.mpr c3
    by_cases c4 : (Int.tmod a0 a1) < 0
    · rw [if_pos c4] at H
      have c4b0 : decide ((Int.tmod a0 a1) < 0) = true := decide_eq_true c4
      clear c4
      obtain rfl := Option.some.inj H
      go_enter Try.func70, Try.ntmps70
      go_wp2
      go_ret
      exact ⟨by first | rfl | (simp; done) | (simp [*]; done), by repeat (first | exact Drawn0.refl _ | apply Drawn0.step)⟩
    · rw [if_neg c4] at H
      have c4b0 : decide ((Int.tmod a0 a1) < 0) = false := decide_eq_false c4
      clear c4
      obtain rfl := Option.some.inj H
      go_enter Try.func70, Try.ntmps70
      go_wp2
      go_ret
      exact ⟨by first | rfl | (simp; done) | (simp [*]; done), by repeat (first | exact Drawn0.refl _ | apply Drawn0.step)⟩

/-! ### visorref01_Rot: function 64 -/
def visorref01_Rot.l0 : Nat → Int → Int → Int → Option (Int)
  | 0, _, _, _ => none
  | k + 1, x0, x1, x5 => (visorref01_Mod.f x1 64).bind fun t128 => (if x5 < t128 then (visorref01_Rot.l0 k (IntKind.u64.wrap ((IntKind.u64.wrap (x0 * 2)) + (IntKind.u64.wrap (Int.tdiv x0 9223372036854775808)))) x1 (wrap64 (x5 + 1))) else (some x0))
def visorref01_Rot.f (k : Nat) (a0 : Int) (a1 : Int) : Option (Int) := visorref01_Rot.l0 k a0 a1 0
theorem visorref01_Rot.mono_l : ∀ k, (∀ y0 y1 y2, LeO (visorref01_Rot.l0 k y0 y1 y2) (visorref01_Rot.l0 (k + 1) y0 y1 y2))
  | 0 => fun _ _ _ r h => by simp [visorref01_Rot.l0] at h
  | k + 1 => by
    have ih0 := visorref01_Rot.mono_l k
    · intro y0 y1 y2
      unfold visorref01_Rot.l0
      repeat' first
      | (with_reducible exact ih0 _ _ _)
      | (with_reducible exact LeO.refl _)
      | (with_reducible exact LeO.none _)
      | (with_reducible refine LeO.ite ?_ ?_)
      | (with_reducible refine LeO.bind ?_ (fun _ => ?_))
      | exact ih0 _ _ _
      | exact LeO.none _
      | refine LeO.ite ?_ ?_
      | refine LeO.bind ?_ (fun _ => ?_)
theorem visorref01_Rot.mono : ∀ a0 a1 k, LeO (visorref01_Rot.f k a0 a1) (visorref01_Rot.f (k + 1) a0 a1) := by
  intro a0 a1 k
  have ih0 := visorref01_Rot.mono_l k
  unfold visorref01_Rot.f
  repeat' first
      | (with_reducible exact ih0 _ _ _)
      | (with_reducible exact LeO.refl _)
      | (with_reducible exact LeO.none _)
      | (with_reducible refine LeO.ite ?_ ?_)
      | (with_reducible refine LeO.bind ?_ (fun _ => ?_))
      | exact ih0 _ _ _
      | exact LeO.none _
      | refine LeO.ite ?_ ?_
      | refine LeO.bind ?_ (fun _ => ?_)
set_option maxHeartbeats 8000000 in
set_option maxRecDepth 100000 in
theorem visorref01_Rot.calls (k : Nat) (a0 : Int) (a1 : Int) (r : Int) (w : World) (h : visorref01_Rot.f k a0 a1 = some r) :
    Calls Try.prog 64 #[.int .u64 a0, .int .i64 a1] w fun e w' => e = .returned (.int .u64 r) ∧ Drawn0 w w' := by
  have H : (visorref01_Rot.l0 k a0 a1 0) = some r := h
  clear h
  have H' := Aside0.mk H
  clear H
  go_enter Try.func64, Try.ntmps64
  go_wp2
  go_loopg [0, 5] k (fun kq v0 v5 w' => ∃ (x0_1 : Int) (x5_1 : Int), v0 = .int .u64 x0_1 ∧ v5 = .int .i64 x5_1 ∧ Aside0 (visorref01_Rot.l0 kq x0_1 a1 x5_1 = some r) ∧ Aside0 (kq ≤ k) ∧ Drawn0 w w')
  case atStart => exact ⟨(a0), (0), (by first | rfl | (simp; done) | (simp [*]; done)), (by first | rfl | (simp; done) | (simp [*]; done)), H', ⟨Nat.le_refl _⟩, by repeat (first | exact Drawn0.refl _ | apply Drawn0.step)⟩
  case round =>
    clear H'
    try clear p2
    obtain ⟨x0_1, x5_1, rfl, rfl, HA, HK1, ⟨m1, rfl⟩⟩ := hrel
    cases gk with
    | zero => exact absurd HA.out (by simp [visorref01_Rot.l0])
    | succ k1 =>
      have H := HA.out
      clear HA
      simp only [visorref01_Rot.l0] at H
      replace H := Option.bind_eq_some_iff.mp H
      obtain ⟨t128, A30, H⟩ := H
      replace H : (if x5_1 < t128 then (visorref01_Rot.l0 k1 (IntKind.u64.wrap ((IntKind.u64.wrap (x0_1 * 2)) + (IntKind.u64.wrap (Int.tdiv x0_1 9223372036854775808)))) a1 (wrap64 (x5_1 + 1))) else (some x0_1)) = some r := H
      have A3 := Aside0.mk A30
      clear A30
      by_cases c4 : x5_1 < t128
      · rw [if_pos c4] at H
        have c4b0 : decide (x5_1 < t128) = true := decide_eq_true c4
        clear c4
        have H' := Aside0.mk H
        clear H
        go_wp2_with (first | ((with_reducible refine gate_callee (f := 70) rfl ?_); refine goesL_ (some 8) rfl rfl Try.func70 (by kernel_rfl) rfl #[.int .i64 a1, .int .i64 64] rfl (by (try simp only [List.map_toArray, List.map_cons, List.map_nil]); first | done | rfl | (simp only [List.length_drop, List.length_take]; rfl)) ?_; (with_reducible refine (visorref01_Mod.calls a1 64 t128 _ A3.out).mono ?_); rintro e w' ⟨rfl, ⟨nd, rfl⟩⟩; refine ⟨_, rfl, ?_⟩))
        go_roundg k1
        case measure => have := HK1.out; omega
        case rel => exact ⟨(IntKind.u64.wrap ((IntKind.u64.wrap (x0_1 * 2)) + (IntKind.u64.wrap (Int.tdiv x0_1 9223372036854775808)))), (wrap64 (x5_1 + 1)), (by first | rfl | (simp; done) | (simp [*]; done)), (by first | rfl | (simp; done) | (simp [*]; done)), H', ⟨by have := HK1.out; omega⟩, by repeat (first | exact Drawn0.refl _ | apply Drawn0.step)⟩
      · rw [if_neg c4] at H
        have c4b0 : decide (x5_1 < t128) = false := decide_eq_false c4
        clear c4
        obtain rfl := Option.some.inj H
        go_wp2_with (first | ((with_reducible refine gate_callee (f := 70) rfl ?_); refine goesL_ (some 8) rfl rfl Try.func70 (by kernel_rfl) rfl #[.int .i64 a1, .int .i64 64] rfl (by (try simp only [List.map_toArray, List.map_cons, List.map_nil]); first | done | rfl | (simp only [List.length_drop, List.length_take]; rfl)) ?_; (with_reducible refine (visorref01_Mod.calls a1 64 t128 _ A3.out).mono ?_); rintro e w' ⟨rfl, ⟨nd, rfl⟩⟩; refine ⟨_, rfl, ?_⟩))
        go_ret
        exact ⟨by first | rfl | (simp; done) | (simp [*]; done), by repeat (first | exact Drawn0.refl _ | apply Drawn0.step)⟩

-- NOT PRINTED: function 33 (visorref13_Theta)

-- NOT PRINTED: function 34 (keccak_Move)

-- NOT PRINTED: function 35 (visorref13_Move)

-- NOT PRINTED: function 36 (keccak_Chi)

-- NOT PRINTED: function 37 (visorref13_Chi)

-- NOT PRINTED: function 38 (keccak_Permute)

-- NOT PRINTED: function 39 (visorref13_Permute)

-- NOT PRINTED: function 40 (visorlaw13_awake)

-- NOT PRINTED: function 6 (visorlaw13_KeccakTells)

-- NOT PRINTED: function 43 (keccak_BackChi)

-- NOT PRINTED: function 44 (keccak_BackMove)

-- NOT PRINTED: function 65 (keccak_backTheta)

-- NOT PRINTED: function 42 (keccak_Back)

-- NOT PRINTED: function 8 (visorlaw13_KeccakBack)

end Go.Proofs.Ytdbcgjclnfhdfaa.PKec
