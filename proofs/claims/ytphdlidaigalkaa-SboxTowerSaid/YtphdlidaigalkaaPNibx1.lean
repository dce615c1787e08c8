/- Plain Lean functions with the answers of Go functions, and proofs that the Go code comes to them. Written by a program of this session's that runs the kit's print.py with contracts proved by hand handed to it; not trusted: Lean checks it. No condition. -/
import Derived.Test.YtphdlidaigalkaaPNibx0
namespace Go.Proofs.Ytphdlidaigalkaa.PNib
open Go.RowKit Go.Proofs.Ytphdlidaigalkaa.NibSq Go.Proofs.YtphdlidaigalkaaW.PrintWords Go.Proofs.YtphdlidaigalkaaW.PrintLast Go.Proofs.YtphdlidaigalkaaW.PrintMore
attribute [local go_sem] max2_int min2_int max_two min_two max_three min_three max_four min_four   -- for this text's walks alone
set_option linter.unusedVariables false
set_option linter.unusedSimpArgs false

-- NOT PRINTED: function 29 (tower_New)

-- NOT PRINTED: function 130 (atomic_LoadUint32)

-- NOT PRINTED: function 124 (atomic_Bool_Load)

-- NOT PRINTED: function 142 (race_Disable)

-- NOT PRINTED: function 143 (atomic_CompareAndSwapInt32)

-- NOT PRINTED: function 144 (race_Enable)

-- NOT PRINTED: function 145 (race_Acquire)

-- NOT PRINTED: function 148 (atomic_AddInt32)

-- NOT PRINTED: function 150 (sync_runtime_canSpin)

-- NOT PRINTED: function 151 (sync_runtime_doSpin)

-- NOT PRINTED: function 152 (sync_throw)

-- NOT PRINTED: function 153 (sync_runtime_nanotime)

-- NOT PRINTED: function 154 (sync_runtime_SemacquireMutex)

-- NOT PRINTED: function 146 (sync_Mutex_lockSlow)

-- NOT PRINTED: function 137 (sync_Mutex_Lock_137)

-- NOT PRINTED: function 131 (sync_Mutex_Lock_131)

-- NOT PRINTED: function 147 (race_ReleaseMerge)

-- NOT PRINTED: function 155 (sync_fatal)

-- NOT PRINTED: function 156 (sync_runtime_Semrelease)

-- NOT PRINTED: function 149 (sync_Mutex_unlockSlow)

-- NOT PRINTED: function 138 (sync_Mutex_Unlock_138)

-- NOT PRINTED: function 132 (sync_Mutex_Unlock_132)

-- NOT PRINTED: function 139 (atomic_StoreUint32)

/-! ### atomic_b32: function 140 -/
def atomic_b32.f (a0 : Bool) : Option (Int) := if a0 = true then (some 1) else (some 0)
set_option maxHeartbeats 8000000 in
set_option maxRecDepth 100000 in
theorem atomic_b32.calls (a0 : Bool) (r : Int) (w : World) (h : atomic_b32.f a0 = some r) :
    Calls Try.prog 140 #[.bool a0] w fun e w' => e = .returned (.int .u32 r) ∧ Drawn0 w w' := by
  have H : (if a0 = true then (some 1) else (some 0)) = some r := h
  clear h
  by_cases c2 : a0 = true
  · subst c2
    have H1 : (some 1) = some r := by rw [if_pos rfl] at H; exact H
    clear H
    have H := H1
    clear H1
    obtain rfl := Option.some.inj H
    go_enter Try.func140, Try.ntmps140
    go_wp2
    go_ret
    exact ⟨by first | rfl | (simp; done) | (simp [*]; done), by repeat (first | exact Drawn0.refl _ | apply Drawn0.step)⟩
  · replace c2 := Bool.eq_false_iff.mpr c2
    subst c2
    have H1 : (some 0) = some r := by rw [if_neg (show ¬ (false = true) by decide)] at H; exact H
    clear H
    have H := H1
    clear H1
    obtain rfl := Option.some.inj H
    go_enter Try.func140, Try.ntmps140
    go_wp2
    go_ret
    exact ⟨by first | rfl | (simp; done) | (simp [*]; done), by repeat (first | exact Drawn0.refl _ | apply Drawn0.step)⟩

-- NOT PRINTED: function 133 (atomic_Bool_Store)

-- NOT PRINTED: function 125 (sync_Once_doSlow)

-- NOT PRINTED: function 117 (sync_Once_Do)

/-! ### tower_parts: function 90 -/
def tower_parts.f (a0 : Int) : Option (Int × Int) := some (a0 / 16, Go.bits .and .u8 a0 15)
set_option maxHeartbeats 8000000 in
set_option maxRecDepth 100000 in
theorem tower_parts.calls (a0 : Int) (r1 : Int) (r2 : Int) (w : World) (h : tower_parts.f a0 = some (r1, r2)) :
    Calls Try.prog 90 #[.int .u8 a0] w fun e w' => e = .returned (.tuple #[.int .u8 r1, .int .u8 r2]) ∧ Drawn0 w w' := by
  have H : (some (a0 / 16, Go.bits .and .u8 a0 15)) = some (r1, r2) := h
  clear h
  simp only [Option.some.injEq, Prod.mk.injEq] at H
  obtain ⟨rfl, rfl⟩ := H
  go_enter Try.func90, Try.ntmps90
  go_wp2
  go_ret2
  exact ⟨by first | rfl | (simp; done) | (simp [*]; done), by repeat (first | exact Drawn0.refl _ | apply Drawn0.step)⟩

/-! ### nib_twice: function 119 -/
def nib_twice.f (a0 : Int) : Option (Int) := if (Go.bits .and .u8 a0 8) = 0 then (some ((a0 * 2) % 256)) else (some (Go.bits .and .u8 (Go.bits .xor .u8 ((a0 * 2) % 256) 3) 15))
set_option maxHeartbeats 8000000 in
set_option maxRecDepth 100000 in
theorem nib_twice.calls (a0 : Int) (r : Int) (w : World) (h : nib_twice.f a0 = some r) :
    Calls Try.prog 119 #[.int .u8 a0] w fun e w' => e = .returned (.int .u8 r) ∧ Drawn0 w w' := by
  have H : (if (Go.bits .and .u8 a0 8) = 0 then (some ((a0 * 2) % 256)) else (some (Go.bits .and .u8 (Go.bits .xor .u8 ((a0 * 2) % 256) 3) 15))) = some r := h
  clear h
  by_cases c2 : (Go.bits .and .u8 a0 8) = 0
  · rw [if_pos c2] at H
    have c2b0 : ((Go.bits .and .u8 a0 8) == 0) = true := beq_iff_eq.mpr c2
    have c2b1 : ((Go.bits .and .u8 a0 8) != 0) = false := bne_eq_false_iff_eq.mpr c2
    clear c2
    obtain rfl := Option.some.inj H
    go_enter Try.func119, Try.ntmps119
    go_wp2
    go_ret
    exact ⟨by first | rfl | (simp; done) | (simp [*]; done), by repeat (first | exact Drawn0.refl _ | apply Drawn0.step)⟩
  · rw [if_neg c2] at H
    have c2b0 : ((Go.bits .and .u8 a0 8) == 0) = false := beq_eq_false_iff_ne.mpr c2
    have c2b1 : ((Go.bits .and .u8 a0 8) != 0) = true := bne_iff_ne.mpr c2
    obtain rfl := Option.some.inj H
    go_enter Try.func119, Try.ntmps119
    go_wp2
    go_ret
    exact ⟨by first | rfl | (simp; done) | (simp [*]; done), by repeat (first | exact Drawn0.refl _ | apply Drawn0.step)⟩

/-! ### nib_Mul: function 91 -/
def nib_Mul.l0 : Nat → Int → Int → Int → Option (Int)
  | 0, _, _, _ => none
  | k + 1, x0, x1, x5 => if x1 = 0 then (some x5) else (if (Go.bits .and .u8 x1 1) = 1 then ((nib_twice.f x0).bind fun t101 => (nib_Mul.l0 k t101 (x1 / 2) (Go.bits .xor .u8 x5 x0))) else ((nib_twice.f x0).bind fun t102 => (nib_Mul.l0 k t102 (x1 / 2) x5)))
def nib_Mul.f (k : Nat) (a0 : Int) (a1 : Int) : Option (Int) := nib_Mul.l0 k (Go.bits .and .u8 a0 15) (Go.bits .and .u8 a1 15) 0
theorem nib_Mul.mono_l : ∀ k, (∀ y0 y1 y2, LeO (nib_Mul.l0 k y0 y1 y2) (nib_Mul.l0 (k + 1) y0 y1 y2))
  | 0 => fun _ _ _ r h => by simp [nib_Mul.l0] at h
  | k + 1 => by
    have ih0 := nib_Mul.mono_l k
    · intro y0 y1 y2
      unfold nib_Mul.l0
      repeat' first
      | (with_reducible exact ih0 _ _ _)
      | (with_reducible exact LeO.refl _)
      | (with_reducible exact LeO.none _)
      | (with_reducible refine LeO.ite ?_ ?_)
      | (with_reducible refine LeO.bind ?_ (fun _ => ?_))
      | exact ih0 _ _ _
      | exact LeO.none _
      | refine LeO.ite ?_ ?_
      | refine LeO.bind ?_ (fun _ => ?_)
theorem nib_Mul.mono : ∀ a0 a1 k, LeO (nib_Mul.f k a0 a1) (nib_Mul.f (k + 1) a0 a1) := by
  intro a0 a1 k
  have ih0 := nib_Mul.mono_l k
  unfold nib_Mul.f
  repeat' first
      | (with_reducible exact ih0 _ _ _)
      | (with_reducible exact LeO.refl _)
      | (with_reducible exact LeO.none _)
      | (with_reducible refine LeO.ite ?_ ?_)
      | (with_reducible refine LeO.bind ?_ (fun _ => ?_))
      | exact ih0 _ _ _
      | exact LeO.none _
      | refine LeO.ite ?_ ?_
      | refine LeO.bind ?_ (fun _ => ?_)
set_option maxHeartbeats 8000000 in
set_option maxRecDepth 100000 in
theorem nib_Mul.calls (k : Nat) (a0 : Int) (a1 : Int) (r : Int) (w : World) (h : nib_Mul.f k a0 a1 = some r) :
    Calls Try.prog 91 #[.int .u8 a0, .int .u8 a1] w fun e w' => e = .returned (.int .u8 r) ∧ Drawn0 w w' := by
  have H : (nib_Mul.l0 k (Go.bits .and .u8 a0 15) (Go.bits .and .u8 a1 15) 0) = some r := h
  clear h
  have H' := Aside0.mk H
  clear H
  go_enter Try.func91, Try.ntmps91
  go_wp2
  go_loopg [0, 1, 5] k (fun kq v0 v1 v5 w' => ∃ (x0_1 : Int) (x1_1 : Int) (x5_1 : Int), v0 = .int .u8 x0_1 ∧ v1 = .int .u8 x1_1 ∧ v5 = .int .u8 x5_1 ∧ Aside0 (nib_Mul.l0 kq x0_1 x1_1 x5_1 = some r) ∧ Aside0 (kq ≤ k) ∧ Drawn0 w w')
  case atStart => exact ⟨(Go.bits .and .u8 a0 15), (Go.bits .and .u8 a1 15), (0), (by first | rfl | (simp; done) | (simp [*]; done)), (by first | rfl | (simp; done) | (simp [*]; done)), (by first | rfl | (simp; done) | (simp [*]; done)), H', ⟨Nat.le_refl _⟩, by repeat (first | exact Drawn0.refl _ | apply Drawn0.step)⟩
  case round =>
    clear H'
    try clear p2
    obtain ⟨x0_1, x1_1, x5_1, rfl, rfl, rfl, HA, HK1, ⟨m1, rfl⟩⟩ := hrel
    cases gk with
    | zero => exact absurd HA.out (by simp [nib_Mul.l0])
    | succ k1 =>
      have H := HA.out
      clear HA
      simp only [nib_Mul.l0] at H
      by_cases c3 : x1_1 = 0
      · rw [if_pos c3] at H
        have c3b0 : (x1_1 == 0) = true := beq_iff_eq.mpr c3
        have c3b1 : (x1_1 != 0) = false := bne_eq_false_iff_eq.mpr c3
        clear c3
        obtain rfl := Option.some.inj H
        go_wp2
        go_ret
        exact ⟨by first | rfl | (simp; done) | (simp [*]; done), by repeat (first | exact Drawn0.refl _ | apply Drawn0.step)⟩
      · rw [if_neg c3] at H
        have c3b0 : (x1_1 == 0) = false := beq_eq_false_iff_ne.mpr c3
        have c3b1 : (x1_1 != 0) = true := bne_iff_ne.mpr c3
        by_cases c4 : (Go.bits .and .u8 x1_1 1) = 1
        · rw [if_pos c4] at H
          have c4b0 : ((Go.bits .and .u8 x1_1 1) == 1) = true := beq_iff_eq.mpr c4
          have c4b1 : ((Go.bits .and .u8 x1_1 1) != 1) = false := bne_eq_false_iff_eq.mpr c4
          clear c4
          replace H := Option.bind_eq_some_iff.mp H
          obtain ⟨t101, A50, H⟩ := H
          replace H : (nib_Mul.l0 k1 t101 (x1_1 / 2) (Go.bits .xor .u8 x5_1 x0_1)) = some r := H
          have A5 := Aside0.mk A50
          clear A50
          have H' := Aside0.mk H
          clear H
          go_wp2_with (first | ((with_reducible refine gate_callee (f := 119) rfl ?_); refine goesL_ (some 21) rfl rfl Try.func119 (by kernel_rfl) rfl #[.int .u8 x0_1] rfl (by (try simp only [List.map_toArray, List.map_cons, List.map_nil]); first | done | rfl | (simp only [List.length_drop, List.length_take]; rfl)) ?_; (with_reducible refine (nib_twice.calls x0_1 t101 _ A5.out).mono ?_); rintro e w' ⟨rfl, ⟨nd, rfl⟩⟩; refine ⟨_, rfl, ?_⟩))
          go_roundg k1
          case measure => have := HK1.out; omega
          case rel => exact ⟨(t101), (x1_1 / 2), (Go.bits .xor .u8 x5_1 x0_1), (by first | rfl | (simp; done) | (simp [*]; done)), (by first | rfl | (simp; done) | (simp [*]; done)), (by first | rfl | (simp; done) | (simp [*]; done)), H', ⟨by have := HK1.out; omega⟩, by repeat (first | exact Drawn0.refl _ | apply Drawn0.step)⟩
        · rw [if_neg c4] at H
          have c4b0 : ((Go.bits .and .u8 x1_1 1) == 1) = false := beq_eq_false_iff_ne.mpr c4
          have c4b1 : ((Go.bits .and .u8 x1_1 1) != 1) = true := bne_iff_ne.mpr c4
          replace H := Option.bind_eq_some_iff.mp H
          obtain ⟨t102, A60, H⟩ := H
          replace H : (nib_Mul.l0 k1 t102 (x1_1 / 2) x5_1) = some r := H
          have A6 := Aside0.mk A60
          clear A60
          have H' := Aside0.mk H
          clear H
          go_wp2_with (first | ((with_reducible refine gate_callee (f := 119) rfl ?_); refine goesL_ (some 21) rfl rfl Try.func119 (by kernel_rfl) rfl #[.int .u8 x0_1] rfl (by (try simp only [List.map_toArray, List.map_cons, List.map_nil]); first | done | rfl | (simp only [List.length_drop, List.length_take]; rfl)) ?_; (with_reducible refine (nib_twice.calls x0_1 t102 _ A6.out).mono ?_); rintro e w' ⟨rfl, ⟨nd, rfl⟩⟩; refine ⟨_, rfl, ?_⟩))
          go_roundg k1
          case measure => have := HK1.out; omega
          case rel => exact ⟨(t102), (x1_1 / 2), (x5_1), (by first | rfl | (simp; done) | (simp [*]; done)), (by first | rfl | (simp; done) | (simp [*]; done)), (by first | rfl | (simp; done) | (simp [*]; done)), H', ⟨by have := HK1.out; omega⟩, by repeat (first | exact Drawn0.refl _ | apply Drawn0.step)⟩

/-! ### tower_Mul: function 35 -/
def tower_Mul.f (k : Nat) (a0 : Int) (a1 : Int) : Option (Int) := (tower_parts.f a0).bind fun bt103 => ((tower_parts.f a1).bind fun bt105 => ((nib_Mul.f k bt103.1 bt105.1).bind fun t107 => ((nib_Mul.f k bt103.2 bt105.2).bind fun t108 => ((nib_Mul.f k (Go.bits .xor .u8 bt103.1 bt103.2) (Go.bits .xor .u8 bt105.1 bt105.2)).bind fun t109 => ((nib_Mul.f k t107 8).bind fun t110 => (some (Go.bits .xor .u8 (Go.bits .or .u8 (((Go.bits .xor .u8 t109 t108) * 16) % 256) t108) t110)))))))
theorem tower_Mul.mono : ∀ a0 a1 k, LeO (tower_Mul.f k a0 a1) (tower_Mul.f (k + 1) a0 a1) := by
  intro a0 a1 k
  unfold tower_Mul.f
  repeat' first
      | (with_reducible exact nib_Mul.mono _ _ _)
      | (with_reducible exact LeO.refl _)
      | (with_reducible exact LeO.none _)
      | (with_reducible refine LeO.ite ?_ ?_)
      | (with_reducible refine LeO.bind ?_ (fun _ => ?_))
      | exact nib_Mul.mono _ _ _
      | exact LeO.none _
      | refine LeO.ite ?_ ?_
      | refine LeO.bind ?_ (fun _ => ?_)
set_option maxHeartbeats 8000000 in
set_option maxRecDepth 100000 in
theorem tower_Mul.calls (k : Nat) (a0 : Int) (a1 : Int) (r : Int) (w : World) (h : tower_Mul.f k a0 a1 = some r) :
    Calls Try.prog 35 #[.int .u8 a0, .int .u8 a1] w fun e w' => e = .returned (.int .u8 r) ∧ Drawn0 w w' := by
  have H : ((tower_parts.f a0).bind fun bt103 => ((tower_parts.f a1).bind fun bt105 => ((nib_Mul.f k bt103.1 bt105.1).bind fun t107 => ((nib_Mul.f k bt103.2 bt105.2).bind fun t108 => ((nib_Mul.f k (Go.bits .xor .u8 bt103.1 bt103.2) (Go.bits .xor .u8 bt105.1 bt105.2)).bind fun t109 => ((nib_Mul.f k t107 8).bind fun t110 => (some (Go.bits .xor .u8 (Go.bits .or .u8 (((Go.bits .xor .u8 t109 t108) * 16) % 256) t108) t110)))))))) = some r := h
  clear h
  replace H := Option.bind_eq_some_iff.mp H
  obtain ⟨⟨t103, t104⟩, A30, H⟩ := H
  replace H : ((tower_parts.f a1).bind fun bt105 => ((nib_Mul.f k t103 bt105.1).bind fun t107 => ((nib_Mul.f k t104 bt105.2).bind fun t108 => ((nib_Mul.f k (Go.bits .xor .u8 t103 t104) (Go.bits .xor .u8 bt105.1 bt105.2)).bind fun t109 => ((nib_Mul.f k t107 8).bind fun t110 => (some (Go.bits .xor .u8 (Go.bits .or .u8 (((Go.bits .xor .u8 t109 t108) * 16) % 256) t108) t110))))))) = some r := H
  have A3 := Aside0.mk A30
  clear A30
  replace H := Option.bind_eq_some_iff.mp H
  obtain ⟨⟨t105, t106⟩, A40, H⟩ := H
  replace H : ((nib_Mul.f k t103 t105).bind fun t107 => ((nib_Mul.f k t104 t106).bind fun t108 => ((nib_Mul.f k (Go.bits .xor .u8 t103 t104) (Go.bits .xor .u8 t105 t106)).bind fun t109 => ((nib_Mul.f k t107 8).bind fun t110 => (some (Go.bits .xor .u8 (Go.bits .or .u8 (((Go.bits .xor .u8 t109 t108) * 16) % 256) t108) t110)))))) = some r := H
  have A4 := Aside0.mk A40
  clear A40
  replace H := Option.bind_eq_some_iff.mp H
  obtain ⟨t107, A50, H⟩ := H
  replace H : ((nib_Mul.f k t104 t106).bind fun t108 => ((nib_Mul.f k (Go.bits .xor .u8 t103 t104) (Go.bits .xor .u8 t105 t106)).bind fun t109 => ((nib_Mul.f k t107 8).bind fun t110 => (some (Go.bits .xor .u8 (Go.bits .or .u8 (((Go.bits .xor .u8 t109 t108) * 16) % 256) t108) t110))))) = some r := H
  have A5 := Aside0.mk A50
  clear A50
  replace H := Option.bind_eq_some_iff.mp H
  obtain ⟨t108, A60, H⟩ := H
  replace H : ((nib_Mul.f k (Go.bits .xor .u8 t103 t104) (Go.bits .xor .u8 t105 t106)).bind fun t109 => ((nib_Mul.f k t107 8).bind fun t110 => (some (Go.bits .xor .u8 (Go.bits .or .u8 (((Go.bits .xor .u8 t109 t108) * 16) % 256) t108) t110)))) = some r := H
  have A6 := Aside0.mk A60
  clear A60
  replace H := Option.bind_eq_some_iff.mp H
  obtain ⟨t109, A70, H⟩ := H
  replace H : ((nib_Mul.f k t107 8).bind fun t110 => (some (Go.bits .xor .u8 (Go.bits .or .u8 (((Go.bits .xor .u8 t109 t108) * 16) % 256) t108) t110))) = some r := H
  have A7 := Aside0.mk A70
  clear A70
  replace H := Option.bind_eq_some_iff.mp H
  obtain ⟨t110, A80, H⟩ := H
  replace H : (some (Go.bits .xor .u8 (Go.bits .or .u8 (((Go.bits .xor .u8 t109 t108) * 16) % 256) t108) t110)) = some r := H
  have A8 := Aside0.mk A80
  clear A80
  obtain rfl := Option.some.inj H
  go_enter Try.func35, Try.ntmps35
  go_wp2_with (first | ((with_reducible refine gate_callee (f := 90) rfl ?_); refine goesL_ (some 14) rfl rfl Try.func90 (by kernel_rfl) rfl #[.int .u8 a0] rfl (by (try simp only [List.map_toArray, List.map_cons, List.map_nil]); first | done | rfl | (simp only [List.length_drop, List.length_take]; rfl)) ?_; (with_reducible refine (tower_parts.calls a0 t103 t104 _ A3.out).mono ?_); rintro e w' ⟨rfl, ⟨nd, rfl⟩⟩; refine ⟨_, rfl, ?_⟩) | ((with_reducible refine gate_callee (f := 90) rfl ?_); refine goesL_ (some 19) rfl rfl Try.func90 (by kernel_rfl) rfl #[.int .u8 a1] rfl (by (try simp only [List.map_toArray, List.map_cons, List.map_nil]); first | done | rfl | (simp only [List.length_drop, List.length_take]; rfl)) ?_; (with_reducible refine (tower_parts.calls a1 t105 t106 _ A4.out).mono ?_); rintro e w' ⟨rfl, ⟨nd, rfl⟩⟩; refine ⟨_, rfl, ?_⟩) | ((with_reducible refine gate_callee (f := 91) rfl ?_); refine goesL_ (some 24) rfl rfl Try.func91 (by kernel_rfl) rfl #[.int .u8 t103, .int .u8 t105] rfl (by (try simp only [List.map_toArray, List.map_cons, List.map_nil]); first | done | rfl | (simp only [List.length_drop, List.length_take]; rfl)) ?_; (with_reducible refine (nib_Mul.calls k t103 t105 t107 _ A5.out).mono ?_); rintro e w' ⟨rfl, ⟨nd, rfl⟩⟩; refine ⟨_, rfl, ?_⟩) | ((with_reducible refine gate_callee (f := 91) rfl ?_); refine goesL_ (some 27) rfl rfl Try.func91 (by kernel_rfl) rfl #[.int .u8 t104, .int .u8 t106] rfl (by (try simp only [List.map_toArray, List.map_cons, List.map_nil]); first | done | rfl | (simp only [List.length_drop, List.length_take]; rfl)) ?_; (with_reducible refine (nib_Mul.calls k t104 t106 t108 _ A6.out).mono ?_); rintro e w' ⟨rfl, ⟨nd, rfl⟩⟩; refine ⟨_, rfl, ?_⟩) | ((with_reducible refine gate_callee (f := 91) rfl ?_); refine goesL_ (some 34) rfl rfl Try.func91 (by kernel_rfl) rfl #[.int .u8 (Go.bits .xor .u8 t103 t104), .int .u8 (Go.bits .xor .u8 t105 t106)] rfl (by (try simp only [List.map_toArray, List.map_cons, List.map_nil]); first | done | rfl | (simp only [List.length_drop, List.length_take]; rfl)) ?_; (with_reducible refine (nib_Mul.calls k (Go.bits .xor .u8 t103 t104) (Go.bits .xor .u8 t105 t106) t109 _ A7.out).mono ?_); rintro e w' ⟨rfl, ⟨nd, rfl⟩⟩; refine ⟨_, rfl, ?_⟩) | ((with_reducible refine gate_callee (f := 91) rfl ?_); refine goesL_ (some 42) rfl rfl Try.func91 (by kernel_rfl) rfl #[.int .u8 t107, .int .u8 8] rfl (by (try simp only [List.map_toArray, List.map_cons, List.map_nil]); first | done | rfl | (simp only [List.length_drop, List.length_take]; rfl)) ?_; (with_reducible refine (nib_Mul.calls k t107 8 t110 _ A8.out).mono ?_); rintro e w' ⟨rfl, ⟨nd, rfl⟩⟩; refine ⟨_, rfl, ?_⟩))
  go_ret
  exact ⟨by first | rfl | (simp; done) | (simp [*]; done), by repeat (first | exact Drawn0.refl _ | apply Drawn0.step)⟩

/-! ### tower_sum: function 93 -/
def tower_sum.l0 : Nat → Int → Int → Int → Int → Option (Int)
  | 0, _, _, _, _ => none
  | k + 1, x0, x3, x4, x5 => if x5 = 0 then (some x3) else (if (Go.bits .and .i64 x5 1) = 1 then ((tower_Mul.f k x4 x0).bind fun t111 => (tower_sum.l0 k x0 (Go.bits .xor .u8 x3 x4) t111 (x5 / 2))) else ((tower_Mul.f k x4 x0).bind fun t112 => (tower_sum.l0 k x0 x3 t112 (x5 / 2))))
def tower_sum.f (k : Nat) (a0 : Int) : Option (Int) := tower_sum.l0 k a0 0 1 283
theorem tower_sum.mono_l : ∀ k, (∀ y0 y1 y2 y3, LeO (tower_sum.l0 k y0 y1 y2 y3) (tower_sum.l0 (k + 1) y0 y1 y2 y3))
  | 0 => fun _ _ _ _ r h => by simp [tower_sum.l0] at h
  | k + 1 => by
    have ih0 := tower_sum.mono_l k
    · intro y0 y1 y2 y3
      unfold tower_sum.l0
      repeat' first
      | (with_reducible exact ih0 _ _ _ _)
      | (with_reducible exact tower_Mul.mono _ _ _)
      | (with_reducible exact LeO.refl _)
      | (with_reducible exact LeO.none _)
      | (with_reducible refine LeO.ite ?_ ?_)
      | (with_reducible refine LeO.bind ?_ (fun _ => ?_))
      | exact ih0 _ _ _ _
      | exact tower_Mul.mono _ _ _
      | exact LeO.none _
      | refine LeO.ite ?_ ?_
      | refine LeO.bind ?_ (fun _ => ?_)
theorem tower_sum.mono : ∀ a0 k, LeO (tower_sum.f k a0) (tower_sum.f (k + 1) a0) := by
  intro a0 k
  have ih0 := tower_sum.mono_l k
  unfold tower_sum.f
  repeat' first
      | (with_reducible exact ih0 _ _ _ _)
      | (with_reducible exact tower_Mul.mono _ _ _)
      | (with_reducible exact LeO.refl _)
      | (with_reducible exact LeO.none _)
      | (with_reducible refine LeO.ite ?_ ?_)
      | (with_reducible refine LeO.bind ?_ (fun _ => ?_))
      | exact ih0 _ _ _ _
      | exact tower_Mul.mono _ _ _
      | exact LeO.none _
      | refine LeO.ite ?_ ?_
      | refine LeO.bind ?_ (fun _ => ?_)
set_option maxHeartbeats 8000000 in
set_option maxRecDepth 100000 in
theorem tower_sum.calls (k : Nat) (a0 : Int) (r : Int) (w : World) (h : tower_sum.f k a0 = some r) :
    Calls Try.prog 93 #[.int .u8 a0] w fun e w' => e = .returned (.int .u8 r) ∧ Drawn0 w w' := by
  have H : (tower_sum.l0 k a0 0 1 283) = some r := h
  clear h
  have H' := Aside0.mk H
  clear H
  go_enter Try.func93, Try.ntmps93
  go_wp2
  go_loopg [3, 4, 5] k (fun kq v3 v4 v5 w' => ∃ (x3_1 : Int) (x4_1 : Int) (x5_1 : Int), v3 = .int .u8 x3_1 ∧ v4 = .int .u8 x4_1 ∧ v5 = .int .i64 x5_1 ∧ Aside0 (tower_sum.l0 kq a0 x3_1 x4_1 x5_1 = some r) ∧ Aside0 (kq ≤ k) ∧ Drawn0 w w')
  case atStart => exact ⟨(0), (1), (283), (by first | rfl | (simp; done) | (simp [*]; done)), (by first | rfl | (simp; done) | (simp [*]; done)), (by first | rfl | (simp; done) | (simp [*]; done)), H', ⟨Nat.le_refl _⟩, by repeat (first | exact Drawn0.refl _ | apply Drawn0.step)⟩
  case round =>
    clear H'
    obtain ⟨x3_1, x4_1, x5_1, rfl, rfl, rfl, HA, HK1, ⟨m1, rfl⟩⟩ := hrel
    cases gk with
    | zero => exact absurd HA.out (by simp [tower_sum.l0])
    | succ k1 =>
      have H := HA.out
      clear HA
      simp only [tower_sum.l0] at H
      by_cases c2 : x5_1 = 0
      · rw [if_pos c2] at H
        have c2b0 : (x5_1 == 0) = true := beq_iff_eq.mpr c2
        have c2b1 : (x5_1 != 0) = false := bne_eq_false_iff_eq.mpr c2
        clear c2
        obtain rfl := Option.some.inj H
        go_wp2
        go_ret
        exact ⟨by first | rfl | (simp; done) | (simp [*]; done), by repeat (first | exact Drawn0.refl _ | apply Drawn0.step)⟩
      · rw [if_neg c2] at H
        have c2b0 : (x5_1 == 0) = false := beq_eq_false_iff_ne.mpr c2
        have c2b1 : (x5_1 != 0) = true := bne_iff_ne.mpr c2
        by_cases c3 : (Go.bits .and .i64 x5_1 1) = 1
        · rw [if_pos c3] at H
          have c3b0 : ((Go.bits .and .i64 x5_1 1) == 1) = true := beq_iff_eq.mpr c3
          have c3b1 : ((Go.bits .and .i64 x5_1 1) != 1) = false := bne_eq_false_iff_eq.mpr c3
          clear c3
          replace H := Option.bind_eq_some_iff.mp H
          obtain ⟨t111, A40, H⟩ := H
          replace H : (tower_sum.l0 k1 a0 (Go.bits .xor .u8 x3_1 x4_1) t111 (x5_1 / 2)) = some r := H
          have A4 := Aside0.mk A40
          clear A40
          have H' := Aside0.mk H
          clear H
          go_wp2_with (first | ((with_reducible refine gate_callee (f := 35) rfl ?_); refine goesL_ (some 18) rfl rfl Try.func35 (by kernel_rfl) rfl #[.int .u8 x4_1, .int .u8 a0] rfl (by (try simp only [List.map_toArray, List.map_cons, List.map_nil]); first | done | rfl | (simp only [List.length_drop, List.length_take]; rfl)) ?_; (with_reducible refine (tower_Mul.calls k1 x4_1 a0 t111 _ A4.out).mono ?_); rintro e w' ⟨rfl, ⟨nd, rfl⟩⟩; refine ⟨_, rfl, ?_⟩))
          go_roundg k1
          case measure => have := HK1.out; omega
          case rel => exact ⟨(Go.bits .xor .u8 x3_1 x4_1), (t111), (x5_1 / 2), (by first | rfl | (simp; done) | (simp [*]; done)), (by first | rfl | (simp; done) | (simp [*]; done)), (by first | rfl | (simp; done) | (simp [*]; done)), H', ⟨by have := HK1.out; omega⟩, by repeat (first | exact Drawn0.refl _ | apply Drawn0.step)⟩
        · rw [if_neg c3] at H
          have c3b0 : ((Go.bits .and .i64 x5_1 1) == 1) = false := beq_eq_false_iff_ne.mpr c3
          have c3b1 : ((Go.bits .and .i64 x5_1 1) != 1) = true := bne_iff_ne.mpr c3
          replace H := Option.bind_eq_some_iff.mp H
          obtain ⟨t112, A50, H⟩ := H
          replace H : (tower_sum.l0 k1 a0 x3_1 t112 (x5_1 / 2)) = some r := H
          have A5 := Aside0.mk A50
          clear A50
          have H' := Aside0.mk H
          clear H
          go_wp2_with (first | ((with_reducible refine gate_callee (f := 35) rfl ?_); refine goesL_ (some 18) rfl rfl Try.func35 (by kernel_rfl) rfl #[.int .u8 x4_1, .int .u8 a0] rfl (by (try simp only [List.map_toArray, List.map_cons, List.map_nil]); first | done | rfl | (simp only [List.length_drop, List.length_take]; rfl)) ?_; (with_reducible refine (tower_Mul.calls k1 x4_1 a0 t112 _ A5.out).mono ?_); rintro e w' ⟨rfl, ⟨nd, rfl⟩⟩; refine ⟨_, rfl, ?_⟩))
          go_roundg k1
          case measure => have := HK1.out; omega
          case rel => exact ⟨(x3_1), (t112), (x5_1 / 2), (by first | rfl | (simp; done) | (simp [*]; done)), (by first | rfl | (simp; done) | (simp [*]; done)), (by first | rfl | (simp; done) | (simp [*]; done)), H', ⟨by have := HK1.out; omega⟩, by repeat (first | exact Drawn0.refl _ | apply Drawn0.step)⟩

/-! ### tower_Root: function 40 -/
def tower_Root.l0 : Nat → Int → Option (Int)
  | 0, _ => none
  | k + 1, x1 => if x1 ≤ 255 then ((tower_sum.f k ((x1) % 256)).bind fun t113 => (if t113 = 0 then (some ((x1) % 256)) else (tower_Root.l0 k (wrap64 (x1 + 1))))) else (some 0)
def tower_Root.f (k : Nat)  : Option (Int) := tower_Root.l0 k 2
theorem tower_Root.mono_l : ∀ k, (∀ y0, LeO (tower_Root.l0 k y0) (tower_Root.l0 (k + 1) y0))
  | 0 => fun _ r h => by simp [tower_Root.l0] at h
  | k + 1 => by
    have ih0 := tower_Root.mono_l k
    · intro y0
      unfold tower_Root.l0
      repeat' first
      | (with_reducible exact ih0 _)
      | (with_reducible exact tower_sum.mono _ _)
      | (with_reducible exact LeO.refl _)
      | (with_reducible exact LeO.none _)
      | (with_reducible refine LeO.ite ?_ ?_)
      | (with_reducible refine LeO.bind ?_ (fun _ => ?_))
      | exact ih0 _
      | exact tower_sum.mono _ _
      | exact LeO.none _
      | refine LeO.ite ?_ ?_
      | refine LeO.bind ?_ (fun _ => ?_)
theorem tower_Root.mono : ∀ k, LeO (tower_Root.f k ) (tower_Root.f (k + 1) ) := by
  intro  k
  have ih0 := tower_Root.mono_l k
  unfold tower_Root.f
  repeat' first
      | (with_reducible exact ih0 _)
      | (with_reducible exact tower_sum.mono _ _)
      | (with_reducible exact LeO.refl _)
      | (with_reducible exact LeO.none _)
      | (with_reducible refine LeO.ite ?_ ?_)
      | (with_reducible refine LeO.bind ?_ (fun _ => ?_))
      | exact ih0 _
      | exact tower_sum.mono _ _
      | exact LeO.none _
      | refine LeO.ite ?_ ?_
      | refine LeO.bind ?_ (fun _ => ?_)
set_option maxHeartbeats 8000000 in
set_option maxRecDepth 100000 in
theorem tower_Root.calls (k : Nat)  (r : Int) (w : World) (h : tower_Root.f k  = some r) :
    Calls Try.prog 40 #[] w fun e w' => e = .returned (.int .u8 r) ∧ Drawn0 w w' := by
  have H : (tower_Root.l0 k 2) = some r := h
  clear h
  have H' := Aside0.mk H
  clear H
  go_enter Try.func40, Try.ntmps40
  go_wp2
  go_loopg [1] k (fun kq v1 w' => ∃ (x1_1 : Int), v1 = .int .i64 x1_1 ∧ Aside0 (tower_Root.l0 kq x1_1 = some r) ∧ Aside0 (kq ≤ k) ∧ Drawn0 w w')
  case atStart => exact ⟨(2), (by first | rfl | (simp; done) | (simp [*]; done)), H', ⟨Nat.le_refl _⟩, by repeat (first | exact Drawn0.refl _ | apply Drawn0.step)⟩
  case round =>
    clear H'
    obtain ⟨x1_1, rfl, HA, HK1, ⟨m1, rfl⟩⟩ := hrel
    cases gk with
    | zero => exact absurd HA.out (by simp [tower_Root.l0])
    | succ k1 =>
      have H := HA.out
      clear HA
      simp only [tower_Root.l0] at H
      by_cases c1 : x1_1 ≤ 255
      · rw [if_pos c1] at H
        have c1b0 : decide (x1_1 ≤ 255) = true := decide_eq_true c1
        clear c1
        replace H := Option.bind_eq_some_iff.mp H
        obtain ⟨t113, A20, H⟩ := H
        replace H : (if t113 = 0 then (some ((x1_1) % 256)) else (tower_Root.l0 k1 (wrap64 (x1_1 + 1)))) = some r := H
        have A2 := Aside0.mk A20
        clear A20
        by_cases c3 : t113 = 0
        · rw [if_pos c3] at H
          have c3b0 : (t113 == 0) = true := beq_iff_eq.mpr c3
          have c3b1 : (t113 != 0) = false := bne_eq_false_iff_eq.mpr c3
          clear c3
          obtain rfl := Option.some.inj H
          go_wp2_with (first | ((with_reducible refine gate_callee (f := 93) rfl ?_); refine goesL_ (some 8) rfl rfl Try.func93 (by kernel_rfl) rfl #[.int .u8 ((x1_1) % 256)] rfl (by (try simp only [List.map_toArray, List.map_cons, List.map_nil]); first | done | rfl | (simp only [List.length_drop, List.length_take]; rfl)) ?_; (with_reducible refine (tower_sum.calls k1 ((x1_1) % 256) t113 _ A2.out).mono ?_); rintro e w' ⟨rfl, ⟨nd, rfl⟩⟩; refine ⟨_, rfl, ?_⟩))
          go_ret
          exact ⟨by first | rfl | (simp; done) | (simp [*]; done), by repeat (first | exact Drawn0.refl _ | apply Drawn0.step)⟩
        · rw [if_neg c3] at H
          have c3b0 : (t113 == 0) = false := beq_eq_false_iff_ne.mpr c3
          have c3b1 : (t113 != 0) = true := bne_iff_ne.mpr c3
          have H' := Aside0.mk H
          clear H
          go_wp2_with (first | ((with_reducible refine gate_callee (f := 93) rfl ?_); refine goesL_ (some 8) rfl rfl Try.func93 (by kernel_rfl) rfl #[.int .u8 ((x1_1) % 256)] rfl (by (try simp only [List.map_toArray, List.map_cons, List.map_nil]); first | done | rfl | (simp only [List.length_drop, List.length_take]; rfl)) ?_; (with_reducible refine (tower_sum.calls k1 ((x1_1) % 256) t113 _ A2.out).mono ?_); rintro e w' ⟨rfl, ⟨nd, rfl⟩⟩; refine ⟨_, rfl, ?_⟩))
          go_roundg k1
          case measure => have := HK1.out; omega
          case rel => exact ⟨(wrap64 (x1_1 + 1)), (by first | rfl | (simp; done) | (simp [*]; done)), H', ⟨by have := HK1.out; omega⟩, by repeat (first | exact Drawn0.refl _ | apply Drawn0.step)⟩
      · rw [if_neg c1] at H
        have c1b0 : decide (x1_1 ≤ 255) = false := decide_eq_false c1
        clear c1
        obtain rfl := Option.some.inj H
        go_wp2
        go_ret
        exact ⟨by first | rfl | (simp; done) | (simp [*]; done), by repeat (first | exact Drawn0.refl _ | apply Drawn0.step)⟩

-- NOT PRINTED: function 134 (mat_Flip)

-- NOT PRINTED: function 126 (mat_Columns)

-- NOT PRINTED: function 136 (mat_One)

-- NOT PRINTED: function 141 (mat_clear)

-- NOT PRINTED: function 135 (mat_reduce)

-- NOT PRINTED: function 127 (mat_Inv)

-- NOT PRINTED: function 118 (tower_Field_make1)

-- NOT PRINTED: function 86 (tower_Field_own)

-- NOT PRINTED: function 30 (tower_Field_In)

/-! ### visorref04_Mul: function 34 -/
mutual
def visorref04_Mul.l0 : Nat → Int → Int → Int → Int → Option (Int)
  | 0, _, _, _, _ => none
  | k + 1, x1, x5, x6, x7 => if x7 < 4 then (if 0 ≤ (IntKind.u64.wrap (x7)) then (if (Int.tmod (shr .i64 (wrap64 (x1)) (IntKind.u64.wrap (x7))) 2) = 1 then (visorref04_Mul.l0 k x1 (Go.bits .xor .i64 x5 x6) (wrap64 (x6 * 2)) (wrap64 (x7 + 1))) else (visorref04_Mul.l0 k x1 x5 (wrap64 (x6 * 2)) (wrap64 (x7 + 1)))) else (none)) else (visorref04_Mul.l1 k x5 6)
def visorref04_Mul.l1 : Nat → Int → Int → Option (Int)
  | 0, _, _ => none
  | k + 1, x5, x8 => if x8 ≥ 4 then (if 0 ≤ (IntKind.u64.wrap (x8)) then (if (Int.tmod (shr .i64 x5 (IntKind.u64.wrap (x8))) 2) = 1 then (if 0 ≤ (IntKind.u64.wrap (wrap64 (x8 - 4))) then (visorref04_Mul.l1 k (Go.bits .xor .i64 x5 (shl .i64 19 (IntKind.u64.wrap (wrap64 (x8 - 4))))) (wrap64 (x8 - 1))) else (none)) else (visorref04_Mul.l1 k x5 (wrap64 (x8 - 1)))) else (none)) else (some ((x5) % 256))
end
def visorref04_Mul.f (k : Nat) (a0 : Int) (a1 : Int) : Option (Int) := visorref04_Mul.l0 k a1 0 (wrap64 (Int.tmod a0 16)) 0
theorem visorref04_Mul.mono_l : ∀ k, (∀ y0 y1 y2 y3, LeO (visorref04_Mul.l0 k y0 y1 y2 y3) (visorref04_Mul.l0 (k + 1) y0 y1 y2 y3)) ∧ (∀ y0 y1, LeO (visorref04_Mul.l1 k y0 y1) (visorref04_Mul.l1 (k + 1) y0 y1))
  | 0 => ⟨fun _ _ _ _ r h => by simp [visorref04_Mul.l0] at h, fun _ _ r h => by simp [visorref04_Mul.l1] at h⟩
  | k + 1 => by
    obtain ⟨ih0, ih1⟩ := visorref04_Mul.mono_l k
    refine ⟨?_, ?_⟩
    · intro y0 y1 y2 y3
      unfold visorref04_Mul.l0
      repeat' first
      | (with_reducible exact ih0 _ _ _ _)
      | (with_reducible exact ih1 _ _)
      | (with_reducible exact LeO.refl _)
      | (with_reducible exact LeO.none _)
      | (with_reducible refine LeO.ite ?_ ?_)
      | (with_reducible refine LeO.bind ?_ (fun _ => ?_))
      | exact ih0 _ _ _ _
      | exact ih1 _ _
      | exact LeO.none _
      | refine LeO.ite ?_ ?_
      | refine LeO.bind ?_ (fun _ => ?_)
    · intro y0 y1
      unfold visorref04_Mul.l1
      repeat' first
      | (with_reducible exact ih0 _ _ _ _)
      | (with_reducible exact ih1 _ _)
      | (with_reducible exact LeO.refl _)
      | (with_reducible exact LeO.none _)
      | (with_reducible refine LeO.ite ?_ ?_)
      | (with_reducible refine LeO.bind ?_ (fun _ => ?_))
      | exact ih0 _ _ _ _
      | exact ih1 _ _
      | exact LeO.none _
      | refine LeO.ite ?_ ?_
      | refine LeO.bind ?_ (fun _ => ?_)
theorem visorref04_Mul.mono : ∀ a0 a1 k, LeO (visorref04_Mul.f k a0 a1) (visorref04_Mul.f (k + 1) a0 a1) := by
  intro a0 a1 k
  obtain ⟨ih0, ih1⟩ := visorref04_Mul.mono_l k
  unfold visorref04_Mul.f
  repeat' first
      | (with_reducible exact ih0 _ _ _ _)
      | (with_reducible exact ih1 _ _)
      | (with_reducible exact LeO.refl _)
      | (with_reducible exact LeO.none _)
      | (with_reducible refine LeO.ite ?_ ?_)
      | (with_reducible refine LeO.bind ?_ (fun _ => ?_))
      | exact ih0 _ _ _ _
      | exact ih1 _ _
      | exact LeO.none _
      | refine LeO.ite ?_ ?_
      | refine LeO.bind ?_ (fun _ => ?_)
set_option maxHeartbeats 8000000 in
set_option maxRecDepth 100000 in
theorem visorref04_Mul.calls (k : Nat) (a0 : Int) (a1 : Int) (r : Int) (w : World) (h : visorref04_Mul.f k a0 a1 = some r) :
    Calls Try.prog 34 #[.int .u8 a0, .int .u8 a1] w fun e w' => e = .returned (.int .u8 r) ∧ Drawn0 w w' := by
  have H : (visorref04_Mul.l0 k a1 0 (wrap64 (Int.tmod a0 16)) 0) = some r := h
  clear h
  have H' := Aside0.mk H
  clear H
  go_enter Try.func34, Try.ntmps34
  go_wp2
  go_loopg [5, 6, 7] k (fun kq v5 v6 v7 w' => ∃ (x5_1 : Int) (x6_1 : Int) (x7_1 : Int), v5 = .int .i64 x5_1 ∧ v6 = .int .i64 x6_1 ∧ v7 = .int .i64 x7_1 ∧ Aside0 (visorref04_Mul.l0 kq a1 x5_1 x6_1 x7_1 = some r) ∧ Aside0 (kq ≤ k) ∧ Drawn0 w w')
  case atStart => exact ⟨(0), (wrap64 (Int.tmod a0 16)), (0), (by first | rfl | (simp; done) | (simp [*]; done)), (by first | rfl | (simp; done) | (simp [*]; done)), (by first | rfl | (simp; done) | (simp [*]; done)), H', ⟨Nat.le_refl _⟩, by repeat (first | exact Drawn0.refl _ | apply Drawn0.step)⟩
  case round =>
    clear H'
    try clear p2
    obtain ⟨x5_1, x6_1, x7_1, rfl, rfl, rfl, HA, HK1, ⟨m1, rfl⟩⟩ := hrel
    cases gk with
    | zero => exact absurd HA.out (by simp [visorref04_Mul.l0])
    | succ k1 =>
      have H := HA.out
      clear HA
      simp only [visorref04_Mul.l0] at H
      by_cases c3 : x7_1 < 4
      · rw [if_pos c3] at H
        have c3b0 : decide (x7_1 < 4) = true := decide_eq_true c3
        clear c3
        obtain ⟨ji4, hji4⟩ : ∃ j_ : Int, (IntKind.u64.wrap (x7_1)) = j_ := ⟨_, rfl⟩
        replace H : (if 0 ≤ (ji4) then (if (Int.tmod (shr .i64 (wrap64 (a1)) (ji4)) 2) = 1 then (visorref04_Mul.l0 k1 a1 (Go.bits .xor .i64 x5_1 x6_1) (wrap64 (x6_1 * 2)) (wrap64 (x7_1 + 1))) else (visorref04_Mul.l0 k1 a1 x5_1 (wrap64 (x6_1 * 2)) (wrap64 (x7_1 + 1)))) else (none)) = some r := by first | (rw [hji4] at H; exact H) | (simp only [hji4] at H ⊢; exact H)
        by_cases c5 : 0 ≤ (ji4)
        · rw [if_pos c5] at H
          have c5b0 := eq_true c5
          have c5b1 : decide (0 ≤ (ji4)) = true := decide_eq_true c5
          clear c5
          obtain ⟨ji6, hji6⟩ : ∃ j_ : Int, (shr .i64 (wrap64 (a1)) (ji4)) = j_ := ⟨_, rfl⟩
          replace H : (if (Int.tmod (ji6) 2) = 1 then (visorref04_Mul.l0 k1 a1 (Go.bits .xor .i64 x5_1 x6_1) (wrap64 (x6_1 * 2)) (wrap64 (x7_1 + 1))) else (visorref04_Mul.l0 k1 a1 x5_1 (wrap64 (x6_1 * 2)) (wrap64 (x7_1 + 1)))) = some r := by first | (rw [hji6] at H; exact H) | (simp only [hji6] at H ⊢; exact H)
          have hji6_ : ((wrap64 (a1)) / 2 ^ min (ji4).toNat 64) = ji6 := hji6
          have hji6z : (ji4) ≤ 64 → ((wrap64 (a1)) / 2 ^ (ji4).toNat) = ji6 := shr_small hji6
          by_cases c7 : (Int.tmod (ji6) 2) = 1
          · rw [if_pos c7] at H
            have c7b0 : ((Int.tmod (ji6) 2) == 1) = true := beq_iff_eq.mpr c7
            have c7b1 : ((Int.tmod (ji6) 2) != 1) = false := bne_eq_false_iff_eq.mpr c7
            clear c7
            have H' := Aside0.mk H
            clear H
            go_wp2
            go_roundg k1
            case measure => have := HK1.out; omega
            case rel => exact ⟨(Go.bits .xor .i64 x5_1 x6_1), (wrap64 (x6_1 * 2)), (wrap64 (x7_1 + 1)), (by first | rfl | (simp; done) | (simp [*]; done)), (by first | rfl | (simp; done) | (simp [*]; done)), (by first | rfl | (simp; done) | (simp [*]; done)), H', ⟨by have := HK1.out; omega⟩, by repeat (first | exact Drawn0.refl _ | apply Drawn0.step)⟩
          · rw [if_neg c7] at H
            have c7b0 : ((Int.tmod (ji6) 2) == 1) = false := beq_eq_false_iff_ne.mpr c7
            have c7b1 : ((Int.tmod (ji6) 2) != 1) = true := bne_iff_ne.mpr c7
            have H' := Aside0.mk H
            clear H
            go_wp2
            go_roundg k1
            case measure => have := HK1.out; omega
            case rel => exact ⟨(x5_1), (wrap64 (x6_1 * 2)), (wrap64 (x7_1 + 1)), (by first | rfl | (simp; done) | (simp [*]; done)), (by first | rfl | (simp; done) | (simp [*]; done)), (by first | rfl | (simp; done) | (simp [*]; done)), H', ⟨by have := HK1.out; omega⟩, by repeat (first | exact Drawn0.refl _ | apply Drawn0.step)⟩
        · rw [if_neg c5] at H
          exact absurd H (by simp)
      · rw [if_neg c3] at H
        have c3b0 : decide (x7_1 < 4) = false := decide_eq_false c3
        clear c3
        have H' := Aside0.mk H
        clear H
        go_wp2
        go_loopg [5, 8] k1 (fun kq v5 v8 w' => ∃ (x5_2 : Int) (x8_2 : Int), v5 = .int .i64 x5_2 ∧ v8 = .int .i64 x8_2 ∧ Aside0 (visorref04_Mul.l1 kq x5_2 x8_2 = some r) ∧ Aside0 (kq ≤ k1) ∧ Drawn0 w w')
        case atStart => exact ⟨(x5_1), (6), (by first | rfl | (simp; done) | (simp [*]; done)), (by first | rfl | (simp; done) | (simp [*]; done)), H', ⟨Nat.le_refl _⟩, by repeat (first | exact Drawn0.refl _ | apply Drawn0.step)⟩
        case round =>
          clear H'
          try clear p2
          try clear c3
          try clear c3b0
          try clear c5
          try clear c5b0
          try clear c5b1
          try clear p6
          try clear c7
          try clear c7b0
          try clear c7b1
          try clear p2
          obtain ⟨x5_2, x8_2, rfl, rfl, HA, HK2, ⟨m2, rfl⟩⟩ := hrel
          cases gk with
          | zero => exact absurd HA.out (by simp [visorref04_Mul.l1])
          | succ k2 =>
            have H := HA.out
            clear HA
            simp only [visorref04_Mul.l1] at H
            by_cases c8 : x8_2 ≥ 4
            · rw [if_pos c8] at H
              have c8b0 : decide (4 ≤ x8_2) = true := decide_eq_true c8
              clear c8
              obtain ⟨ji9, hji9⟩ : ∃ j_ : Int, (IntKind.u64.wrap (x8_2)) = j_ := ⟨_, rfl⟩
              replace H : (if 0 ≤ (ji9) then (if (Int.tmod (shr .i64 x5_2 (ji9)) 2) = 1 then (if 0 ≤ (IntKind.u64.wrap (wrap64 (x8_2 - 4))) then (visorref04_Mul.l1 k2 (Go.bits .xor .i64 x5_2 (shl .i64 19 (IntKind.u64.wrap (wrap64 (x8_2 - 4))))) (wrap64 (x8_2 - 1))) else (none)) else (visorref04_Mul.l1 k2 x5_2 (wrap64 (x8_2 - 1)))) else (none)) = some r := by first | (rw [hji9] at H; exact H) | (simp only [hji9] at H ⊢; exact H)
              by_cases c10 : 0 ≤ (ji9)
              · rw [if_pos c10] at H
                have c10b0 := eq_true c10
                have c10b1 : decide (0 ≤ (ji9)) = true := decide_eq_true c10
                clear c10
                obtain ⟨ji11, hji11⟩ : ∃ j_ : Int, (shr .i64 x5_2 (ji9)) = j_ := ⟨_, rfl⟩
                replace H : (if (Int.tmod (ji11) 2) = 1 then (if 0 ≤ (IntKind.u64.wrap (wrap64 (x8_2 - 4))) then (visorref04_Mul.l1 k2 (Go.bits .xor .i64 x5_2 (shl .i64 19 (IntKind.u64.wrap (wrap64 (x8_2 - 4))))) (wrap64 (x8_2 - 1))) else (none)) else (visorref04_Mul.l1 k2 x5_2 (wrap64 (x8_2 - 1)))) = some r := by first | (rw [hji11] at H; exact H) | (simp only [hji11] at H ⊢; exact H)
                have hji11_ : (x5_2 / 2 ^ min (ji9).toNat 64) = ji11 := hji11
                have hji11z : (ji9) ≤ 64 → (x5_2 / 2 ^ (ji9).toNat) = ji11 := shr_small hji11
                by_cases c12 : (Int.tmod (ji11) 2) = 1
                · rw [if_pos c12] at H
                  have c12b0 : ((Int.tmod (ji11) 2) == 1) = true := beq_iff_eq.mpr c12
                  have c12b1 : ((Int.tmod (ji11) 2) != 1) = false := bne_eq_false_iff_eq.mpr c12
                  clear c12
                  obtain ⟨ji13, hji13⟩ : ∃ j_ : Int, (IntKind.u64.wrap (wrap64 (x8_2 - 4))) = j_ := ⟨_, rfl⟩
                  replace H : (if 0 ≤ (ji13) then (visorref04_Mul.l1 k2 (Go.bits .xor .i64 x5_2 (shl .i64 19 (ji13))) (wrap64 (x8_2 - 1))) else (none)) = some r := by first | (rw [hji13] at H; exact H) | (simp only [hji13] at H ⊢; exact H)
                  by_cases c14 : 0 ≤ (ji13)
                  · rw [if_pos c14] at H
                    have c14b0 := eq_true c14
                    have c14b1 : decide (0 ≤ (ji13)) = true := decide_eq_true c14
                    clear c14
                    obtain ⟨ji15, hji15⟩ : ∃ j_ : Int, (shl .i64 19 (ji13)) = j_ := ⟨_, rfl⟩
                    replace H : (visorref04_Mul.l1 k2 (Go.bits .xor .i64 x5_2 (ji15)) (wrap64 (x8_2 - 1))) = some r := by first | (rw [hji15] at H; exact H) | (simp only [hji15] at H ⊢; exact H)
                    have hji15_ : (IntKind.i64.wrap (19 * 2 ^ min (ji13).toNat 64)) = ji15 := hji15
                    have hji15z : (ji13) ≤ 64 → (IntKind.i64.wrap (19 * 2 ^ (ji13).toNat)) = ji15 := shl_small hji15
                    have hji15y : (wrap64 (19 * 2 ^ min (ji13).toNat 64)) = ji15 := (i64_w _).symm.trans hji15_
                    have hji15x : (ji13) ≤ 64 → (wrap64 (19 * 2 ^ (ji13).toNat)) = ji15 := fun h_ => (i64_w _).symm.trans (hji15z h_)
                    have H' := Aside0.mk H
                    clear H
                    go_wp2
                    go_roundg k2
                    case measure => have := HK1.out; have := HK2.out; omega
                    case rel => exact ⟨(Go.bits .xor .i64 x5_2 (ji15)), (wrap64 (x8_2 - 1)), (by first | rfl | (simp; done) | (simp only [← hji15] <;> (first | rfl | simp)) | (simp [*]; done)), (by first | rfl | (simp; done) | (simp [*]; done)), H', ⟨by have := HK1.out; have := HK2.out; omega⟩, by repeat (first | exact Drawn0.refl _ | apply Drawn0.step)⟩
                  · rw [if_neg c14] at H
                    exact absurd H (by simp)
                · rw [if_neg c12] at H
                  have c12b0 : ((Int.tmod (ji11) 2) == 1) = false := beq_eq_false_iff_ne.mpr c12
                  have c12b1 : ((Int.tmod (ji11) 2) != 1) = true := bne_iff_ne.mpr c12
                  have H' := Aside0.mk H
                  clear H
                  go_wp2
                  go_roundg k2
                  case measure => have := HK1.out; have := HK2.out; omega
                  case rel => exact ⟨(x5_2), (wrap64 (x8_2 - 1)), (by first | rfl | (simp; done) | (simp [*]; done)), (by first | rfl | (simp; done) | (simp [*]; done)), H', ⟨by have := HK1.out; have := HK2.out; omega⟩, by repeat (first | exact Drawn0.refl _ | apply Drawn0.step)⟩
              · rw [if_neg c10] at H
                exact absurd H (by simp)
            · rw [if_neg c8] at H
              have c8b0 : decide (4 ≤ x8_2) = false := decide_eq_false c8
              clear c8
              obtain rfl := Option.some.inj H
              go_wp2
              go_ret
              exact ⟨by first | rfl | (simp; done) | (simp [*]; done), by repeat (first | exact Drawn0.refl _ | apply Drawn0.step)⟩

/-! ### visorref06_Mul: function 36 -/
def visorref06_Mul.f (k : Nat) (a0 : Int) (a1 : Int) : Option (Int) := (visorref04_Mul.f k ((Int.tdiv a0 16) % 256) ((Int.tdiv a1 16) % 256)).bind fun t114 => ((visorref04_Mul.f k ((Int.tdiv a0 16) % 256) (Int.tmod a1 16)).bind fun t115 => ((visorref04_Mul.f k (Int.tmod a0 16) ((Int.tdiv a1 16) % 256)).bind fun t116 => ((visorref04_Mul.f k (Int.tmod a0 16) (Int.tmod a1 16)).bind fun t117 => ((visorref04_Mul.f k t114 8).bind fun t118 => (some (((((Go.bits .xor .u8 (Go.bits .xor .u8 t115 t116) t114) * 16) % 256) + (Go.bits .xor .u8 t117 t118)) % 256))))))
theorem visorref06_Mul.mono : ∀ a0 a1 k, LeO (visorref06_Mul.f k a0 a1) (visorref06_Mul.f (k + 1) a0 a1) := by
  intro a0 a1 k
  unfold visorref06_Mul.f
  repeat' first
      | (with_reducible exact visorref04_Mul.mono _ _ _)
      | (with_reducible exact LeO.refl _)
      | (with_reducible exact LeO.none _)
      | (with_reducible refine LeO.ite ?_ ?_)
      | (with_reducible refine LeO.bind ?_ (fun _ => ?_))
      | exact visorref04_Mul.mono _ _ _
      | exact LeO.none _
      | refine LeO.ite ?_ ?_
      | refine LeO.bind ?_ (fun _ => ?_)
set_option maxHeartbeats 8000000 in
set_option maxRecDepth 100000 in
theorem visorref06_Mul.calls (k : Nat) (a0 : Int) (a1 : Int) (r : Int) (w : World) (h : visorref06_Mul.f k a0 a1 = some r) :
    Calls Try.prog 36 #[.int .u8 a0, .int .u8 a1] w fun e w' => e = .returned (.int .u8 r) ∧ Drawn0 w w' := by
  have H : ((visorref04_Mul.f k ((Int.tdiv a0 16) % 256) ((Int.tdiv a1 16) % 256)).bind fun t114 => ((visorref04_Mul.f k ((Int.tdiv a0 16) % 256) (Int.tmod a1 16)).bind fun t115 => ((visorref04_Mul.f k (Int.tmod a0 16) ((Int.tdiv a1 16) % 256)).bind fun t116 => ((visorref04_Mul.f k (Int.tmod a0 16) (Int.tmod a1 16)).bind fun t117 => ((visorref04_Mul.f k t114 8).bind fun t118 => (some (((((Go.bits .xor .u8 (Go.bits .xor .u8 t115 t116) t114) * 16) % 256) + (Go.bits .xor .u8 t117 t118)) % 256))))))) = some r := h
  clear h
  replace H := Option.bind_eq_some_iff.mp H
  obtain ⟨t114, A30, H⟩ := H
  replace H : ((visorref04_Mul.f k ((Int.tdiv a0 16) % 256) (Int.tmod a1 16)).bind fun t115 => ((visorref04_Mul.f k (Int.tmod a0 16) ((Int.tdiv a1 16) % 256)).bind fun t116 => ((visorref04_Mul.f k (Int.tmod a0 16) (Int.tmod a1 16)).bind fun t117 => ((visorref04_Mul.f k t114 8).bind fun t118 => (some (((((Go.bits .xor .u8 (Go.bits .xor .u8 t115 t116) t114) * 16) % 256) + (Go.bits .xor .u8 t117 t118)) % 256)))))) = some r := H
  have A3 := Aside0.mk A30
  clear A30
  replace H := Option.bind_eq_some_iff.mp H
  obtain ⟨t115, A40, H⟩ := H
  replace H : ((visorref04_Mul.f k (Int.tmod a0 16) ((Int.tdiv a1 16) % 256)).bind fun t116 => ((visorref04_Mul.f k (Int.tmod a0 16) (Int.tmod a1 16)).bind fun t117 => ((visorref04_Mul.f k t114 8).bind fun t118 => (some (((((Go.bits .xor .u8 (Go.bits .xor .u8 t115 t116) t114) * 16) % 256) + (Go.bits .xor .u8 t117 t118)) % 256))))) = some r := H
  have A4 := Aside0.mk A40
  clear A40
  replace H := Option.bind_eq_some_iff.mp H
  obtain ⟨t116, A50, H⟩ := H
  replace H : ((visorref04_Mul.f k (Int.tmod a0 16) (Int.tmod a1 16)).bind fun t117 => ((visorref04_Mul.f k t114 8).bind fun t118 => (some (((((Go.bits .xor .u8 (Go.bits .xor .u8 t115 t116) t114) * 16) % 256) + (Go.bits .xor .u8 t117 t118)) % 256)))) = some r := H
  have A5 := Aside0.mk A50
  clear A50
  replace H := Option.bind_eq_some_iff.mp H
  obtain ⟨t117, A60, H⟩ := H
  replace H : ((visorref04_Mul.f k t114 8).bind fun t118 => (some (((((Go.bits .xor .u8 (Go.bits .xor .u8 t115 t116) t114) * 16) % 256) + (Go.bits .xor .u8 t117 t118)) % 256))) = some r := H
  have A6 := Aside0.mk A60
  clear A60
  replace H := Option.bind_eq_some_iff.mp H
  obtain ⟨t118, A70, H⟩ := H
  replace H : (some (((((Go.bits .xor .u8 (Go.bits .xor .u8 t115 t116) t114) * 16) % 256) + (Go.bits .xor .u8 t117 t118)) % 256)) = some r := H
  have A7 := Aside0.mk A70
  clear A70
  obtain rfl := Option.some.inj H
  go_enter Try.func36, Try.ntmps36
  go_wp2_with (first | ((with_reducible refine gate_callee (f := 34) rfl ?_); refine goesL_ (some 12) rfl rfl Try.func34 (by kernel_rfl) rfl #[.int .u8 ((Int.tdiv a0 16) % 256), .int .u8 ((Int.tdiv a1 16) % 256)] rfl (by (try simp only [List.map_toArray, List.map_cons, List.map_nil]); first | done | rfl | (simp only [List.length_drop, List.length_take]; rfl)) ?_; (with_reducible refine (visorref04_Mul.calls k ((Int.tdiv a0 16) % 256) ((Int.tdiv a1 16) % 256) t114 _ A3.out).mono ?_); rintro e w' ⟨rfl, ⟨nd, rfl⟩⟩; refine ⟨_, rfl, ?_⟩) | ((with_reducible refine gate_callee (f := 34) rfl ?_); refine goesL_ (some 17) rfl rfl Try.func34 (by kernel_rfl) rfl #[.int .u8 ((Int.tdiv a0 16) % 256), .int .u8 (Int.tmod a1 16)] rfl (by (try simp only [List.map_toArray, List.map_cons, List.map_nil]); first | done | rfl | (simp only [List.length_drop, List.length_take]; rfl)) ?_; (with_reducible refine (visorref04_Mul.calls k ((Int.tdiv a0 16) % 256) (Int.tmod a1 16) t115 _ A4.out).mono ?_); rintro e w' ⟨rfl, ⟨nd, rfl⟩⟩; refine ⟨_, rfl, ?_⟩) | ((with_reducible refine gate_callee (f := 34) rfl ?_); refine goesL_ (some 22) rfl rfl Try.func34 (by kernel_rfl) rfl #[.int .u8 (Int.tmod a0 16), .int .u8 ((Int.tdiv a1 16) % 256)] rfl (by (try simp only [List.map_toArray, List.map_cons, List.map_nil]); first | done | rfl | (simp only [List.length_drop, List.length_take]; rfl)) ?_; (with_reducible refine (visorref04_Mul.calls k (Int.tmod a0 16) ((Int.tdiv a1 16) % 256) t116 _ A5.out).mono ?_); rintro e w' ⟨rfl, ⟨nd, rfl⟩⟩; refine ⟨_, rfl, ?_⟩) | ((with_reducible refine gate_callee (f := 34) rfl ?_); refine goesL_ (some 30) rfl rfl Try.func34 (by kernel_rfl) rfl #[.int .u8 (Int.tmod a0 16), .int .u8 (Int.tmod a1 16)] rfl (by (try simp only [List.map_toArray, List.map_cons, List.map_nil]); first | done | rfl | (simp only [List.length_drop, List.length_take]; rfl)) ?_; (with_reducible refine (visorref04_Mul.calls k (Int.tmod a0 16) (Int.tmod a1 16) t117 _ A6.out).mono ?_); rintro e w' ⟨rfl, ⟨nd, rfl⟩⟩; refine ⟨_, rfl, ?_⟩) | ((with_reducible refine gate_callee (f := 34) rfl ?_); refine goesL_ (some 32) rfl rfl Try.func34 (by kernel_rfl) rfl #[.int .u8 t114, .int .u8 8] rfl (by (try simp only [List.map_toArray, List.map_cons, List.map_nil]); first | done | rfl | (simp only [List.length_drop, List.length_take]; rfl)) ?_; (with_reducible refine (visorref04_Mul.calls k t114 8 t118 _ A7.out).mono ?_); rintro e w' ⟨rfl, ⟨nd, rfl⟩⟩; refine ⟨_, rfl, ?_⟩))
  go_ret
  exact ⟨by first | rfl | (simp; done) | (simp [*]; done), by repeat (first | exact Drawn0.refl _ | apply Drawn0.step)⟩

/-! ### visorref06_Pow: function 94 -/
def visorref06_Pow.l0 : Nat → Int → Int → Int → Int → Option (Int)
  | 0, _, _, _, _ => none
  | k + 1, x0, x1, x5, x6 => if x6 < x1 then ((visorref06_Mul.f k x5 x0).bind fun t119 => (visorref06_Pow.l0 k x0 x1 t119 (wrap64 (x6 + 1)))) else (some x5)
def visorref06_Pow.f (k : Nat) (a0 : Int) (a1 : Int) : Option (Int) := visorref06_Pow.l0 k a0 a1 1 0
theorem visorref06_Pow.mono_l : ∀ k, (∀ y0 y1 y2 y3, LeO (visorref06_Pow.l0 k y0 y1 y2 y3) (visorref06_Pow.l0 (k + 1) y0 y1 y2 y3))
  | 0 => fun _ _ _ _ r h => by simp [visorref06_Pow.l0] at h
  | k + 1 => by
    have ih0 := visorref06_Pow.mono_l k
    · intro y0 y1 y2 y3
      unfold visorref06_Pow.l0
      repeat' first
      | (with_reducible exact ih0 _ _ _ _)
      | (with_reducible exact visorref06_Mul.mono _ _ _)
      | (with_reducible exact LeO.refl _)
      | (with_reducible exact LeO.none _)
      | (with_reducible refine LeO.ite ?_ ?_)
      | (with_reducible refine LeO.bind ?_ (fun _ => ?_))
      | exact ih0 _ _ _ _
      | exact visorref06_Mul.mono _ _ _
      | exact LeO.none _
      | refine LeO.ite ?_ ?_
      | refine LeO.bind ?_ (fun _ => ?_)
theorem visorref06_Pow.mono : ∀ a0 a1 k, LeO (visorref06_Pow.f k a0 a1) (visorref06_Pow.f (k + 1) a0 a1) := by
  intro a0 a1 k
  have ih0 := visorref06_Pow.mono_l k
  unfold visorref06_Pow.f
  repeat' first
      | (with_reducible exact ih0 _ _ _ _)
      | (with_reducible exact visorref06_Mul.mono _ _ _)
      | (with_reducible exact LeO.refl _)
      | (with_reducible exact LeO.none _)
      | (with_reducible refine LeO.ite ?_ ?_)
      | (with_reducible refine LeO.bind ?_ (fun _ => ?_))
      | exact ih0 _ _ _ _
      | exact visorref06_Mul.mono _ _ _
      | exact LeO.none _
      | refine LeO.ite ?_ ?_
      | refine LeO.bind ?_ (fun _ => ?_)
set_option maxHeartbeats 8000000 in
set_option maxRecDepth 100000 in
theorem visorref06_Pow.calls (k : Nat) (a0 : Int) (a1 : Int) (r : Int) (w : World) (h : visorref06_Pow.f k a0 a1 = some r) :
    Calls Try.prog 94 #[.int .u8 a0, .int .i64 a1] w fun e w' => e = .returned (.int .u8 r) ∧ Drawn0 w w' := by
  have H : (visorref06_Pow.l0 k a0 a1 1 0) = some r := h
  clear h
  have H' := Aside0.mk H
  clear H
  go_enter Try.func94, Try.ntmps94
  go_wp2
  go_loopg [5, 6] k (fun kq v5 v6 w' => ∃ (x5_1 : Int) (x6_1 : Int), v5 = .int .u8 x5_1 ∧ v6 = .int .i64 x6_1 ∧ Aside0 (visorref06_Pow.l0 kq a0 a1 x5_1 x6_1 = some r) ∧ Aside0 (kq ≤ k) ∧ Drawn0 w w')
  case atStart => exact ⟨(1), (0), (by first | rfl | (simp; done) | (simp [*]; done)), (by first | rfl | (simp; done) | (simp [*]; done)), H', ⟨Nat.le_refl _⟩, by repeat (first | exact Drawn0.refl _ | apply Drawn0.step)⟩
  case round =>
    clear H'
    try clear p2
    obtain ⟨x5_1, x6_1, rfl, rfl, HA, HK1, ⟨m1, rfl⟩⟩ := hrel
    cases gk with
    | zero => exact absurd HA.out (by simp [visorref06_Pow.l0])
    | succ k1 =>
      have H := HA.out
      clear HA
      simp only [visorref06_Pow.l0] at H
      by_cases c3 : x6_1 < a1
      · rw [if_pos c3] at H
        have c3b0 : decide (x6_1 < a1) = true := decide_eq_true c3
        clear c3
        replace H := Option.bind_eq_some_iff.mp H
        obtain ⟨t119, A40, H⟩ := H
        replace H : (visorref06_Pow.l0 k1 a0 a1 t119 (wrap64 (x6_1 + 1))) = some r := H
        have A4 := Aside0.mk A40
        clear A40
        have H' := Aside0.mk H
        clear H
        go_wp2_with (first | ((with_reducible refine gate_callee (f := 36) rfl ?_); refine goesL_ (some 14) rfl rfl Try.func36 (by kernel_rfl) rfl #[.int .u8 x5_1, .int .u8 a0] rfl (by (try simp only [List.map_toArray, List.map_cons, List.map_nil]); first | done | rfl | (simp only [List.length_drop, List.length_take]; rfl)) ?_; (with_reducible refine (visorref06_Mul.calls k1 x5_1 a0 t119 _ A4.out).mono ?_); rintro e w' ⟨rfl, ⟨nd, rfl⟩⟩; refine ⟨_, rfl, ?_⟩))
        go_roundg k1
        case measure => have := HK1.out; omega
        case rel => exact ⟨(t119), (wrap64 (x6_1 + 1)), (by first | rfl | (simp; done) | (simp [*]; done)), (by first | rfl | (simp; done) | (simp [*]; done)), H', ⟨by have := HK1.out; omega⟩, by repeat (first | exact Drawn0.refl _ | apply Drawn0.step)⟩
      · rw [if_neg c3] at H
        have c3b0 : decide (x6_1 < a1) = false := decide_eq_false c3
        clear c3
        obtain rfl := Option.some.inj H
        go_wp2
        go_ret
        exact ⟨by first | rfl | (simp; done) | (simp [*]; done), by repeat (first | exact Drawn0.refl _ | apply Drawn0.step)⟩

/-! ### visorref06_Root: function 41 -/
def visorref06_Root.l0 : Nat → Int → Option (Int)
  | 0, _ => none
  | k + 1, x1 => if x1 < 256 then ((visorref06_Pow.f k ((x1) % 256) 8).bind fun t120 => ((visorref06_Pow.f k ((x1) % 256) 4).bind fun t121 => ((visorref06_Pow.f k ((x1) % 256) 3).bind fun t122 => (if (Go.bits .xor .u8 (Go.bits .xor .u8 (Go.bits .xor .u8 t120 t121) t122) ((x1) % 256)) = 1 then (some ((x1) % 256)) else (visorref06_Root.l0 k (wrap64 (x1 + 1))))))) else (some 0)
def visorref06_Root.f (k : Nat)  : Option (Int) := visorref06_Root.l0 k 2
theorem visorref06_Root.mono_l : ∀ k, (∀ y0, LeO (visorref06_Root.l0 k y0) (visorref06_Root.l0 (k + 1) y0))
  | 0 => fun _ r h => by simp [visorref06_Root.l0] at h
  | k + 1 => by
    have ih0 := visorref06_Root.mono_l k
    · intro y0
      unfold visorref06_Root.l0
      repeat' first
      | (with_reducible exact ih0 _)
      | (with_reducible exact visorref06_Pow.mono _ _ _)
      | (with_reducible exact LeO.refl _)
      | (with_reducible exact LeO.none _)
      | (with_reducible refine LeO.ite ?_ ?_)
      | (with_reducible refine LeO.bind ?_ (fun _ => ?_))
      | exact ih0 _
      | exact visorref06_Pow.mono _ _ _
      | exact LeO.none _
      | refine LeO.ite ?_ ?_
      | refine LeO.bind ?_ (fun _ => ?_)
theorem visorref06_Root.mono : ∀ k, LeO (visorref06_Root.f k ) (visorref06_Root.f (k + 1) ) := by
  intro  k
  have ih0 := visorref06_Root.mono_l k
  unfold visorref06_Root.f
  repeat' first
      | (with_reducible exact ih0 _)
      | (with_reducible exact visorref06_Pow.mono _ _ _)
      | (with_reducible exact LeO.refl _)
      | (with_reducible exact LeO.none _)
      | (with_reducible refine LeO.ite ?_ ?_)
      | (with_reducible refine LeO.bind ?_ (fun _ => ?_))
      | exact ih0 _
      | exact visorref06_Pow.mono _ _ _
      | exact LeO.none _
      | refine LeO.ite ?_ ?_
      | refine LeO.bind ?_ (fun _ => ?_)
set_option maxHeartbeats 8000000 in
set_option maxRecDepth 100000 in
theorem visorref06_Root.calls (k : Nat)  (r : Int) (w : World) (h : visorref06_Root.f k  = some r) :
    Calls Try.prog 41 #[] w fun e w' => e = .returned (.int .u8 r) ∧ Drawn0 w w' := by
  have H : (visorref06_Root.l0 k 2) = some r := h
  clear h
  have H' := Aside0.mk H
  clear H
  go_enter Try.func41, Try.ntmps41
  go_wp2
  go_loopg [1] k (fun kq v1 w' => ∃ (x1_1 : Int), v1 = .int .i64 x1_1 ∧ Aside0 (visorref06_Root.l0 kq x1_1 = some r) ∧ Aside0 (kq ≤ k) ∧ Drawn0 w w')
  case atStart => exact ⟨(2), (by first | rfl | (simp; done) | (simp [*]; done)), H', ⟨Nat.le_refl _⟩, by repeat (first | exact Drawn0.refl _ | apply Drawn0.step)⟩
  case round =>
    clear H'
    obtain ⟨x1_1, rfl, HA, HK1, ⟨m1, rfl⟩⟩ := hrel
    cases gk with
    | zero => exact absurd HA.out (by simp [visorref06_Root.l0])
    | succ k1 =>
      have H := HA.out
      clear HA
      simp only [visorref06_Root.l0] at H
      by_cases c1 : x1_1 < 256
      · rw [if_pos c1] at H
        have c1b0 : decide (x1_1 < 256) = true := decide_eq_true c1
        clear c1
        replace H := Option.bind_eq_some_iff.mp H
        obtain ⟨t120, A20, H⟩ := H
        replace H : ((visorref06_Pow.f k1 ((x1_1) % 256) 4).bind fun t121 => ((visorref06_Pow.f k1 ((x1_1) % 256) 3).bind fun t122 => (if (Go.bits .xor .u8 (Go.bits .xor .u8 (Go.bits .xor .u8 t120 t121) t122) ((x1_1) % 256)) = 1 then (some ((x1_1) % 256)) else (visorref06_Root.l0 k1 (wrap64 (x1_1 + 1)))))) = some r := H
        have A2 := Aside0.mk A20
        clear A20
        replace H := Option.bind_eq_some_iff.mp H
        obtain ⟨t121, A30, H⟩ := H
        replace H : ((visorref06_Pow.f k1 ((x1_1) % 256) 3).bind fun t122 => (if (Go.bits .xor .u8 (Go.bits .xor .u8 (Go.bits .xor .u8 t120 t121) t122) ((x1_1) % 256)) = 1 then (some ((x1_1) % 256)) else (visorref06_Root.l0 k1 (wrap64 (x1_1 + 1))))) = some r := H
        have A3 := Aside0.mk A30
        clear A30
        replace H := Option.bind_eq_some_iff.mp H
        obtain ⟨t122, A40, H⟩ := H
        replace H : (if (Go.bits .xor .u8 (Go.bits .xor .u8 (Go.bits .xor .u8 t120 t121) t122) ((x1_1) % 256)) = 1 then (some ((x1_1) % 256)) else (visorref06_Root.l0 k1 (wrap64 (x1_1 + 1)))) = some r := H
        have A4 := Aside0.mk A40
        clear A40
        by_cases c5 : (Go.bits .xor .u8 (Go.bits .xor .u8 (Go.bits .xor .u8 t120 t121) t122) ((x1_1) % 256)) = 1
        · rw [if_pos c5] at H
          have c5b0 : ((Go.bits .xor .u8 (Go.bits .xor .u8 (Go.bits .xor .u8 t120 t121) t122) ((x1_1) % 256)) == 1) = true := beq_iff_eq.mpr c5
          have c5b1 : ((Go.bits .xor .u8 (Go.bits .xor .u8 (Go.bits .xor .u8 t120 t121) t122) ((x1_1) % 256)) != 1) = false := bne_eq_false_iff_eq.mpr c5
          clear c5
          obtain rfl := Option.some.inj H
          go_wp2_with (first | ((with_reducible refine gate_callee (f := 94) rfl ?_); refine goesL_ (some 10) rfl rfl Try.func94 (by kernel_rfl) rfl #[.int .u8 ((x1_1) % 256), .int .i64 8] rfl (by (try simp only [List.map_toArray, List.map_cons, List.map_nil]); first | done | rfl | (simp only [List.length_drop, List.length_take]; rfl)) ?_; (with_reducible refine (visorref06_Pow.calls k1 ((x1_1) % 256) 8 t120 _ A2.out).mono ?_); rintro e w' ⟨rfl, ⟨nd, rfl⟩⟩; refine ⟨_, rfl, ?_⟩) | ((with_reducible refine gate_callee (f := 94) rfl ?_); refine goesL_ (some 12) rfl rfl Try.func94 (by kernel_rfl) rfl #[.int .u8 ((x1_1) % 256), .int .i64 4] rfl (by (try simp only [List.map_toArray, List.map_cons, List.map_nil]); first | done | rfl | (simp only [List.length_drop, List.length_take]; rfl)) ?_; (with_reducible refine (visorref06_Pow.calls k1 ((x1_1) % 256) 4 t121 _ A3.out).mono ?_); rintro e w' ⟨rfl, ⟨nd, rfl⟩⟩; refine ⟨_, rfl, ?_⟩) | ((with_reducible refine gate_callee (f := 94) rfl ?_); refine goesL_ (some 15) rfl rfl Try.func94 (by kernel_rfl) rfl #[.int .u8 ((x1_1) % 256), .int .i64 3] rfl (by (try simp only [List.map_toArray, List.map_cons, List.map_nil]); first | done | rfl | (simp only [List.length_drop, List.length_take]; rfl)) ?_; (with_reducible refine (visorref06_Pow.calls k1 ((x1_1) % 256) 3 t122 _ A4.out).mono ?_); rintro e w' ⟨rfl, ⟨nd, rfl⟩⟩; refine ⟨_, rfl, ?_⟩))
          go_ret
          exact ⟨by first | rfl | (simp; done) | (simp [*]; done), by repeat (first | exact Drawn0.refl _ | apply Drawn0.step)⟩
        · rw [if_neg c5] at H
          have c5b0 : ((Go.bits .xor .u8 (Go.bits .xor .u8 (Go.bits .xor .u8 t120 t121) t122) ((x1_1) % 256)) == 1) = false := beq_eq_false_iff_ne.mpr c5
          have c5b1 : ((Go.bits .xor .u8 (Go.bits .xor .u8 (Go.bits .xor .u8 t120 t121) t122) ((x1_1) % 256)) != 1) = true := bne_iff_ne.mpr c5
          have H' := Aside0.mk H
          clear H
          go_wp2_with (first | ((with_reducible refine gate_callee (f := 94) rfl ?_); refine goesL_ (some 10) rfl rfl Try.func94 (by kernel_rfl) rfl #[.int .u8 ((x1_1) % 256), .int .i64 8] rfl (by (try simp only [List.map_toArray, List.map_cons, List.map_nil]); first | done | rfl | (simp only [List.length_drop, List.length_take]; rfl)) ?_; (with_reducible refine (visorref06_Pow.calls k1 ((x1_1) % 256) 8 t120 _ A2.out).mono ?_); rintro e w' ⟨rfl, ⟨nd, rfl⟩⟩; refine ⟨_, rfl, ?_⟩) | ((with_reducible refine gate_callee (f := 94) rfl ?_); refine goesL_ (some 12) rfl rfl Try.func94 (by kernel_rfl) rfl #[.int .u8 ((x1_1) % 256), .int .i64 4] rfl (by (try simp only [List.map_toArray, List.map_cons, List.map_nil]); first | done | rfl | (simp only [List.length_drop, List.length_take]; rfl)) ?_; (with_reducible refine (visorref06_Pow.calls k1 ((x1_1) % 256) 4 t121 _ A3.out).mono ?_); rintro e w' ⟨rfl, ⟨nd, rfl⟩⟩; refine ⟨_, rfl, ?_⟩) | ((with_reducible refine gate_callee (f := 94) rfl ?_); refine goesL_ (some 15) rfl rfl Try.func94 (by kernel_rfl) rfl #[.int .u8 ((x1_1) % 256), .int .i64 3] rfl (by (try simp only [List.map_toArray, List.map_cons, List.map_nil]); first | done | rfl | (simp only [List.length_drop, List.length_take]; rfl)) ?_; (with_reducible refine (visorref06_Pow.calls k1 ((x1_1) % 256) 3 t122 _ A4.out).mono ?_); rintro e w' ⟨rfl, ⟨nd, rfl⟩⟩; refine ⟨_, rfl, ?_⟩))
          go_roundg k1
          case measure => have := HK1.out; omega
          case rel => exact ⟨(wrap64 (x1_1 + 1)), (by first | rfl | (simp; done) | (simp [*]; done)), H', ⟨by have := HK1.out; omega⟩, by repeat (first | exact Drawn0.refl _ | apply Drawn0.step)⟩
      · rw [if_neg c1] at H
        have c1b0 : decide (x1_1 < 256) = false := decide_eq_false c1
        clear c1
        obtain rfl := Option.some.inj H
        go_wp2
        go_ret
        exact ⟨by first | rfl | (simp; done) | (simp [*]; done), by repeat (first | exact Drawn0.refl _ | apply Drawn0.step)⟩

end Go.Proofs.Ytphdlidaigalkaa.PNib
