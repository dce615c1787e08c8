/- Plain Lean functions with the answers of Go functions, and proofs that the Go code comes to them. Written by a program of this session's that runs the kit's print.py with contracts proved by hand handed to it; not trusted: Lean checks it. No condition. -/
import Derived.Test.YthijjpiddelefaaPKecx0
namespace Go.Proofs.Ythijjpiddelefaa.PKec
open Go.RowKit  Go.Proofs.YthijjpiddelefaaW.PrintWords Go.Proofs.YthijjpiddelefaaW.PrintLast Go.Proofs.YthijjpiddelefaaW.PrintMore
attribute [local go_sem] max2_int min2_int max_two min_two max_three min_three max_four min_four   -- for this text's walks alone
set_option linter.unusedVariables false
set_option linter.unusedSimpArgs false

/-! ### sponge_rated: function 55 -/
def sponge_rated.f (a0 : Int) : Option (Bool) := if a0 ≥ 8 then (if a0 ≤ 192 then (some ((Int.tmod a0 8) == 0)) else (some false)) else (some false)
set_option maxHeartbeats 8000000 in
set_option maxRecDepth 100000 in
theorem sponge_rated.calls (a0 : Int) (r : Bool) (w : World) (h : sponge_rated.f a0 = some r) :
    Calls Try.prog 55 #[.int .i64 a0] w fun e w' => e = .returned (.bool r) ∧ Drawn0 w w' := by
  have H : (if a0 ≥ 8 then (if a0 ≤ 192 then (some ((Int.tmod a0 8) == 0)) else (some false)) else (some false)) = some r := h
  clear h
  by_cases c2 : a0 ≥ 8
  · rw [if_pos c2] at H
    have c2b0 : decide (8 ≤ a0) = true := decide_eq_true c2
    clear c2
    by_cases c3 : a0 ≤ 192
    · rw [if_pos c3] at H
      have c3b0 : decide (a0 ≤ 192) = true := decide_eq_true c3
      clear c3
      obtain rfl := Option.some.inj H
      go_enter Try.func55, Try.ntmps55
      go_wp2
      go_ret
      exact ⟨by first | rfl | (simp; done) | (simp [*]; done), by repeat (first | exact Drawn0.refl _ | apply Drawn0.step)⟩
    · rw [if_neg c3] at H
      have c3b0 : decide (a0 ≤ 192) = false := decide_eq_false c3
      clear c3
      obtain rfl := Option.some.inj H
      go_enter Try.func55, Try.ntmps55
      go_wp2
      go_ret
      exact ⟨by first | rfl | (simp; done) | (simp [*]; done), by repeat (first | exact Drawn0.refl _ | apply Drawn0.step)⟩
  · rw [if_neg c2] at H
    have c2b0 : decide (8 ≤ a0) = false := decide_eq_false c2
    clear c2
    obtain rfl := Option.some.inj H
    go_enter Try.func55, Try.ntmps55
    go_wp2
    go_ret
    exact ⟨by first | rfl | (simp; done) | (simp [*]; done), by repeat (first | exact Drawn0.refl _ | apply Drawn0.step)⟩

-- NOT PRINTED: function 26 (sponge_Fill)

-- NOT PRINTED: function 56 (slices_Chunk_byte_byte)

/-! ### octet_Load: function 57 -/
mutual
def octet_Load.j0 : Nat → List Int → Int → Int → Bool → Option (Int)
  | 0, _, _, _, _ => none
  | k + 1, x0, x1, x5, x15 => if x15 = true then (some 0) else (octet_Load.l0 k x0 x1 x5 0)
def octet_Load.l0 : Nat → List Int → Int → Int → Int → Option (Int)
  | 0, _, _, _, _ => none
  | k + 1, x0, x1, x5, x16 => if x16 < 8 then (if (wrap64 (x1 + x16)) ≥ 0 then (if (wrap64 (x1 + x16)) < (x0.length : Int) then (if 0 ≤ (wrap64 (x1 + x16)) then (if 0 ≤ (wrap64 (8 * x16)) then (octet_Load.l0 k x0 x1 (Go.bits .or .u64 x5 (shl .u64 (IntKind.u64.wrap (rd x0 (wrap64 (x1 + x16)))) (wrap64 (8 * x16)))) (wrap64 (x16 + 1))) else (none)) else (none)) else (octet_Load.l0 k x0 x1 x5 (wrap64 (x16 + 1)))) else (octet_Load.l0 k x0 x1 x5 (wrap64 (x16 + 1)))) else (some x5)
end
def octet_Load.f (k : Nat) (l0 : List Int) (a1 : Int) : Option (Int) := if a1 ≤ (-8) then (octet_Load.j0 k l0 a1 0 true) else (octet_Load.j0 k l0 a1 0 (decide (a1 ≥ (l0.length : Int))))
theorem octet_Load.mono_l : ∀ k, (∀ y0 y1 y2 y3, LeO (octet_Load.j0 k y0 y1 y2 y3) (octet_Load.j0 (k + 1) y0 y1 y2 y3)) ∧ (∀ y0 y1 y2 y3, LeO (octet_Load.l0 k y0 y1 y2 y3) (octet_Load.l0 (k + 1) y0 y1 y2 y3))
  | 0 => ⟨fun _ _ _ _ r h => by simp [octet_Load.j0] at h, fun _ _ _ _ r h => by simp [octet_Load.l0] at h⟩
  | k + 1 => by
    obtain ⟨ih0, ih1⟩ := octet_Load.mono_l k
    refine ⟨?_, ?_⟩
    · intro y0 y1 y2 y3
      unfold octet_Load.j0
      repeat' first
      | (with_reducible exact ih0 _ _ _ _)
      | (with_reducible exact ih1 _ _ _ _)
      | (with_reducible exact LeO.refl _)
      | (with_reducible exact LeO.none _)
      | (with_reducible refine LeO.ite ?_ ?_)
      | (with_reducible refine LeO.bind ?_ (fun _ => ?_))
      | exact ih0 _ _ _ _
      | exact ih1 _ _ _ _
      | exact LeO.none _
      | refine LeO.ite ?_ ?_
      | refine LeO.bind ?_ (fun _ => ?_)
    · intro y0 y1 y2 y3
      unfold octet_Load.l0
      repeat' first
      | (with_reducible exact ih0 _ _ _ _)
      | (with_reducible exact ih1 _ _ _ _)
      | (with_reducible exact LeO.refl _)
      | (with_reducible exact LeO.none _)
      | (with_reducible refine LeO.ite ?_ ?_)
      | (with_reducible refine LeO.bind ?_ (fun _ => ?_))
      | exact ih0 _ _ _ _
      | exact ih1 _ _ _ _
      | exact LeO.none _
      | refine LeO.ite ?_ ?_
      | refine LeO.bind ?_ (fun _ => ?_)
theorem octet_Load.mono : ∀ a0 a1 k, LeO (octet_Load.f k a0 a1) (octet_Load.f (k + 1) a0 a1) := by
  intro a0 a1 k
  obtain ⟨ih0, ih1⟩ := octet_Load.mono_l k
  unfold octet_Load.f
  repeat' first
      | (with_reducible exact ih0 _ _ _ _)
      | (with_reducible exact ih1 _ _ _ _)
      | (with_reducible exact LeO.refl _)
      | (with_reducible exact LeO.none _)
      | (with_reducible refine LeO.ite ?_ ?_)
      | (with_reducible refine LeO.bind ?_ (fun _ => ?_))
      | exact ih0 _ _ _ _
      | exact ih1 _ _ _ _
      | exact LeO.none _
      | refine LeO.ite ?_ ?_
      | refine LeO.bind ?_ (fun _ => ?_)
set_option maxHeartbeats 8000000 in
set_option maxRecDepth 100000 in
theorem octet_Load.calls (k : Nat) (A0 : Option Addr) (c0 : Nat) (l0 : List Int) (a1 : Int) (r : Int) (w : World) (hr0 : Kd.C (Kd.int .u8) w A0 l0.length l0) (hc0 : l0.length ≤ c0) (h : octet_Load.f k l0 a1 = some r) :
    Calls Try.prog 57 #[.slice A0 l0.length c0, .int .i64 a1] w fun e w' => e = .returned (.int .u64 r) ∧ Drawn0 w w' := by
  have HR0 := Aside0.mk hr0
  have HC0 := Aside0.mk hc0
  clear hr0 hc0
  have H : (if a1 ≤ (-8) then (octet_Load.j0 k l0 a1 0 true) else (octet_Load.j0 k l0 a1 0 (decide (a1 ≥ (l0.length : Int))))) = some r := h
  clear h
  have HC3 := Aside0.mk H
  clear H
  go_enter Try.func57, Try.ntmps57
  go_upto_region 2 with (fail)
  go_cut [15] (fun v15 wc => ∃ (kq : Nat) (x15_2 : Bool), v15 = .bool x15_2 ∧ Aside0 (octet_Load.j0 kq l0 a1 0 x15_2 = some r) ∧ Aside0 (kq ≤ k) ∧ Drawn0 w wc)
  case first =>
    have H := HC3.out
    clear HC3
    by_cases c4 : a1 ≤ (-8)
    · rw [if_pos c4] at H
      have c4b0 : decide (a1 ≤ (-8)) = true := decide_eq_true c4
      clear c4
      (first | rw [c4b0] | (simp only [i64_w, i32_w]; rw [c4b0]) | skip)
      have H' := Aside0.mk H
      clear H
      go_wp2
      go_meet
      case rel => exact ⟨_, (true), (by first | rfl | (simp; done) | (simp [*]; done)), H', ⟨by first | omega | exact Nat.le_refl _⟩, by repeat (first | exact Drawn0.refl _ | apply Drawn0.step)⟩
    · rw [if_neg c4] at H
      have c4b0 : decide (a1 ≤ (-8)) = false := decide_eq_false c4
      clear c4
      (first | rw [c4b0] | (simp only [i64_w, i32_w]; rw [c4b0]) | skip)
      have H' := Aside0.mk H
      clear H
      go_wp2
      go_meet
      case rel => exact ⟨_, (decide (a1 ≥ (l0.length : Int))), (by first | rfl | (simp; done) | (simp [*]; done)), H', ⟨by first | omega | exact Nat.le_refl _⟩, by repeat (first | exact Drawn0.refl _ | apply Drawn0.step)⟩
  case rest =>
    clear HC3
    try clear p2
    try clear c4
    try clear c4b0
    obtain ⟨kq, x15_2, rfl, HA, HJ2, ⟨mc2, rfl⟩⟩ := hcut
    cases kq with
    | zero => exact absurd HA.out (by simp [octet_Load.j0])
    | succ kj2 =>
      have H := HA.out
      clear HA
      simp only [octet_Load.j0] at H
      by_cases c5 : x15_2 = true
      · subst c5
        have H1 : (some 0) = some r := by rw [if_pos rfl] at H; exact H
        clear H
        have H := H1
        clear H1
        obtain rfl := Option.some.inj H
        go_wp2
        go_ret
        exact ⟨by first | rfl | (simp; done) | (simp [*]; done), by repeat (first | exact Drawn0.refl _ | apply Drawn0.step)⟩
      · replace c5 := Bool.eq_false_iff.mpr c5
        subst c5
        have H1 : (octet_Load.l0 kj2 l0 a1 0 0) = some r := by rw [if_neg (show ¬ (false = true) by decide)] at H; exact H
        clear H
        have H := H1
        clear H1
        have H' := Aside0.mk H
        clear H
        go_wp2
        go_loopg [5, 16] kj2 (fun kq v5 v16 w' => ∃ (x5_2 : Int) (x16_2 : Int), v5 = .int .u64 x5_2 ∧ v16 = .int .i64 x16_2 ∧ Aside0 (octet_Load.l0 kq l0 a1 x5_2 x16_2 = some r) ∧ Aside0 (kq ≤ kj2) ∧ Drawn0 w w')
        case atStart => exact ⟨(0), (0), (by first | rfl | (simp; done) | (simp [*]; done)), (by first | rfl | (simp; done) | (simp [*]; done)), H', ⟨Nat.le_refl _⟩, by repeat (first | exact Drawn0.refl _ | apply Drawn0.step)⟩
        case round =>
          clear H'
          try clear c2
          try clear p2
          try clear c4
          try clear c4b0
          try clear c5
          try clear p2
          obtain ⟨x5_2, x16_2, rfl, rfl, HA, HK2, ⟨m2, rfl⟩⟩ := hrel
          cases gk with
          | zero => exact absurd HA.out (by simp [octet_Load.l0])
          | succ k2 =>
            have H := HA.out
            clear HA
            simp only [octet_Load.l0] at H
            by_cases c6 : x16_2 < 8
            · rw [if_pos c6] at H
              have c6b0 : decide (x16_2 < 8) = true := decide_eq_true c6
              clear c6
              by_cases c7 : (wrap64 (a1 + x16_2)) ≥ 0
              · rw [if_pos c7] at H
                have c7b0 : decide (0 ≤ (wrap64 (a1 + x16_2))) = true := decide_eq_true c7
                clear c7
                by_cases c8 : (wrap64 (a1 + x16_2)) < (l0.length : Int)
                · rw [if_pos c8] at H
                  have c8b0 : decide ((wrap64 (a1 + x16_2)) < (l0.length : Int)) = true := decide_eq_true c8
                  clear c8
                  obtain ⟨ji9, hji9⟩ : ∃ j_ : Int, (wrap64 (a1 + x16_2)) = j_ := ⟨_, rfl⟩
                  replace H : (if 0 ≤ (ji9) then (if 0 ≤ (wrap64 (8 * x16_2)) then (octet_Load.l0 k2 l0 a1 (Go.bits .or .u64 x5_2 (shl .u64 (IntKind.u64.wrap (rd l0 (ji9))) (wrap64 (8 * x16_2)))) (wrap64 (x16_2 + 1))) else (none)) else (none)) = some r := by first | (rw [hji9] at H; exact H) | (simp only [hji9] at H ⊢; exact H)
                  (try rw [hji9] at c7b0)
                  (try rw [hji9] at c8b0)
                  have hji9w : (IntKind.i64.wrap (a1 + x16_2)) = ji9 := (i64_w _).trans hji9
                  by_cases c10 : 0 ≤ (ji9)
                  · rw [if_pos c10] at H
                    have c10b0 : decide (0 ≤ (ji9)) = true := decide_eq_true c10
                    clear c10
                    obtain ⟨ji11, hji11⟩ : ∃ j_ : Int, (wrap64 (8 * x16_2)) = j_ := ⟨_, rfl⟩
                    replace H : (if 0 ≤ (ji11) then (octet_Load.l0 k2 l0 a1 (Go.bits .or .u64 x5_2 (shl .u64 (IntKind.u64.wrap (rd l0 (ji9))) (ji11))) (wrap64 (x16_2 + 1))) else (none)) = some r := by first | (rw [hji11] at H; exact H) | (simp only [hji11] at H ⊢; exact H)
                    have hji11w : (IntKind.i64.wrap (8 * x16_2)) = ji11 := (i64_w _).trans hji11
                    by_cases c12 : 0 ≤ (ji11)
                    · rw [if_pos c12] at H
                      have c12b0 := eq_true c12
                      have c12b1 : decide (0 ≤ (ji11)) = true := decide_eq_true c12
                      clear c12
                      obtain ⟨ji13, hji13⟩ : ∃ j_ : Int, (shl .u64 (IntKind.u64.wrap (rd l0 (ji9))) (ji11)) = j_ := ⟨_, rfl⟩
                      replace H : (octet_Load.l0 k2 l0 a1 (Go.bits .or .u64 x5_2 (ji13)) (wrap64 (x16_2 + 1))) = some r := by first | (rw [hji13] at H; exact H) | (simp only [hji13] at H ⊢; exact H)
                      have hji13_ : (IntKind.u64.wrap ((IntKind.u64.wrap (rd l0 (ji9))) * 2 ^ min (ji11).toNat 64)) = ji13 := hji13
                      have hji13z : (ji11) ≤ 64 → (IntKind.u64.wrap ((IntKind.u64.wrap (rd l0 (ji9))) * 2 ^ (ji11).toNat)) = ji13 := shl_small hji13
                      have H' := Aside0.mk H
                      clear H
                      have p105 : 0 ≤ ((ji9) : Int) := of_decide_eq_true (by first | (with_reducible assumption) | assumption)
                      have q105 : (ji9) < (l0.length : Int) := of_decide_eq_true (by first | (with_reducible assumption) | assumption)
                      obtain ⟨ad105, e105, hx105_0⟩ := Kd.at_int HR0.out (ji9) p105 q105
                      cases e105
                      replace p105 := eq_true p105
                      replace q105 := eq_true q105
                      go_wp2
                      go_roundg k2
                      case measure => have := HJ2.out; have := HK2.out; omega
                      case rel => exact ⟨(Go.bits .or .u64 x5_2 (ji13)), (wrap64 (x16_2 + 1)), (by first | rfl | (simp; done) | (simp only [← hji13] <;> (first | rfl | simp)) | (simp [*]; done)), (by first | rfl | (simp; done) | (simp [*]; done)), H', ⟨by have := HJ2.out; have := HK2.out; omega⟩, by repeat (first | exact Drawn0.refl _ | apply Drawn0.step)⟩
                    · rw [if_neg c12] at H
                      exact absurd H (by simp)
                  · rw [if_neg c10] at H
                    exact absurd H (by simp)
                · rw [if_neg c8] at H
                  have c8b0 : decide ((wrap64 (a1 + x16_2)) < (l0.length : Int)) = false := decide_eq_false c8
                  clear c8
                  have H' := Aside0.mk H
                  clear H
                  go_wp2
                  go_roundg k2
                  case measure => have := HJ2.out; have := HK2.out; omega
                  case rel => exact ⟨(x5_2), (wrap64 (x16_2 + 1)), (by first | rfl | (simp; done) | (simp [*]; done)), (by first | rfl | (simp; done) | (simp [*]; done)), H', ⟨by have := HJ2.out; have := HK2.out; omega⟩, by repeat (first | exact Drawn0.refl _ | apply Drawn0.step)⟩
              · rw [if_neg c7] at H
                have c7b0 : decide (0 ≤ (wrap64 (a1 + x16_2))) = false := decide_eq_false c7
                clear c7
                have H' := Aside0.mk H
                clear H
                go_wp2
                go_roundg k2
                case measure => have := HJ2.out; have := HK2.out; omega
                case rel => exact ⟨(x5_2), (wrap64 (x16_2 + 1)), (by first | rfl | (simp; done) | (simp [*]; done)), (by first | rfl | (simp; done) | (simp [*]; done)), H', ⟨by have := HJ2.out; have := HK2.out; omega⟩, by repeat (first | exact Drawn0.refl _ | apply Drawn0.step)⟩
            · rw [if_neg c6] at H
              have c6b0 : decide (x16_2 < 8) = false := decide_eq_false c6
              clear c6
              obtain rfl := Option.some.inj H
              go_wp2
              go_ret
              exact ⟨by first | rfl | (simp; done) | (simp [*]; done), by repeat (first | exact Drawn0.refl _ | apply Drawn0.step)⟩

-- NOT PRINTED: function 77 (keccak_Chi)

/-! ### keccak_next: function 120 -/
def keccak_next.f (a0 : Int) (a1 : Int) : Option (Int × Int) := some (a1, Int.tmod (wrap64 ((wrap64 (2 * a0)) + (wrap64 (3 * a1)))) 5)
set_option maxHeartbeats 8000000 in
set_option maxRecDepth 100000 in
theorem keccak_next.calls (a0 : Int) (a1 : Int) (r1 : Int) (r2 : Int) (w : World) (h : keccak_next.f a0 a1 = some (r1, r2)) :
    Calls Try.prog 120 #[.int .i64 a0, .int .i64 a1] w fun e w' => e = .returned (.tuple #[.int .i64 r1, .int .i64 r2]) ∧ Drawn0 w w' := by
  have H : (some (a1, Int.tmod (wrap64 ((wrap64 (2 * a0)) + (wrap64 (3 * a1)))) 5)) = some (r1, r2) := h
  clear h
  simp only [Option.some.injEq, Prod.mk.injEq] at H
  obtain ⟨rfl, rfl⟩ := H
  go_enter Try.func120, Try.ntmps120
  go_wp2
  go_ret2
  exact ⟨by first | rfl | (simp; done) | (simp [*]; done), by repeat (first | exact Drawn0.refl _ | apply Drawn0.step)⟩

/-! ### octet_Rot: function 121 -/
def octet_Rot.f (a0 : Int) (a1 : Int) : Option (Int) := if 0 ≤ (Go.bits .and .i64 a1 63) then (if 0 ≤ (wrap64 (64 - (Go.bits .and .i64 a1 63))) then (some (Go.bits .or .u64 (shl .u64 a0 (Go.bits .and .i64 a1 63)) (shr .u64 a0 (wrap64 (64 - (Go.bits .and .i64 a1 63)))))) else (none)) else (none)
set_option maxHeartbeats 8000000 in
set_option maxRecDepth 100000 in
theorem octet_Rot.calls (a0 : Int) (a1 : Int) (r : Int) (w : World) (h : octet_Rot.f a0 a1 = some r) :
    Calls Try.prog 121 #[.int .u64 a0, .int .i64 a1] w fun e w' => e = .returned (.int .u64 r) ∧ Drawn0 w w' := by
  have H : (if 0 ≤ (Go.bits .and .i64 a1 63) then (if 0 ≤ (wrap64 (64 - (Go.bits .and .i64 a1 63))) then (some (Go.bits .or .u64 (shl .u64 a0 (Go.bits .and .i64 a1 63)) (shr .u64 a0 (wrap64 (64 - (Go.bits .and .i64 a1 63)))))) else (none)) else (none)) = some r := h
  clear h
  by_cases c3 : 0 ≤ (Go.bits .and .i64 a1 63)
  · rw [if_pos c3] at H
    have c3b0 := eq_true c3
    have c3b1 : decide (0 ≤ (Go.bits .and .i64 a1 63)) = true := decide_eq_true c3
    clear c3
    obtain ⟨ji4, hji4⟩ : ∃ j_ : Int, (shl .u64 a0 (Go.bits .and .i64 a1 63)) = j_ := ⟨_, rfl⟩
    replace H : (if 0 ≤ (wrap64 (64 - (Go.bits .and .i64 a1 63))) then (some (Go.bits .or .u64 (ji4) (shr .u64 a0 (wrap64 (64 - (Go.bits .and .i64 a1 63)))))) else (none)) = some r := by first | (rw [hji4] at H; exact H) | (simp only [hji4] at H ⊢; exact H)
    have hji4_ : (IntKind.u64.wrap (a0 * 2 ^ min (Go.bits .and .i64 a1 63).toNat 64)) = ji4 := hji4
    have hji4z : (Go.bits .and .i64 a1 63) ≤ 64 → (IntKind.u64.wrap (a0 * 2 ^ (Go.bits .and .i64 a1 63).toNat)) = ji4 := shl_small hji4
    obtain ⟨ji5, hji5⟩ : ∃ j_ : Int, (wrap64 (64 - (Go.bits .and .i64 a1 63))) = j_ := ⟨_, rfl⟩
    replace H : (if 0 ≤ (ji5) then (some (Go.bits .or .u64 (ji4) (shr .u64 a0 (ji5)))) else (none)) = some r := by first | (rw [hji5] at H; exact H) | (simp only [hji5] at H ⊢; exact H)
    have hji5w : (IntKind.i64.wrap (64 - (Go.bits .and .i64 a1 63))) = ji5 := (i64_w _).trans hji5
    by_cases c6 : 0 ≤ (ji5)
    · rw [if_pos c6] at H
      have c6b0 := eq_true c6
      have c6b1 : decide (0 ≤ (ji5)) = true := decide_eq_true c6
      clear c6
      obtain ⟨ji7, hji7⟩ : ∃ j_ : Int, (shr .u64 a0 (ji5)) = j_ := ⟨_, rfl⟩
      replace H : (some (Go.bits .or .u64 (ji4) (ji7))) = some r := by first | (rw [hji7] at H; exact H) | (simp only [hji7] at H ⊢; exact H)
      have hji7_ : (a0 / 2 ^ min (ji5).toNat 64) = ji7 := hji7
      have hji7z : (ji5) ≤ 64 → (a0 / 2 ^ (ji5).toNat) = ji7 := shr_small hji7
      obtain rfl := Option.some.inj H
      go_enter Try.func121, Try.ntmps121
      go_wp2
      repeat (go_quiet (fail); try go_wp2)
      go_ret
      exact ⟨by first | rfl | (simp; done) | (simp only [← hji4, ← hji5, ← hji7] <;> (first | rfl | simp)) | (simp [*]; done), by repeat (first | exact Drawn0.refl _ | apply Drawn0.step)⟩
    · rw [if_neg c6] at H
      exact absurd H (by simp)
  · rw [if_neg c3] at H
    exact absurd H (by simp)

/-! ### keccak_Turn: function 122 -/
mutual
def keccak_Turn.j0 : Nat → Int → Int → Bool → Option (Int)
  | 0, _, _, _ => none
  | k + 1, x0, x1, x29 => if x29 = true then (some 0) else (keccak_Turn.l0 k x0 x1 1 0 1)
def keccak_Turn.l0 : Nat → Int → Int → Int → Int → Int → Option (Int)
  | 0, _, _, _, _, _ => none
  | k + 1, x0, x1, x5, x6, x7 => if x5 = x0 then (if x6 = x1 then (some (Int.tmod (wrap64 (Int.tdiv (wrap64 (x7 * (wrap64 (x7 + 1)))) 2)) 64)) else ((keccak_next.f x5 x6).bind fun bt106 => (keccak_Turn.l0 k x0 x1 bt106.1 bt106.2 (wrap64 (x7 + 1))))) else ((keccak_next.f x5 x6).bind fun bt108 => (keccak_Turn.l0 k x0 x1 bt108.1 bt108.2 (wrap64 (x7 + 1))))
end
def keccak_Turn.f (k : Nat) (a0 : Int) (a1 : Int) : Option (Int) := if a0 < 0 then (keccak_Turn.j0 k a0 a1 true) else (if a1 < 0 then (keccak_Turn.j0 k a0 a1 true) else (if a0 ≥ 5 then (keccak_Turn.j0 k a0 a1 true) else (if a1 ≥ 5 then (keccak_Turn.j0 k a0 a1 true) else (if a0 = 0 then (keccak_Turn.j0 k a0 a1 (a1 == 0)) else (keccak_Turn.j0 k a0 a1 false)))))
theorem keccak_Turn.mono_l : ∀ k, (∀ y0 y1 y2, LeO (keccak_Turn.j0 k y0 y1 y2) (keccak_Turn.j0 (k + 1) y0 y1 y2)) ∧ (∀ y0 y1 y2 y3 y4, LeO (keccak_Turn.l0 k y0 y1 y2 y3 y4) (keccak_Turn.l0 (k + 1) y0 y1 y2 y3 y4))
  | 0 => ⟨fun _ _ _ r h => by simp [keccak_Turn.j0] at h, fun _ _ _ _ _ r h => by simp [keccak_Turn.l0] at h⟩
  | k + 1 => by
    obtain ⟨ih0, ih1⟩ := keccak_Turn.mono_l k
    refine ⟨?_, ?_⟩
    · intro y0 y1 y2
      unfold keccak_Turn.j0
      repeat' first
      | (with_reducible exact ih0 _ _ _)
      | (with_reducible exact ih1 _ _ _ _ _)
      | (with_reducible exact LeO.refl _)
      | (with_reducible exact LeO.none _)
      | (with_reducible refine LeO.ite ?_ ?_)
      | (with_reducible refine LeO.bind ?_ (fun _ => ?_))
      | exact ih0 _ _ _
      | exact ih1 _ _ _ _ _
      | exact LeO.none _
      | refine LeO.ite ?_ ?_
      | refine LeO.bind ?_ (fun _ => ?_)
    · intro y0 y1 y2 y3 y4
      unfold keccak_Turn.l0
      repeat' first
      | (with_reducible exact ih0 _ _ _)
      | (with_reducible exact ih1 _ _ _ _ _)
      | (with_reducible exact LeO.refl _)
      | (with_reducible exact LeO.none _)
      | (with_reducible refine LeO.ite ?_ ?_)
      | (with_reducible refine LeO.bind ?_ (fun _ => ?_))
      | exact ih0 _ _ _
      | exact ih1 _ _ _ _ _
      | exact LeO.none _
      | refine LeO.ite ?_ ?_
      | refine LeO.bind ?_ (fun _ => ?_)
theorem keccak_Turn.mono : ∀ a0 a1 k, LeO (keccak_Turn.f k a0 a1) (keccak_Turn.f (k + 1) a0 a1) := by
  intro a0 a1 k
  obtain ⟨ih0, ih1⟩ := keccak_Turn.mono_l k
  unfold keccak_Turn.f
  repeat' first
      | (with_reducible exact ih0 _ _ _)
      | (with_reducible exact ih1 _ _ _ _ _)
      | (with_reducible exact LeO.refl _)
      | (with_reducible exact LeO.none _)
      | (with_reducible refine LeO.ite ?_ ?_)
      | (with_reducible refine LeO.bind ?_ (fun _ => ?_))
      | exact ih0 _ _ _
      | exact ih1 _ _ _ _ _
      | exact LeO.none _
      | refine LeO.ite ?_ ?_
      | refine LeO.bind ?_ (fun _ => ?_)
set_option maxHeartbeats 8000000 in
set_option maxRecDepth 100000 in
theorem keccak_Turn.calls (k : Nat) (a0 : Int) (a1 : Int) (r : Int) (w : World) (h : keccak_Turn.f k a0 a1 = some r) :
    Calls Try.prog 122 #[.int .i64 a0, .int .i64 a1] w fun e w' => e = .returned (.int .i64 r) ∧ Drawn0 w w' := by
  have H : (if a0 < 0 then (keccak_Turn.j0 k a0 a1 true) else (if a1 < 0 then (keccak_Turn.j0 k a0 a1 true) else (if a0 ≥ 5 then (keccak_Turn.j0 k a0 a1 true) else (if a1 ≥ 5 then (keccak_Turn.j0 k a0 a1 true) else (if a0 = 0 then (keccak_Turn.j0 k a0 a1 (a1 == 0)) else (keccak_Turn.j0 k a0 a1 false)))))) = some r := h
  clear h
  have HC3 := Aside0.mk H
  clear H
  go_enter Try.func122, Try.ntmps122
  go_upto_region 1 with (fail)
  go_cut [29] (fun v29 wc => ∃ (kq : Nat) (x29_2 : Bool), v29 = .bool x29_2 ∧ Aside0 (keccak_Turn.j0 kq a0 a1 x29_2 = some r) ∧ Aside0 (kq ≤ k) ∧ Drawn0 w wc)
  case first =>
    have H := HC3.out
    clear HC3
    by_cases c4 : a0 < 0
    · rw [if_pos c4] at H
      have c4b0 : decide (a0 < 0) = true := decide_eq_true c4
      clear c4
      (first | rw [c4b0] | (simp only [i64_w, i32_w]; rw [c4b0]) | skip)
      have H' := Aside0.mk H
      clear H
      go_wp2
      go_meet
      case rel => exact ⟨_, (true), (by first | rfl | (simp; done) | (simp [*]; done)), H', ⟨by first | omega | exact Nat.le_refl _⟩, by repeat (first | exact Drawn0.refl _ | apply Drawn0.step)⟩
    · rw [if_neg c4] at H
      have c4b0 : decide (a0 < 0) = false := decide_eq_false c4
      clear c4
      (first | rw [c4b0] | (simp only [i64_w, i32_w]; rw [c4b0]) | skip)
      by_cases c5 : a1 < 0
      · rw [if_pos c5] at H
        have c5b0 : decide (a1 < 0) = true := decide_eq_true c5
        clear c5
        have H' := Aside0.mk H
        clear H
        go_wp2
        go_meet
        case rel => exact ⟨_, (true), (by first | rfl | (simp; done) | (simp [*]; done)), H', ⟨by first | omega | exact Nat.le_refl _⟩, by repeat (first | exact Drawn0.refl _ | apply Drawn0.step)⟩
      · rw [if_neg c5] at H
        have c5b0 : decide (a1 < 0) = false := decide_eq_false c5
        clear c5
        by_cases c6 : a0 ≥ 5
        · rw [if_pos c6] at H
          have c6b0 : decide (5 ≤ a0) = true := decide_eq_true c6
          clear c6
          have H' := Aside0.mk H
          clear H
          go_wp2
          go_meet
          case rel => exact ⟨_, (true), (by first | rfl | (simp; done) | (simp [*]; done)), H', ⟨by first | omega | exact Nat.le_refl _⟩, by repeat (first | exact Drawn0.refl _ | apply Drawn0.step)⟩
        · rw [if_neg c6] at H
          have c6b0 : decide (5 ≤ a0) = false := decide_eq_false c6
          clear c6
          by_cases c7 : a1 ≥ 5
          · rw [if_pos c7] at H
            have c7b0 : decide (5 ≤ a1) = true := decide_eq_true c7
            clear c7
            have H' := Aside0.mk H
            clear H
            go_wp2
            go_meet
            case rel => exact ⟨_, (true), (by first | rfl | (simp; done) | (simp [*]; done)), H', ⟨by first | omega | exact Nat.le_refl _⟩, by repeat (first | exact Drawn0.refl _ | apply Drawn0.step)⟩
          · rw [if_neg c7] at H
            have c7b0 : decide (5 ≤ a1) = false := decide_eq_false c7
            clear c7
            by_cases c8 : a0 = 0
            · rw [if_pos c8] at H
              have c8b0 : (a0 == 0) = true := beq_iff_eq.mpr c8
              have c8b1 : (a0 != 0) = false := bne_eq_false_iff_eq.mpr c8
              clear c8
              have H' := Aside0.mk H
              clear H
              go_wp2
              go_meet
              case rel => exact ⟨_, ((a1 == 0)), (by first | rfl | (simp; done) | (simp [*]; done)), H', ⟨by first | omega | exact Nat.le_refl _⟩, by repeat (first | exact Drawn0.refl _ | apply Drawn0.step)⟩
            · rw [if_neg c8] at H
              have c8b0 : (a0 == 0) = false := beq_eq_false_iff_ne.mpr c8
              have c8b1 : (a0 != 0) = true := bne_iff_ne.mpr c8
              have H' := Aside0.mk H
              clear H
              go_wp2
              go_meet
              case rel => exact ⟨_, (false), (by first | rfl | (simp; done) | (simp [*]; done)), H', ⟨by first | omega | exact Nat.le_refl _⟩, by repeat (first | exact Drawn0.refl _ | apply Drawn0.step)⟩
  case rest =>
    clear HC3
    try clear c1
    try clear p2
    try clear c4
    try clear c4b0
    try clear c5
    try clear c5b0
    try clear c6
    try clear c6b0
    try clear c7
    try clear c7b0
    try clear c8
    try clear c8b0
    try clear c8b1
    obtain ⟨kq, x29_2, rfl, HA, HJ2, ⟨mc2, rfl⟩⟩ := hcut
    cases kq with
    | zero => exact absurd HA.out (by simp [keccak_Turn.j0])
    | succ kj2 =>
      have H := HA.out
      clear HA
      simp only [keccak_Turn.j0] at H
      by_cases c9 : x29_2 = true
      · subst c9
        have H1 : (some 0) = some r := by rw [if_pos rfl] at H; exact H
        clear H
        have H := H1
        clear H1
        obtain rfl := Option.some.inj H
        go_wp2
        go_ret
        exact ⟨by first | rfl | (simp; done) | (simp [*]; done), by repeat (first | exact Drawn0.refl _ | apply Drawn0.step)⟩
      · replace c9 := Bool.eq_false_iff.mpr c9
        subst c9
        have H1 : (keccak_Turn.l0 kj2 a0 a1 1 0 1) = some r := by rw [if_neg (show ¬ (false = true) by decide)] at H; exact H
        clear H
        have H := H1
        clear H1
        have H' := Aside0.mk H
        clear H
        go_wp2
        go_loopg [5, 6, 7] kj2 (fun kq v5 v6 v7 w' => ∃ (x5_2 : Int) (x6_2 : Int) (x7_2 : Int), v5 = .int .i64 x5_2 ∧ v6 = .int .i64 x6_2 ∧ v7 = .int .i64 x7_2 ∧ Aside0 (keccak_Turn.l0 kq a0 a1 x5_2 x6_2 x7_2 = some r) ∧ Aside0 (kq ≤ kj2) ∧ Drawn0 w w')
        case atStart => exact ⟨(1), (0), (1), (by first | rfl | (simp; done) | (simp [*]; done)), (by first | rfl | (simp; done) | (simp [*]; done)), (by first | rfl | (simp; done) | (simp [*]; done)), H', ⟨Nat.le_refl _⟩, by repeat (first | exact Drawn0.refl _ | apply Drawn0.step)⟩
        case round =>
          clear H'
          try clear c1
          try clear c2
          try clear p2
          try clear c4
          try clear c4b0
          try clear c5
          try clear c5b0
          try clear c6
          try clear c6b0
          try clear c7
          try clear c7b0
          try clear c8
          try clear c8b0
          try clear c8b1
          try clear c9
          try clear p2
          obtain ⟨x5_2, x6_2, x7_2, rfl, rfl, rfl, HA, HK2, ⟨m2, rfl⟩⟩ := hrel
          cases gk with
          | zero => exact absurd HA.out (by simp [keccak_Turn.l0])
          | succ k2 =>
            have H := HA.out
            clear HA
            simp only [keccak_Turn.l0] at H
            by_cases c10 : x5_2 = a0
            · rw [if_pos c10] at H
              have c10b0 : (x5_2 == a0) = true := beq_iff_eq.mpr c10
              have c10b1 : (x5_2 != a0) = false := bne_eq_false_iff_eq.mpr c10
              clear c10
              by_cases c11 : x6_2 = a1
              · rw [if_pos c11] at H
                have c11b0 : (x6_2 == a1) = true := beq_iff_eq.mpr c11
                have c11b1 : (x6_2 != a1) = false := bne_eq_false_iff_eq.mpr c11
                clear c11
                obtain rfl := Option.some.inj H
                go_wp2
                go_ret
                exact ⟨by first | rfl | (simp; done) | (simp [*]; done), by repeat (first | exact Drawn0.refl _ | apply Drawn0.step)⟩
              · rw [if_neg c11] at H
                have c11b0 : (x6_2 == a1) = false := beq_eq_false_iff_ne.mpr c11
                have c11b1 : (x6_2 != a1) = true := bne_iff_ne.mpr c11
                replace H := Option.bind_eq_some_iff.mp H
                obtain ⟨⟨t106, t107⟩, A120, H⟩ := H
                replace H : (keccak_Turn.l0 k2 a0 a1 t106 t107 (wrap64 (x7_2 + 1))) = some r := H
                have A12 := Aside0.mk A120
                clear A120
                have H' := Aside0.mk H
                clear H
                go_wp2_with (first | ((with_reducible refine gate_callee (f := 120) rfl ?_); refine goesL_ (some 43) rfl rfl Try.func120 (by kernel_rfl) rfl #[.int .i64 x5_2, .int .i64 x6_2] rfl (by (try simp only [List.map_toArray, List.map_cons, List.map_nil]); first | done | rfl | (simp only [List.length_drop, List.length_take]; rfl)) ?_; (with_reducible refine (keccak_next.calls x5_2 x6_2 t106 t107 _ A12.out).mono ?_); rintro e w' ⟨rfl, ⟨nd, rfl⟩⟩; refine ⟨_, rfl, ?_⟩))
                go_roundg k2
                case measure => have := HJ2.out; have := HK2.out; omega
                case rel => exact ⟨(t106), (t107), (wrap64 (x7_2 + 1)), (by first | rfl | (simp; done) | (simp [*]; done)), (by first | rfl | (simp; done) | (simp [*]; done)), (by first | rfl | (simp; done) | (simp [*]; done)), H', ⟨by have := HJ2.out; have := HK2.out; omega⟩, by repeat (first | exact Drawn0.refl _ | apply Drawn0.step)⟩
            · rw [if_neg c10] at H
              have c10b0 : (x5_2 == a0) = false := beq_eq_false_iff_ne.mpr c10
              have c10b1 : (x5_2 != a0) = true := bne_iff_ne.mpr c10
              replace H := Option.bind_eq_some_iff.mp H
              obtain ⟨⟨t108, t109⟩, A130, H⟩ := H
              replace H : (keccak_Turn.l0 k2 a0 a1 t108 t109 (wrap64 (x7_2 + 1))) = some r := H
              have A13 := Aside0.mk A130
              clear A130
              have H' := Aside0.mk H
              clear H
              go_wp2_with (first | ((with_reducible refine gate_callee (f := 120) rfl ?_); refine goesL_ (some 43) rfl rfl Try.func120 (by kernel_rfl) rfl #[.int .i64 x5_2, .int .i64 x6_2] rfl (by (try simp only [List.map_toArray, List.map_cons, List.map_nil]); first | done | rfl | (simp only [List.length_drop, List.length_take]; rfl)) ?_; (with_reducible refine (keccak_next.calls x5_2 x6_2 t108 t109 _ A13.out).mono ?_); rintro e w' ⟨rfl, ⟨nd, rfl⟩⟩; refine ⟨_, rfl, ?_⟩))
              go_roundg k2
              case measure => have := HJ2.out; have := HK2.out; omega
              case rel => exact ⟨(t108), (t109), (wrap64 (x7_2 + 1)), (by first | rfl | (simp; done) | (simp [*]; done)), (by first | rfl | (simp; done) | (simp [*]; done)), (by first | rfl | (simp; done) | (simp [*]; done)), H', ⟨by have := HJ2.out; have := HK2.out; omega⟩, by repeat (first | exact Drawn0.refl _ | apply Drawn0.step)⟩

-- NOT PRINTED: function 78 (keccak_Move)

-- NOT PRINTED: function 79 (keccak_Theta)

/-! ### keccak_Mark: function 80 -/
mutual
def keccak_Mark.j0 : Nat → Int → Bool → Option (Int)
  | 0, _, _ => none
  | k + 1, x0, x12 => if x12 = true then (some 0) else (keccak_Mark.l0 k x0 0 1 (wrap64 (7 * (wrap64 (x0 + 1)))) 0)
def keccak_Mark.l0 : Nat → Int → Int → Int → Int → Int → Option (Int)
  | 0, _, _, _, _, _ => none
  | k + 1, x0, x3, x4, x15, x16 => if x16 < x15 then (if (wrap64 (x16 - (wrap64 (7 * x0)))) ≥ 0 then (keccak_Mark.j2 k x0 x3 x4 (wrap64 (x16 - (wrap64 (7 * x0)))) x15 x16 ((Go.bits .and .u8 x4 1) == 1)) else (keccak_Mark.j2 k x0 x3 x4 (wrap64 (x16 - (wrap64 (7 * x0)))) x15 x16 false)) else (some x3)
def keccak_Mark.j2 : Nat → Int → Int → Int → Int → Int → Int → Bool → Option (Int)
  | 0, _, _, _, _, _, _, _ => none
  | k + 1, x0, x3, x4, x6, x15, x16, x29 => if x29 = true then (if 0 ≤ x6 then (if 0 ≤ (IntKind.u64.wrap ((shl .u64 1 x6) - 1)) then (if (Go.bits .and .u8 x4 128) = 0 then (keccak_Mark.l0 k x0 (Go.bits .or .u64 x3 (shl .u64 1 (IntKind.u64.wrap ((shl .u64 1 x6) - 1)))) ((x4 * 2) % 256) x15 (wrap64 (x16 + 1))) else (keccak_Mark.l0 k x0 (Go.bits .or .u64 x3 (shl .u64 1 (IntKind.u64.wrap ((shl .u64 1 x6) - 1)))) (Go.bits .xor .u8 ((x4 * 2) % 256) 113) x15 (wrap64 (x16 + 1)))) else (none)) else (none)) else (if (Go.bits .and .u8 x4 128) = 0 then (keccak_Mark.l0 k x0 x3 ((x4 * 2) % 256) x15 (wrap64 (x16 + 1))) else (keccak_Mark.l0 k x0 x3 (Go.bits .xor .u8 ((x4 * 2) % 256) 113) x15 (wrap64 (x16 + 1))))
end
def keccak_Mark.f (k : Nat) (a0 : Int) : Option (Int) := if a0 < 0 then (keccak_Mark.j0 k a0 true) else (keccak_Mark.j0 k a0 (decide (a0 ≥ 24)))
theorem keccak_Mark.mono_l : ∀ k, (∀ y0 y1, LeO (keccak_Mark.j0 k y0 y1) (keccak_Mark.j0 (k + 1) y0 y1)) ∧ (∀ y0 y1 y2 y3 y4, LeO (keccak_Mark.l0 k y0 y1 y2 y3 y4) (keccak_Mark.l0 (k + 1) y0 y1 y2 y3 y4)) ∧ (∀ y0 y1 y2 y3 y4 y5 y6, LeO (keccak_Mark.j2 k y0 y1 y2 y3 y4 y5 y6) (keccak_Mark.j2 (k + 1) y0 y1 y2 y3 y4 y5 y6))
  | 0 => ⟨fun _ _ r h => by simp [keccak_Mark.j0] at h, fun _ _ _ _ _ r h => by simp [keccak_Mark.l0] at h, fun _ _ _ _ _ _ _ r h => by simp [keccak_Mark.j2] at h⟩
  | k + 1 => by
    obtain ⟨ih0, ih1, ih2⟩ := keccak_Mark.mono_l k
    refine ⟨?_, ?_, ?_⟩
    · intro y0 y1
      unfold keccak_Mark.j0
      repeat' first
      | (with_reducible exact ih0 _ _)
      | (with_reducible exact ih1 _ _ _ _ _)
      | (with_reducible exact ih2 _ _ _ _ _ _ _)
      | (with_reducible exact LeO.refl _)
      | (with_reducible exact LeO.none _)
      | (with_reducible refine LeO.ite ?_ ?_)
      | (with_reducible refine LeO.bind ?_ (fun _ => ?_))
      | exact ih0 _ _
      | exact ih1 _ _ _ _ _
      | exact ih2 _ _ _ _ _ _ _
      | exact LeO.none _
      | refine LeO.ite ?_ ?_
      | refine LeO.bind ?_ (fun _ => ?_)
    · intro y0 y1 y2 y3 y4
      unfold keccak_Mark.l0
      repeat' first
      | (with_reducible exact ih0 _ _)
      | (with_reducible exact ih1 _ _ _ _ _)
      | (with_reducible exact ih2 _ _ _ _ _ _ _)
      | (with_reducible exact LeO.refl _)
      | (with_reducible exact LeO.none _)
      | (with_reducible refine LeO.ite ?_ ?_)
      | (with_reducible refine LeO.bind ?_ (fun _ => ?_))
      | exact ih0 _ _
      | exact ih1 _ _ _ _ _
      | exact ih2 _ _ _ _ _ _ _
      | exact LeO.none _
      | refine LeO.ite ?_ ?_
      | refine LeO.bind ?_ (fun _ => ?_)
    · intro y0 y1 y2 y3 y4 y5 y6
      unfold keccak_Mark.j2
      repeat' first
      | (with_reducible exact ih0 _ _)
      | (with_reducible exact ih1 _ _ _ _ _)
      | (with_reducible exact ih2 _ _ _ _ _ _ _)
      | (with_reducible exact LeO.refl _)
      | (with_reducible exact LeO.none _)
      | (with_reducible refine LeO.ite ?_ ?_)
      | (with_reducible refine LeO.bind ?_ (fun _ => ?_))
      | exact ih0 _ _
      | exact ih1 _ _ _ _ _
      | exact ih2 _ _ _ _ _ _ _
      | exact LeO.none _
      | refine LeO.ite ?_ ?_
      | refine LeO.bind ?_ (fun _ => ?_)
theorem keccak_Mark.mono : ∀ a0 k, LeO (keccak_Mark.f k a0) (keccak_Mark.f (k + 1) a0) := by
  intro a0 k
  obtain ⟨ih0, ih1, ih2⟩ := keccak_Mark.mono_l k
  unfold keccak_Mark.f
  repeat' first
      | (with_reducible exact ih0 _ _)
      | (with_reducible exact ih1 _ _ _ _ _)
      | (with_reducible exact ih2 _ _ _ _ _ _ _)
      | (with_reducible exact LeO.refl _)
      | (with_reducible exact LeO.none _)
      | (with_reducible refine LeO.ite ?_ ?_)
      | (with_reducible refine LeO.bind ?_ (fun _ => ?_))
      | exact ih0 _ _
      | exact ih1 _ _ _ _ _
      | exact ih2 _ _ _ _ _ _ _
      | exact LeO.none _
      | refine LeO.ite ?_ ?_
      | refine LeO.bind ?_ (fun _ => ?_)
set_option maxHeartbeats 8000000 in
set_option maxRecDepth 100000 in
theorem keccak_Mark.calls (k : Nat) (a0 : Int) (r : Int) (w : World) (h : keccak_Mark.f k a0 = some r) :
    Calls Try.prog 80 #[.int .i64 a0] w fun e w' => e = .returned (.int .u64 r) ∧ Drawn0 w w' := by
  have H : (if a0 < 0 then (keccak_Mark.j0 k a0 true) else (keccak_Mark.j0 k a0 (decide (a0 ≥ 24)))) = some r := h
  clear h
  have HC2 := Aside0.mk H
  clear H
  go_enter Try.func80, Try.ntmps80
  go_upto_region 1 with (fail)
  go_cut [12] (fun v12 wc => ∃ (kq : Nat) (x12_1 : Bool), v12 = .bool x12_1 ∧ Aside0 (keccak_Mark.j0 kq a0 x12_1 = some r) ∧ Aside0 (kq ≤ k) ∧ Drawn0 w wc)
  case first =>
    have H := HC2.out
    clear HC2
    by_cases c3 : a0 < 0
    · rw [if_pos c3] at H
      have c3b0 : decide (a0 < 0) = true := decide_eq_true c3
      clear c3
      (first | rw [c3b0] | (simp only [i64_w, i32_w]; rw [c3b0]) | skip)
      have H' := Aside0.mk H
      clear H
      go_wp2
      go_meet
      case rel => exact ⟨_, (true), (by first | rfl | (simp; done) | (simp [*]; done)), H', ⟨by first | omega | exact Nat.le_refl _⟩, by repeat (first | exact Drawn0.refl _ | apply Drawn0.step)⟩
    · rw [if_neg c3] at H
      have c3b0 : decide (a0 < 0) = false := decide_eq_false c3
      clear c3
      (first | rw [c3b0] | (simp only [i64_w, i32_w]; rw [c3b0]) | skip)
      have H' := Aside0.mk H
      clear H
      go_wp2
      go_meet
      case rel => exact ⟨_, (decide (a0 ≥ 24)), (by first | rfl | (simp; done) | (simp [*]; done)), H', ⟨by first | omega | exact Nat.le_refl _⟩, by repeat (first | exact Drawn0.refl _ | apply Drawn0.step)⟩
  case rest =>
    clear HC2
    try clear p2
    try clear c3
    try clear c3b0
    obtain ⟨kq, x12_1, rfl, HA, HJ1, ⟨mc1, rfl⟩⟩ := hcut
    cases kq with
    | zero => exact absurd HA.out (by simp [keccak_Mark.j0])
    | succ kj1 =>
      have H := HA.out
      clear HA
      simp only [keccak_Mark.j0] at H
      by_cases c4 : x12_1 = true
      · subst c4
        have H1 : (some 0) = some r := by rw [if_pos rfl] at H; exact H
        clear H
        have H := H1
        clear H1
        obtain rfl := Option.some.inj H
        go_wp2
        go_ret
        exact ⟨by first | rfl | (simp; done) | (simp [*]; done), by repeat (first | exact Drawn0.refl _ | apply Drawn0.step)⟩
      · replace c4 := Bool.eq_false_iff.mpr c4
        subst c4
        have H1 : (keccak_Mark.l0 kj1 a0 0 1 (wrap64 (7 * (wrap64 (a0 + 1)))) 0) = some r := by rw [if_neg (show ¬ (false = true) by decide)] at H; exact H
        clear H
        have H := H1
        clear H1
        have H' := Aside0.mk H
        clear H
        go_wp2
        go_loopg [3, 4, 16] kj1 (fun kq v3 v4 v16 w' => ∃ (x3_2 : Int) (x4_2 : Int) (x16_2 : Int), v3 = .int .u64 x3_2 ∧ v4 = .int .u8 x4_2 ∧ v16 = .int .i64 x16_2 ∧ Aside0 (keccak_Mark.l0 kq a0 x3_2 x4_2 (wrap64 (7 * (wrap64 (a0 + 1)))) x16_2 = some r) ∧ Aside0 (kq ≤ kj1) ∧ Drawn0 w w')
        case atStart => exact ⟨(0), (1), (0), (by first | rfl | (simp; done) | (simp [*]; done)), (by first | rfl | (simp; done) | (simp [*]; done)), (by first | rfl | (simp; done) | (simp [*]; done)), H', ⟨Nat.le_refl _⟩, by repeat (first | exact Drawn0.refl _ | apply Drawn0.step)⟩
        case round =>
          clear H'
          try clear c1
          try clear p2
          try clear c3
          try clear c3b0
          try clear c4
          try clear p2
          obtain ⟨x3_2, x4_2, x16_2, rfl, rfl, rfl, HA, HK2, ⟨m2, rfl⟩⟩ := hrel
          cases gk with
          | zero => exact absurd HA.out (by simp [keccak_Mark.l0])
          | succ k2 =>
            have H := HA.out
            clear HA
            simp only [keccak_Mark.l0] at H
            by_cases c5 : x16_2 < (wrap64 (7 * (wrap64 (a0 + 1))))
            · rw [if_pos c5] at H
              have c5b0 : decide (x16_2 < (wrap64 (7 * (wrap64 (a0 + 1))))) = true := decide_eq_true c5
              clear c5
              have HC6 := Aside0.mk H
              clear H
              go_upto_region 9 with (fail)
              go_cut [29] (fun v29 wc => ∃ (kq : Nat) (x29_5 : Bool), v29 = .bool x29_5 ∧ Aside0 (keccak_Mark.j2 kq a0 x3_2 x4_2 (wrap64 (x16_2 - (wrap64 (7 * a0)))) (wrap64 (7 * (wrap64 (a0 + 1)))) x16_2 x29_5 = some r) ∧ Aside0 (kq ≤ k2) ∧ Drawn0 w wc)
              case first =>
                have H := HC6.out
                clear HC6
                by_cases c7 : (wrap64 (x16_2 - (wrap64 (7 * a0)))) ≥ 0
                · rw [if_pos c7] at H
                  have c7b0 : decide (0 ≤ (wrap64 (x16_2 - (wrap64 (7 * a0))))) = true := decide_eq_true c7
                  clear c7
                  (first | rw [c7b0] | (simp only [i64_w, i32_w]; rw [c7b0]) | skip)
                  have H' := Aside0.mk H
                  clear H
                  go_wp2
                  go_meet
                  case rel => exact ⟨_, (((Go.bits .and .u8 x4_2 1) == 1)), (by first | rfl | (simp; done) | (simp [*]; done)), H', ⟨by have := HJ1.out; have := HK2.out; first | omega | exact Nat.le_refl _⟩, by repeat (first | exact Drawn0.refl _ | apply Drawn0.step)⟩
                · rw [if_neg c7] at H
                  have c7b0 : decide (0 ≤ (wrap64 (x16_2 - (wrap64 (7 * a0))))) = false := decide_eq_false c7
                  clear c7
                  (first | rw [c7b0] | (simp only [i64_w, i32_w]; rw [c7b0]) | skip)
                  have H' := Aside0.mk H
                  clear H
                  go_wp2
                  go_meet
                  case rel => exact ⟨_, (false), (by first | rfl | (simp; done) | (simp [*]; done)), H', ⟨by have := HJ1.out; have := HK2.out; first | omega | exact Nat.le_refl _⟩, by repeat (first | exact Drawn0.refl _ | apply Drawn0.step)⟩
              case rest =>
                clear HC6
                try clear c1
                try clear p2
                try clear c3
                try clear c3b0
                try clear c4
                try clear c5
                try clear c5b0
                try clear p6
                try clear c7
                try clear c7b0
                try clear p2
                obtain ⟨kq, x29_5, rfl, HA, HJ5, ⟨mc5, rfl⟩⟩ := hcut
                cases kq with
                | zero => exact absurd HA.out (by simp [keccak_Mark.j2])
                | succ kj5 =>
                  have H := HA.out
                  clear HA
                  simp only [keccak_Mark.j2] at H
                  by_cases c8 : x29_5 = true
                  · subst c8
                    have H1 : (if 0 ≤ (wrap64 (x16_2 - (wrap64 (7 * a0)))) then (if 0 ≤ (IntKind.u64.wrap ((shl .u64 1 (wrap64 (x16_2 - (wrap64 (7 * a0))))) - 1)) then (if (Go.bits .and .u8 x4_2 128) = 0 then (keccak_Mark.l0 kj5 a0 (Go.bits .or .u64 x3_2 (shl .u64 1 (IntKind.u64.wrap ((shl .u64 1 (wrap64 (x16_2 - (wrap64 (7 * a0))))) - 1)))) ((x4_2 * 2) % 256) (wrap64 (7 * (wrap64 (a0 + 1)))) (wrap64 (x16_2 + 1))) else (keccak_Mark.l0 kj5 a0 (Go.bits .or .u64 x3_2 (shl .u64 1 (IntKind.u64.wrap ((shl .u64 1 (wrap64 (x16_2 - (wrap64 (7 * a0))))) - 1)))) (Go.bits .xor .u8 ((x4_2 * 2) % 256) 113) (wrap64 (7 * (wrap64 (a0 + 1)))) (wrap64 (x16_2 + 1)))) else (none)) else (none)) = some r := by rw [if_pos rfl] at H; exact H
                    clear H
                    have H := H1
                    clear H1
                    obtain ⟨ji9, hji9⟩ : ∃ j_ : Int, (wrap64 (x16_2 - (wrap64 (7 * a0)))) = j_ := ⟨_, rfl⟩
                    replace H : (if 0 ≤ (ji9) then (if 0 ≤ (IntKind.u64.wrap ((shl .u64 1 (ji9)) - 1)) then (if (Go.bits .and .u8 x4_2 128) = 0 then (keccak_Mark.l0 kj5 a0 (Go.bits .or .u64 x3_2 (shl .u64 1 (IntKind.u64.wrap ((shl .u64 1 (ji9)) - 1)))) ((x4_2 * 2) % 256) (wrap64 (7 * (wrap64 (a0 + 1)))) (wrap64 (x16_2 + 1))) else (keccak_Mark.l0 kj5 a0 (Go.bits .or .u64 x3_2 (shl .u64 1 (IntKind.u64.wrap ((shl .u64 1 (ji9)) - 1)))) (Go.bits .xor .u8 ((x4_2 * 2) % 256) 113) (wrap64 (7 * (wrap64 (a0 + 1)))) (wrap64 (x16_2 + 1)))) else (none)) else (none)) = some r := by first | (rw [hji9] at H; exact H) | (simp only [hji9] at H ⊢; exact H)
                    have hji9w : (IntKind.i64.wrap (x16_2 - (wrap64 (7 * a0)))) = ji9 := (i64_w _).trans hji9
                    by_cases c10 : 0 ≤ (ji9)
                    · rw [if_pos c10] at H
                      have c10b0 := eq_true c10
                      have c10b1 : decide (0 ≤ (ji9)) = true := decide_eq_true c10
                      clear c10
                      obtain ⟨ji11, hji11⟩ : ∃ j_ : Int, (shl .u64 1 (ji9)) = j_ := ⟨_, rfl⟩
                      replace H : (if 0 ≤ (IntKind.u64.wrap ((ji11) - 1)) then (if (Go.bits .and .u8 x4_2 128) = 0 then (keccak_Mark.l0 kj5 a0 (Go.bits .or .u64 x3_2 (shl .u64 1 (IntKind.u64.wrap ((ji11) - 1)))) ((x4_2 * 2) % 256) (wrap64 (7 * (wrap64 (a0 + 1)))) (wrap64 (x16_2 + 1))) else (keccak_Mark.l0 kj5 a0 (Go.bits .or .u64 x3_2 (shl .u64 1 (IntKind.u64.wrap ((ji11) - 1)))) (Go.bits .xor .u8 ((x4_2 * 2) % 256) 113) (wrap64 (7 * (wrap64 (a0 + 1)))) (wrap64 (x16_2 + 1)))) else (none)) = some r := by first | (rw [hji11] at H; exact H) | (simp only [hji11] at H ⊢; exact H)
                      have hji11_ : (IntKind.u64.wrap (1 * 2 ^ min (ji9).toNat 64)) = ji11 := hji11
                      have hji11z : (ji9) ≤ 64 → (IntKind.u64.wrap (1 * 2 ^ (ji9).toNat)) = ji11 := shl_small hji11
                      have hji11u : (IntKind.u64.wrap (2 ^ min (ji9).toNat 64)) = ji11 := by have h_ := hji11_; rw [Int.one_mul] at h_; exact h_
                      have hji11v : (ji9) ≤ 64 → (IntKind.u64.wrap (2 ^ (ji9).toNat)) = ji11 := fun hle_ => by have h_ := hji11z hle_; rw [Int.one_mul] at h_; exact h_
                      obtain ⟨ji12, hji12⟩ : ∃ j_ : Int, (IntKind.u64.wrap ((ji11) - 1)) = j_ := ⟨_, rfl⟩
                      replace H : (if 0 ≤ (ji12) then (if (Go.bits .and .u8 x4_2 128) = 0 then (keccak_Mark.l0 kj5 a0 (Go.bits .or .u64 x3_2 (shl .u64 1 (ji12))) ((x4_2 * 2) % 256) (wrap64 (7 * (wrap64 (a0 + 1)))) (wrap64 (x16_2 + 1))) else (keccak_Mark.l0 kj5 a0 (Go.bits .or .u64 x3_2 (shl .u64 1 (ji12))) (Go.bits .xor .u8 ((x4_2 * 2) % 256) 113) (wrap64 (7 * (wrap64 (a0 + 1)))) (wrap64 (x16_2 + 1)))) else (none)) = some r := by first | (rw [hji12] at H; exact H) | (simp only [hji12] at H ⊢; exact H)
                      by_cases c13 : 0 ≤ (ji12)
                      · rw [if_pos c13] at H
                        have c13b0 := eq_true c13
                        have c13b1 : decide (0 ≤ (ji12)) = true := decide_eq_true c13
                        clear c13
                        obtain ⟨ji14, hji14⟩ : ∃ j_ : Int, (shl .u64 1 (ji12)) = j_ := ⟨_, rfl⟩
                        replace H : (if (Go.bits .and .u8 x4_2 128) = 0 then (keccak_Mark.l0 kj5 a0 (Go.bits .or .u64 x3_2 (ji14)) ((x4_2 * 2) % 256) (wrap64 (7 * (wrap64 (a0 + 1)))) (wrap64 (x16_2 + 1))) else (keccak_Mark.l0 kj5 a0 (Go.bits .or .u64 x3_2 (ji14)) (Go.bits .xor .u8 ((x4_2 * 2) % 256) 113) (wrap64 (7 * (wrap64 (a0 + 1)))) (wrap64 (x16_2 + 1)))) = some r := by first | (rw [hji14] at H; exact H) | (simp only [hji14] at H ⊢; exact H)
                        have hji14_ : (IntKind.u64.wrap (1 * 2 ^ min (ji12).toNat 64)) = ji14 := hji14
                        have hji14z : (ji12) ≤ 64 → (IntKind.u64.wrap (1 * 2 ^ (ji12).toNat)) = ji14 := shl_small hji14
                        have hji14u : (IntKind.u64.wrap (2 ^ min (ji12).toNat 64)) = ji14 := by have h_ := hji14_; rw [Int.one_mul] at h_; exact h_
                        have hji14v : (ji12) ≤ 64 → (IntKind.u64.wrap (2 ^ (ji12).toNat)) = ji14 := fun hle_ => by have h_ := hji14z hle_; rw [Int.one_mul] at h_; exact h_
                        by_cases c15 : (Go.bits .and .u8 x4_2 128) = 0
                        · rw [if_pos c15] at H
                          have c15b0 : ((Go.bits .and .u8 x4_2 128) == 0) = true := beq_iff_eq.mpr c15
                          have c15b1 : ((Go.bits .and .u8 x4_2 128) != 0) = false := bne_eq_false_iff_eq.mpr c15
                          clear c15
                          have H' := Aside0.mk H
                          clear H
                          go_wp2
                          go_roundg kj5
                          case measure => have := HJ1.out; have := HK2.out; have := HJ5.out; omega
                          case rel => exact ⟨(Go.bits .or .u64 x3_2 (ji14)), ((x4_2 * 2) % 256), (wrap64 (x16_2 + 1)), (by first | rfl | (simp; done) | (simp only [← hji14] <;> (first | rfl | simp)) | (simp [*]; done)), (by first | rfl | (simp; done) | (simp [*]; done)), (by first | rfl | (simp; done) | (simp [*]; done)), H', ⟨by have := HJ1.out; have := HK2.out; have := HJ5.out; omega⟩, by repeat (first | exact Drawn0.refl _ | apply Drawn0.step)⟩
                        · rw [if_neg c15] at H
                          have c15b0 : ((Go.bits .and .u8 x4_2 128) == 0) = false := beq_eq_false_iff_ne.mpr c15
                          have c15b1 : ((Go.bits .and .u8 x4_2 128) != 0) = true := bne_iff_ne.mpr c15
                          have H' := Aside0.mk H
                          clear H
                          go_wp2
                          go_roundg kj5
                          case measure => have := HJ1.out; have := HK2.out; have := HJ5.out; omega
                          case rel => exact ⟨(Go.bits .or .u64 x3_2 (ji14)), (Go.bits .xor .u8 ((x4_2 * 2) % 256) 113), (wrap64 (x16_2 + 1)), (by first | rfl | (simp; done) | (simp only [← hji14] <;> (first | rfl | simp)) | (simp [*]; done)), (by first | rfl | (simp; done) | (simp [*]; done)), (by first | rfl | (simp; done) | (simp [*]; done)), H', ⟨by have := HJ1.out; have := HK2.out; have := HJ5.out; omega⟩, by repeat (first | exact Drawn0.refl _ | apply Drawn0.step)⟩
                      · rw [if_neg c13] at H
                        exact absurd H (by simp)
                    · rw [if_neg c10] at H
                      exact absurd H (by simp)
                  · replace c8 := Bool.eq_false_iff.mpr c8
                    subst c8
                    have H1 : (if (Go.bits .and .u8 x4_2 128) = 0 then (keccak_Mark.l0 kj5 a0 x3_2 ((x4_2 * 2) % 256) (wrap64 (7 * (wrap64 (a0 + 1)))) (wrap64 (x16_2 + 1))) else (keccak_Mark.l0 kj5 a0 x3_2 (Go.bits .xor .u8 ((x4_2 * 2) % 256) 113) (wrap64 (7 * (wrap64 (a0 + 1)))) (wrap64 (x16_2 + 1)))) = some r := by rw [if_neg (show ¬ (false = true) by decide)] at H; exact H
                    clear H
                    have H := H1
                    clear H1
                    by_cases c16 : (Go.bits .and .u8 x4_2 128) = 0
                    · rw [if_pos c16] at H
                      have c16b0 : ((Go.bits .and .u8 x4_2 128) == 0) = true := beq_iff_eq.mpr c16
                      have c16b1 : ((Go.bits .and .u8 x4_2 128) != 0) = false := bne_eq_false_iff_eq.mpr c16
                      clear c16
                      have H' := Aside0.mk H
                      clear H
                      go_wp2
                      go_roundg kj5
                      case measure => have := HJ1.out; have := HK2.out; have := HJ5.out; omega
                      case rel => exact ⟨(x3_2), ((x4_2 * 2) % 256), (wrap64 (x16_2 + 1)), (by first | rfl | (simp; done) | (simp [*]; done)), (by first | rfl | (simp; done) | (simp [*]; done)), (by first | rfl | (simp; done) | (simp [*]; done)), H', ⟨by have := HJ1.out; have := HK2.out; have := HJ5.out; omega⟩, by repeat (first | exact Drawn0.refl _ | apply Drawn0.step)⟩
                    · rw [if_neg c16] at H
                      have c16b0 : ((Go.bits .and .u8 x4_2 128) == 0) = false := beq_eq_false_iff_ne.mpr c16
                      have c16b1 : ((Go.bits .and .u8 x4_2 128) != 0) = true := bne_iff_ne.mpr c16
                      have H' := Aside0.mk H
                      clear H
                      go_wp2
                      go_roundg kj5
                      case measure => have := HJ1.out; have := HK2.out; have := HJ5.out; omega
                      case rel => exact ⟨(x3_2), (Go.bits .xor .u8 ((x4_2 * 2) % 256) 113), (wrap64 (x16_2 + 1)), (by first | rfl | (simp; done) | (simp [*]; done)), (by first | rfl | (simp; done) | (simp [*]; done)), (by first | rfl | (simp; done) | (simp [*]; done)), H', ⟨by have := HJ1.out; have := HK2.out; have := HJ5.out; omega⟩, by repeat (first | exact Drawn0.refl _ | apply Drawn0.step)⟩
            · rw [if_neg c5] at H
              have c5b0 : decide (x16_2 < (wrap64 (7 * (wrap64 (a0 + 1))))) = false := decide_eq_false c5
              clear c5
              obtain rfl := Option.some.inj H
              go_wp2
              go_ret
              exact ⟨by first | rfl | (simp; done) | (simp [*]; done), by repeat (first | exact Drawn0.refl _ | apply Drawn0.step)⟩

-- NOT PRINTED: function 58 (keccak_Permute)

-- NOT PRINTED: function 59 (sponge_squeezed)

-- NOT PRINTED: function 27 (sponge_Sum)

end Go.Proofs.Ythijjpiddelefaa.PKec
