/-
  octet.Store, walked: a word's lowest bytes: for any word and any int; in the form that the print gives its own contracts.
-/
import Derived.Test.YtahiphggoemdkaaKit
import Derived.Test.YtahiphggoemdkaaOctMath
namespace Go.Proofs.Ytahiphggoemdkaa.Store
open Go.RowKit Go.Proofs.YtahiphggoemdkaaW.PrintWords Go.Proofs.YtahiphggoemdkaaW.PrintLast Go.Proofs.YtahiphggoemdkaaW.PrintMore Byte Copy HandKit OctMath
attribute [local go_sem] max2_int min2_int max_two min_two max_three min_three max_four min_four
set_option linter.unusedVariables false
/-- How many bytes there are. -/
def cut8 (n : Int) : Nat := min n.toNat 8
def stL (x : Int) (m : Nat) : List Int := (List.range m).map fun i => shr .u64 x ((8 * i : Nat) : Int) % 256
theorem stL_length (x : Int) (m : Nat) : (stL x m).length = m := by simp [stL]
theorem stL_get (x : Int) (m i : Nat) (h : i < m) : (stL x m)[i]? = some (shr .u64 x ((8 * i : Nat) : Int) % 256) := by simp [stL, h]
def octet_Store.f (a0 a1 : Int) : Option (List Int) := some (stL a0 (cut8 a1))
def stTo (x : Int) (m i : Nat) : List Int := (stL x m).take i ++ List.replicate (m - i) 0
theorem stTo_length (x : Int) (m i : Nat) (h : i ≤ m) : (stTo x m i).length = m := by simp [stTo, stL_length]; omega
theorem stTo_step (x : Int) (m i : Nat) (h : i < m) : (stTo x m i).set i (shr .u64 x ((8 * i : Nat) : Int) % 256) = stTo x m (i + 1) := by
  unfold stTo
  rw [show m - i = (m - (i + 1)) + 1 by omega, List.replicate_succ, List.set_append_right _ _ (by simp [stL_length]; omega)]
  have e2 : i - ((stL x m).take i).length = 0 := by simp [stL_length]; omega
  rw [e2, List.set_cons_zero, List.take_add_one, stL_get x m i h]
  simp
theorem stTo_end (x : Int) (m : Nat) : stTo x m m = stL x m := by
  unfold stTo; rw [List.take_of_length_le (by rw [stL_length]; omega)]; simp
theorem stTo_zero (x : Int) (m : Nat) : stTo x m 0 = List.replicate m 0 := by simp [stTo]
set_option maxHeartbeats 4000000 in
set_option maxRecDepth 100000 in
theorem octet_Store.calls (a0 a1 : Int) (r : List Int) (w : World) (h : octet_Store.f a0 a1 = some r) :
    Calls Try.prog 25 #[.int .u64 a0, .int .i64 a1] w fun e w' => ∃ v0_ : Value, e = .returned (v0_) ∧ Kd.R (Kd.int .u8) 5 w' w.heap.size (fun _ => True) v0_ r ∧ Below w.heap.size w w' := by
  obtain rfl := Option.some.inj h
  clear h
  obtain ⟨m, hm⟩ : ∃ m, m = cut8 a1 := ⟨_, rfl⟩
  have hm8 : m ≤ 8 := by unfold cut8 at hm; omega
  have hmx : (a1 < 8 ∧ a1 < 0 ∧ m = 0) ∨ (a1 = 0 ∧ m = 0) ∨ (a1 ≤ 8 ∧ 0 < a1 ∧ a1 = m) ∨ (8 < a1 ∧ m = 8) := by unfold cut8 at hm; omega
  have HB := Aside0.mk (Below.refl w.heap.size w)
  rw [← hm]
  clear hm
  rcases hmx with ⟨c1, c2, c3⟩ | ⟨c1, c3⟩ | ⟨c1, c2, c3⟩ | ⟨c1, c3⟩
  case inl =>
    have hN : Aside0 ((0 : Int).toNat = m) := ⟨c3.symm⟩
    clear c3
    go_enter Try.func25, Try.ntmps25
    go_wp2_with ((with_reducible refine gate_dst (N := 10) rfl ?_); refine Kd.R_make (Kd.int .u8) _ 5 rfl (N := 10) rfl 22 _ _ rfl (0) (by go_simp) (by go_simp) Try.underlying22 (.int .u8 0) 1 info_u8 rfl (by decide) (by omega) 0 (ok := fun _ => True) (okp := fun _ => True) rfl (fun _ hk => hk) trivial (by omega) (by omega) (Below.refl _ _) (Nat.le_refl _) ?_; intro v w1 ho hb hg_ hnew_; clear hg_ hnew_; rw [hN.out] at ho; obtain ⟨Av, cv, rfl, hcv, hrd⟩ := Kd.R_reads ho; clear hrd; simp only [List.length_replicate] at ho hcv; clear HB; have HB := Aside0.mk hb; have HO := Aside0.mk ho; clear hb ho)
    have HO2 : Aside0 (Kd.R (Kd.int .u8) 5 w1 w.heap.size (fun _ => True) (.slice Av m cv) (stTo a0 m 0)) := ⟨by rw [stTo_zero]; exact HO.out⟩
    clear HO
    go_loopg [13] m (fun kq i w' => ∃ j : Nat, j + kq = m ∧ i = .int .i64 j ∧ Aside0 (Kd.R (Kd.int .u8) 5 w' w.heap.size (fun _ => True) (.slice Av m cv) (stTo a0 m j)) ∧ Aside0 (Below w.heap.size w w'))
    case atStart => exact ⟨0, by omega, rfl, HO2, HB⟩
    case round =>
      clear HB HO2
      obtain ⟨j, hj, rfl, HO, HB⟩ := hrel
      cases gk with
      | zero =>
        obtain rfl : j = m := by omega
        go_wp2
        go_ret
        exact ⟨_, rfl, by rw [← stTo_end a0 j]; exact HO.out, HB.out⟩
      | succ k1 =>
        have hlt : j < m := by omega
        have hlen : (stTo a0 m j).length = m := stTo_length _ _ _ (by omega)
        obtain ⟨g, cap, hv, hbg, hgl, cells, hcells⟩ := Kd.R_form HO.out (by omega)
        rw [hlen] at hv
        obtain rfl : Av = some ⟨g, 0, none⟩ := by injection hv
        obtain ⟨hx, hf⟩ := Kd.R_celln 0 HO.out (j : Int) (by omega) (by omega)
        rw [Int.toNat_natCast] at hx hf
        have HP := Kd.R_putg HO.out (j : Int) (shr .u64 a0 ((8 * j : Nat) : Int) % 256)
        rw [Int.toNat_natCast, stTo_step _ _ _ hlt] at HP
        have HG := Aside0.mk hbg
        have HJ := Aside0.mk hj
        have e1 : shr .u64 a0 ((8 * j : Nat) : Int) = a0 / 2 ^ (8 * j) := by
          unfold shr
          have : min (((8 * j : Nat) : Int).toNat) IntKind.u64.bits = 8 * j := by
            show min (((8 * j : Nat) : Int).toNat) 64 = 8 * j
            omega
          rw [this]
        rw [e1] at HP
        have HC := Aside0.mk HP.1
        have e2 : (8 * (j : Int)).toNat = 8 * j := by omega
        clear HP e1 hv hlen hcells hgl hbg hj
        go_wp2
        go_roundg k1
        case measure => omega
        case rel => exact ⟨j + 1, by have := HJ.out; omega, by go_num, HC, ⟨below_set HB.out HG.out⟩⟩
  case inr.inl =>
    have hN : Aside0 ((0 : Int).toNat = m) := ⟨c3.symm⟩
    subst c1
    clear c3
    go_enter Try.func25, Try.ntmps25
    go_wp2_with ((with_reducible refine gate_dst (N := 10) rfl ?_); refine Kd.R_make (Kd.int .u8) _ 5 rfl (N := 10) rfl 22 _ _ rfl (0) (by go_simp) (by go_simp) Try.underlying22 (.int .u8 0) 1 info_u8 rfl (by decide) (by omega) 0 (ok := fun _ => True) (okp := fun _ => True) rfl (fun _ hk => hk) trivial (by omega) (by omega) (Below.refl _ _) (Nat.le_refl _) ?_; intro v w1 ho hb hg_ hnew_; clear hg_ hnew_; rw [hN.out] at ho; obtain ⟨Av, cv, rfl, hcv, hrd⟩ := Kd.R_reads ho; clear hrd; simp only [List.length_replicate] at ho hcv; clear HB; have HB := Aside0.mk hb; have HO := Aside0.mk ho; clear hb ho)
    have HO2 : Aside0 (Kd.R (Kd.int .u8) 5 w1 w.heap.size (fun _ => True) (.slice Av m cv) (stTo a0 m 0)) := ⟨by rw [stTo_zero]; exact HO.out⟩
    clear HO
    go_loopg [13] m (fun kq i w' => ∃ j : Nat, j + kq = m ∧ i = .int .i64 j ∧ Aside0 (Kd.R (Kd.int .u8) 5 w' w.heap.size (fun _ => True) (.slice Av m cv) (stTo a0 m j)) ∧ Aside0 (Below w.heap.size w w'))
    case atStart => exact ⟨0, by omega, rfl, HO2, HB⟩
    case round =>
      clear HB HO2
      obtain ⟨j, hj, rfl, HO, HB⟩ := hrel
      cases gk with
      | zero =>
        obtain rfl : j = m := by omega
        go_wp2
        go_ret
        exact ⟨_, rfl, by rw [← stTo_end a0 j]; exact HO.out, HB.out⟩
      | succ k1 =>
        have hlt : j < m := by omega
        have hlen : (stTo a0 m j).length = m := stTo_length _ _ _ (by omega)
        obtain ⟨g, cap, hv, hbg, hgl, cells, hcells⟩ := Kd.R_form HO.out (by omega)
        rw [hlen] at hv
        obtain rfl : Av = some ⟨g, 0, none⟩ := by injection hv
        obtain ⟨hx, hf⟩ := Kd.R_celln 0 HO.out (j : Int) (by omega) (by omega)
        rw [Int.toNat_natCast] at hx hf
        have HP := Kd.R_putg HO.out (j : Int) (shr .u64 a0 ((8 * j : Nat) : Int) % 256)
        rw [Int.toNat_natCast, stTo_step _ _ _ hlt] at HP
        have HG := Aside0.mk hbg
        have HJ := Aside0.mk hj
        have e1 : shr .u64 a0 ((8 * j : Nat) : Int) = a0 / 2 ^ (8 * j) := by
          unfold shr
          have : min (((8 * j : Nat) : Int).toNat) IntKind.u64.bits = 8 * j := by
            show min (((8 * j : Nat) : Int).toNat) 64 = 8 * j
            omega
          rw [this]
        rw [e1] at HP
        have HC := Aside0.mk HP.1
        have e2 : (8 * (j : Int)).toNat = 8 * j := by omega
        clear HP e1 hv hlen hcells hgl hbg hj
        go_wp2
        go_roundg k1
        case measure => omega
        case rel => exact ⟨j + 1, by have := HJ.out; omega, by go_num, HC, ⟨below_set HB.out HG.out⟩⟩
  case inr.inr.inl =>
    subst c3
    have hN : Aside0 (((m : Nat) : Int).toNat = m) := ⟨by omega⟩
    have c4 : 0 < m := by omega
    clear c2
    go_enter Try.func25, Try.ntmps25
    go_wp2_with ((with_reducible refine gate_dst (N := 10) rfl ?_); refine Kd.R_make (Kd.int .u8) _ 5 rfl (N := 10) rfl 22 _ _ rfl ((m : Nat)) (by go_simp) (by go_simp) Try.underlying22 (.int .u8 0) 1 info_u8 rfl (by decide) (by omega) 0 (ok := fun _ => True) (okp := fun _ => True) rfl (fun _ hk => hk) trivial (by omega) (by omega) (Below.refl _ _) (Nat.le_refl _) ?_; intro v w1 ho hb hg_ hnew_; clear hg_ hnew_; rw [hN.out] at ho; obtain ⟨Av, cv, rfl, hcv, hrd⟩ := Kd.R_reads ho; clear hrd; simp only [List.length_replicate] at ho hcv; clear HB; have HB := Aside0.mk hb; have HO := Aside0.mk ho; clear hb ho)
    have HO2 : Aside0 (Kd.R (Kd.int .u8) 5 w1 w.heap.size (fun _ => True) (.slice Av m cv) (stTo a0 m 0)) := ⟨by rw [stTo_zero]; exact HO.out⟩
    clear HO
    go_loopg [13] m (fun kq i w' => ∃ j : Nat, j + kq = m ∧ i = .int .i64 j ∧ Aside0 (Kd.R (Kd.int .u8) 5 w' w.heap.size (fun _ => True) (.slice Av m cv) (stTo a0 m j)) ∧ Aside0 (Below w.heap.size w w'))
    case atStart => exact ⟨0, by omega, rfl, HO2, HB⟩
    case round =>
      clear HB HO2
      obtain ⟨j, hj, rfl, HO, HB⟩ := hrel
      cases gk with
      | zero =>
        obtain rfl : j = m := by omega
        go_wp2
        go_ret
        exact ⟨_, rfl, by rw [← stTo_end a0 j]; exact HO.out, HB.out⟩
      | succ k1 =>
        have hlt : j < m := by omega
        have hlen : (stTo a0 m j).length = m := stTo_length _ _ _ (by omega)
        obtain ⟨g, cap, hv, hbg, hgl, cells, hcells⟩ := Kd.R_form HO.out (by omega)
        rw [hlen] at hv
        obtain rfl : Av = some ⟨g, 0, none⟩ := by injection hv
        obtain ⟨hx, hf⟩ := Kd.R_celln 0 HO.out (j : Int) (by omega) (by omega)
        rw [Int.toNat_natCast] at hx hf
        have HP := Kd.R_putg HO.out (j : Int) (shr .u64 a0 ((8 * j : Nat) : Int) % 256)
        rw [Int.toNat_natCast, stTo_step _ _ _ hlt] at HP
        have HG := Aside0.mk hbg
        have HJ := Aside0.mk hj
        have e1 : shr .u64 a0 ((8 * j : Nat) : Int) = a0 / 2 ^ (8 * j) := by
          unfold shr
          have : min (((8 * j : Nat) : Int).toNat) IntKind.u64.bits = 8 * j := by
            show min (((8 * j : Nat) : Int).toNat) 64 = 8 * j
            omega
          rw [this]
        rw [e1] at HP
        have HC := Aside0.mk HP.1
        have e2 : (8 * (j : Int)).toNat = 8 * j := by omega
        clear HP e1 hv hlen hcells hgl hbg hj
        go_wp2
        go_roundg k1
        case measure => omega
        case rel => exact ⟨j + 1, by have := HJ.out; omega, by go_num, HC, ⟨below_set HB.out HG.out⟩⟩
  case inr.inr.inr =>
    have hN : Aside0 ((8 : Int).toNat = m) := ⟨c3.symm⟩
    clear c3
    go_enter Try.func25, Try.ntmps25
    go_wp2_with ((with_reducible refine gate_dst (N := 10) rfl ?_); refine Kd.R_make (Kd.int .u8) _ 5 rfl (N := 10) rfl 22 _ _ rfl (8) (by go_simp) (by go_simp) Try.underlying22 (.int .u8 0) 1 info_u8 rfl (by decide) (by omega) 0 (ok := fun _ => True) (okp := fun _ => True) rfl (fun _ hk => hk) trivial (by omega) (by omega) (Below.refl _ _) (Nat.le_refl _) ?_; intro v w1 ho hb hg_ hnew_; clear hg_ hnew_; rw [hN.out] at ho; obtain ⟨Av, cv, rfl, hcv, hrd⟩ := Kd.R_reads ho; clear hrd; simp only [List.length_replicate] at ho hcv; clear HB; have HB := Aside0.mk hb; have HO := Aside0.mk ho; clear hb ho)
    have HO2 : Aside0 (Kd.R (Kd.int .u8) 5 w1 w.heap.size (fun _ => True) (.slice Av m cv) (stTo a0 m 0)) := ⟨by rw [stTo_zero]; exact HO.out⟩
    clear HO
    go_loopg [13] m (fun kq i w' => ∃ j : Nat, j + kq = m ∧ i = .int .i64 j ∧ Aside0 (Kd.R (Kd.int .u8) 5 w' w.heap.size (fun _ => True) (.slice Av m cv) (stTo a0 m j)) ∧ Aside0 (Below w.heap.size w w'))
    case atStart => exact ⟨0, by omega, rfl, HO2, HB⟩
    case round =>
      clear HB HO2
      obtain ⟨j, hj, rfl, HO, HB⟩ := hrel
      cases gk with
      | zero =>
        obtain rfl : j = m := by omega
        go_wp2
        go_ret
        exact ⟨_, rfl, by rw [← stTo_end a0 j]; exact HO.out, HB.out⟩
      | succ k1 =>
        have hlt : j < m := by omega
        have hlen : (stTo a0 m j).length = m := stTo_length _ _ _ (by omega)
        obtain ⟨g, cap, hv, hbg, hgl, cells, hcells⟩ := Kd.R_form HO.out (by omega)
        rw [hlen] at hv
        obtain rfl : Av = some ⟨g, 0, none⟩ := by injection hv
        obtain ⟨hx, hf⟩ := Kd.R_celln 0 HO.out (j : Int) (by omega) (by omega)
        rw [Int.toNat_natCast] at hx hf
        have HP := Kd.R_putg HO.out (j : Int) (shr .u64 a0 ((8 * j : Nat) : Int) % 256)
        rw [Int.toNat_natCast, stTo_step _ _ _ hlt] at HP
        have HG := Aside0.mk hbg
        have HJ := Aside0.mk hj
        have e1 : shr .u64 a0 ((8 * j : Nat) : Int) = a0 / 2 ^ (8 * j) := by
          unfold shr
          have : min (((8 * j : Nat) : Int).toNat) IntKind.u64.bits = 8 * j := by
            show min (((8 * j : Nat) : Int).toNat) 64 = 8 * j
            omega
          rw [this]
        rw [e1] at HP
        have HC := Aside0.mk HP.1
        have e2 : (8 * (j : Int)).toNat = 8 * j := by omega
        clear HP e1 hv hlen hcells hgl hbg hj
        go_wp2
        go_roundg k1
        case measure => omega
        case rel => exact ⟨j + 1, by have := HJ.out; omega, by go_num, HC, ⟨below_set HB.out HG.out⟩⟩
end Go.Proofs.Ytahiphggoemdkaa.Store
