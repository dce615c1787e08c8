/-
  octet.Xor and octet.Inc, walked: bytes put together bit by bit, and bytes and 1; in the form that the print gives its own contracts: for any bytes.
-/
import Derived.Test.YtpdikfmdnlhllaaXKit
namespace Go.Proofs.Ytpdikfmdnlhllaa.Octet
open Go.RowKit Go.Proofs.YtpdikfmdnlhllaaW.PrintWords Go.Proofs.YtpdikfmdnlhllaaW.PrintLast Go.Proofs.YtpdikfmdnlhllaaW.PrintMore Byte Copy HandKit
attribute [local go_sem] max2_int min2_int max_two min_two max_three min_three max_four min_four
set_option linter.unusedVariables false
/-- Put together, as far as both go. -/
def xorL (a b : List Int) : List Int := List.zipWith (Go.bits .xor .u8) a b
def octet_Xor.f (l0 l1 : List Int) : Option (List Int) := if min l0.length l1.length ≤ 281474976710656 then some (xorL l0 l1) else none
/-- The row when i of its bytes are put together: it began as the first one's bytes. -/
def xorTo (a b : List Int) (n i : Nat) : List Int := xorL (a.take i) (b.take i) ++ (a.take n).drop i
theorem xorTo_length (a b : List Int) (n i : Nat) (ha : n ≤ a.length) (hb : n ≤ b.length) (hi : i ≤ n) : (xorTo a b n i).length = n := by
  unfold xorTo xorL
  simp
  omega
theorem xorTo_zero (a b : List Int) (n : Nat) : xorTo a b n 0 = a.take n := by simp [xorTo, xorL]
theorem xorTo_end (a b : List Int) (n : Nat) (hn : n = min a.length b.length) : xorTo a b n n = xorL a b := by
  subst hn
  unfold xorTo xorL
  rw [List.drop_eq_nil_of_le (by simp), List.append_nil, ← List.take_zipWith, List.take_of_length_le (by simp)]
theorem xorTo_rd (a b : List Int) (n i : Nat) (ha : n ≤ a.length) (hb : n ≤ b.length) (hi : i < n) : (xorTo a b n i).getD i 0 = a.getD i 0 := by
  unfold xorTo xorL
  rw [List.getD_eq_getElem?_getD, List.getElem?_append_right (by simp; omega)]
  simp
  rw [show i - min i (min a.length (min i b.length)) = 0 by omega, Nat.add_zero, List.getElem?_take_of_lt hi]
theorem xorTo_step (a b : List Int) (n i : Nat) (ha : n ≤ a.length) (hb : n ≤ b.length) (hi : i < n) : (xorTo a b n i).set i (Go.bits .xor .u8 (a.getD i 0) (b.getD i 0)) = xorTo a b n (i + 1) := by
  refine List.ext_getElem? fun j => ?_
  unfold xorTo xorL
  have h1 : i < a.length := by omega
  have h2 : i < b.length := by omega
  have l1 : ((a.take i).zipWith (Go.bits .xor .u8) (b.take i)).length = i := by simp; omega
  have l2 : ((a.take (i + 1)).zipWith (Go.bits .xor .u8) (b.take (i + 1))).length = i + 1 := by simp; omega
  rw [List.getElem?_set]
  have l3 : (((a.take i).zipWith (Go.bits .xor .u8) (b.take i)) ++ (a.take n).drop i).length = n := by simp; omega
  rcases Nat.lt_trichotomy j i with hj | hj | hj
  · rw [if_neg (by omega), List.getElem?_append_left (by omega), List.getElem?_append_left (by omega)]
    simp only [List.getElem?_zipWith, List.getElem?_take]
    rw [if_pos (by omega), if_pos (by omega), if_pos (by omega), if_pos (by omega)]
  · subst hj
    rw [if_pos rfl, if_pos (by omega), List.getElem?_append_left (by omega)]
    simp only [List.getElem?_zipWith, List.getElem?_take]
    rw [if_pos (by omega), if_pos (by omega)]
    simp [List.getElem?_eq_getElem h1, List.getElem?_eq_getElem h2]
  · rw [if_neg (by omega), List.getElem?_append_right (by omega), List.getElem?_append_right (by omega), l1, l2]
    simp only [List.getElem?_drop, List.getElem?_take]
    rw [show i + (j - i) = j by omega, show i + 1 + (j - (i + 1)) = j by omega]

set_option maxHeartbeats 4000000 in
set_option maxRecDepth 100000 in
theorem xor_lt (A0 : Option Addr) (c0 : Nat) (l0 : List Int) (A1 : Option Addr) (c1 : Nat) (l1 : List Int) (w : World) (hr0 : Kd.C (Kd.int .u8) w A0 l0.length l0) (hr1 : Kd.C (Kd.int .u8) w A1 l1.length l1) (hlim : l1.length ≤ 281474976710656) (hcase : l1.length < l0.length) :
    Calls Try.prog 81 #[.slice A0 l0.length c0, .slice A1 l1.length c1] w fun e w' => ∃ v0_ : Value, e = .returned (v0_) ∧ Kd.R (Kd.int .u8) 5 w' w.heap.size (fun _ => True) v0_ (xorL l0 l1) ∧ Below w.heap.size w w' := by
  have hmin : l1.length = min l0.length l1.length := by omega
  have HN := Aside0.mk hmin
  have HR0 := Aside0.mk hr0
  have HR1 := Aside0.mk hr1
  have HB := Aside0.mk (Below.refl w.heap.size w)
  have hm0 := hr0.2.1
  have hm1 := hr1.2.1
  clear hr0 hr1 hmin
  go_enter Try.func81, Try.ntmps81
  go_wp2_with (first
    | ((with_reducible refine gate_dst (N := 12) rfl ?_); refine Kd.R_make (Kd.int .u8) _ 5 rfl (N := 12) rfl 22 _ _ rfl (l1.length : Int) (by go_simp) (by go_simp) Try.underlying22 (.int .u8 0) 1 info_u8 rfl (by decide) (by omega) 0 (ok := fun _ => True) (okp := fun _ => True) rfl (fun _ hk => hk) trivial (by omega) (by omega) (Below.refl _ _) (Nat.le_refl _) ?_; intro v w1 ho hb hg_ hnew_; clear hg_ hnew_; rw [Int.toNat_natCast] at ho; obtain ⟨Av, cv, rfl, hcv, hrd⟩ := Kd.R_reads ho; clear hrd; simp only [List.length_replicate] at ho hcv; clear HB; have HB := Aside0.mk hb; have HO := Aside0.mk ho; clear hb ho)
    | ((with_reducible refine gate_builtin (b := .copy) (xs := #[.tmp 13, .tmp 14]) rfl ?_); refine R_copy (k := .u8) (w0 := w) rfl (.tmp 13) (.tmp 14) 22 22 rfl 5 Try.underlying22 size_u8 (by rfl) (by rfl) HO.out (Kd.C_below HR0.out HB.out) HB.out ?_; intro w2 ho hb; clear HO HB; have HB := Aside0.mk hb; have HO := Aside0.mk ho; clear hb ho))
  have HO2 : Aside0 (Kd.R (Kd.int .u8) 5 w2 w.heap.size (fun _ => True) (.slice Av l1.length cv) (xorTo l0 l1 l1.length 0)) := ⟨by
    have e0 : xorTo l0 l1 l1.length 0 = over (List.replicate l1.length 0) l0 := by
      rw [xorTo_zero]; unfold over splice
      rw [List.take_zero, List.nil_append, List.length_replicate, List.drop_eq_nil_of_le (by simp <;> omega), List.append_nil]
    rw [e0]; exact HO.out⟩
  clear HO
  go_loopg [18] l1.length (fun kq i w' => ∃ j : Nat, j + kq = l1.length ∧ i = .int .i64 j ∧ Aside0 (Kd.R (Kd.int .u8) 5 w' w.heap.size (fun _ => True) (.slice Av l1.length cv) (xorTo l0 l1 l1.length j)) ∧ Aside0 (Below w.heap.size w w'))
  case atStart => exact ⟨0, by omega, rfl, HO2, HB⟩
  case round =>
    clear HB HO2
    obtain ⟨j, hj, rfl, HO, HB⟩ := hrel
    cases gk with
    | zero =>
      obtain rfl : j = l1.length := by omega
      go_wp2
      go_ret
      exact ⟨_, rfl, by rw [← xorTo_end l0 l1 l1.length HN.out]; exact HO.out, HB.out⟩
    | succ k1 =>
      have hlt : j < l1.length := by omega
      have hlen : (xorTo l0 l1 l1.length j).length = l1.length := xorTo_length _ _ _ _ (by omega) (by omega) (by omega)
      obtain ⟨g, cap, hv, hbg, hgl, cells, hcells⟩ := Kd.R_form HO.out (by omega)
      rw [hlen] at hv
      obtain rfl : Av = some ⟨g, 0, none⟩ := by injection hv
      clear hv
      obtain ⟨hx, hf⟩ := Kd.R_celln 0 HO.out (j : Int) (by omega) (by omega)
      obtain ⟨ad, rfl, hy⟩ := Kd.at_int (Kd.C_below HR1.out HB.out) (j : Int) (by omega) (by omega)
      rw [Int.toNat_natCast] at hx hf hy
      have ex : rdOf 0 (xorTo l0 l1 l1.length j) (j : Int) = l0.getD j 0 := by
        unfold rdOf
        rw [Int.toNat_natCast]
        exact xorTo_rd _ _ _ _ (by omega) (by omega) hlt
      have ey : rd l1 (j : Int) = l1.getD j 0 := by unfold rd; rw [Int.toNat_natCast]
      rw [ex] at hx
      rw [ey] at hy
      have HP := Kd.R_putg HO.out (j : Int) (Go.bits .xor .u8 (l0.getD j 0) (l1.getD j 0))
      rw [Int.toNat_natCast, xorTo_step _ _ _ _ (by omega) (by omega) hlt] at HP
      have HG := Aside0.mk hbg
      have HJ := Aside0.mk hj
      have HC := Aside0.mk HP.1
      clear HP ex ey hlen hcells hgl hbg hj
      generalize l0.getD j 0 = x at *
      generalize l1.getD j 0 = y at *
      go_wp2
      go_region
      all_goals
        go_wp2
        go_roundg k1
        case measure => omega
        case rel => exact ⟨j + 1, by have := HJ.out; omega, by go_num, ⟨Kd.R_drew HC.out⟩, ⟨below_drew (below_set HB.out HG.out)⟩⟩
set_option maxHeartbeats 4000000 in
set_option maxRecDepth 100000 in
theorem xor_ge (A0 : Option Addr) (c0 : Nat) (l0 : List Int) (A1 : Option Addr) (c1 : Nat) (l1 : List Int) (w : World) (hr0 : Kd.C (Kd.int .u8) w A0 l0.length l0) (hr1 : Kd.C (Kd.int .u8) w A1 l1.length l1) (hlim : l0.length ≤ 281474976710656) (hcase : ¬ l1.length < l0.length) :
    Calls Try.prog 81 #[.slice A0 l0.length c0, .slice A1 l1.length c1] w fun e w' => ∃ v0_ : Value, e = .returned (v0_) ∧ Kd.R (Kd.int .u8) 5 w' w.heap.size (fun _ => True) v0_ (xorL l0 l1) ∧ Below w.heap.size w w' := by
  have hmin : l0.length = min l0.length l1.length := by omega
  have HN := Aside0.mk hmin
  have HR0 := Aside0.mk hr0
  have HR1 := Aside0.mk hr1
  have HB := Aside0.mk (Below.refl w.heap.size w)
  have hm0 := hr0.2.1
  have hm1 := hr1.2.1
  clear hr0 hr1 hmin
  go_enter Try.func81, Try.ntmps81
  go_wp2_with (first
    | ((with_reducible refine gate_dst (N := 12) rfl ?_); refine Kd.R_make (Kd.int .u8) _ 5 rfl (N := 12) rfl 22 _ _ rfl (l0.length : Int) (by go_simp) (by go_simp) Try.underlying22 (.int .u8 0) 1 info_u8 rfl (by decide) (by omega) 0 (ok := fun _ => True) (okp := fun _ => True) rfl (fun _ hk => hk) trivial (by omega) (by omega) (Below.refl _ _) (Nat.le_refl _) ?_; intro v w1 ho hb hg_ hnew_; clear hg_ hnew_; rw [Int.toNat_natCast] at ho; obtain ⟨Av, cv, rfl, hcv, hrd⟩ := Kd.R_reads ho; clear hrd; simp only [List.length_replicate] at ho hcv; clear HB; have HB := Aside0.mk hb; have HO := Aside0.mk ho; clear hb ho)
    | ((with_reducible refine gate_builtin (b := .copy) (xs := #[.tmp 13, .tmp 14]) rfl ?_); refine R_copy (k := .u8) (w0 := w) rfl (.tmp 13) (.tmp 14) 22 22 rfl 5 Try.underlying22 size_u8 (by rfl) (by rfl) HO.out (Kd.C_below HR0.out HB.out) HB.out ?_; intro w2 ho hb; clear HO HB; have HB := Aside0.mk hb; have HO := Aside0.mk ho; clear hb ho))
  have HO2 : Aside0 (Kd.R (Kd.int .u8) 5 w2 w.heap.size (fun _ => True) (.slice Av l0.length cv) (xorTo l0 l1 l0.length 0)) := ⟨by
    have e0 : xorTo l0 l1 l0.length 0 = over (List.replicate l0.length 0) l0 := by
      rw [xorTo_zero]; unfold over splice
      rw [List.take_zero, List.nil_append, List.length_replicate, List.drop_eq_nil_of_le (by simp <;> omega), List.append_nil]
    rw [e0]; exact HO.out⟩
  clear HO
  go_loopg [18] l0.length (fun kq i w' => ∃ j : Nat, j + kq = l0.length ∧ i = .int .i64 j ∧ Aside0 (Kd.R (Kd.int .u8) 5 w' w.heap.size (fun _ => True) (.slice Av l0.length cv) (xorTo l0 l1 l0.length j)) ∧ Aside0 (Below w.heap.size w w'))
  case atStart => exact ⟨0, by omega, rfl, HO2, HB⟩
  case round =>
    clear HB HO2
    obtain ⟨j, hj, rfl, HO, HB⟩ := hrel
    cases gk with
    | zero =>
      obtain rfl : j = l0.length := by omega
      go_wp2
      go_ret
      exact ⟨_, rfl, by rw [← xorTo_end l0 l1 l0.length HN.out]; exact HO.out, HB.out⟩
    | succ k1 =>
      have hlt : j < l0.length := by omega
      have hlen : (xorTo l0 l1 l0.length j).length = l0.length := xorTo_length _ _ _ _ (by omega) (by omega) (by omega)
      obtain ⟨g, cap, hv, hbg, hgl, cells, hcells⟩ := Kd.R_form HO.out (by omega)
      rw [hlen] at hv
      obtain rfl : Av = some ⟨g, 0, none⟩ := by injection hv
      clear hv
      obtain ⟨hx, hf⟩ := Kd.R_celln 0 HO.out (j : Int) (by omega) (by omega)
      obtain ⟨ad, rfl, hy⟩ := Kd.at_int (Kd.C_below HR1.out HB.out) (j : Int) (by omega) (by omega)
      rw [Int.toNat_natCast] at hx hf hy
      have ex : rdOf 0 (xorTo l0 l1 l0.length j) (j : Int) = l0.getD j 0 := by
        unfold rdOf
        rw [Int.toNat_natCast]
        exact xorTo_rd _ _ _ _ (by omega) (by omega) hlt
      have ey : rd l1 (j : Int) = l1.getD j 0 := by unfold rd; rw [Int.toNat_natCast]
      rw [ex] at hx
      rw [ey] at hy
      have HP := Kd.R_putg HO.out (j : Int) (Go.bits .xor .u8 (l0.getD j 0) (l1.getD j 0))
      rw [Int.toNat_natCast, xorTo_step _ _ _ _ (by omega) (by omega) hlt] at HP
      have HG := Aside0.mk hbg
      have HJ := Aside0.mk hj
      have HC := Aside0.mk HP.1
      clear HP ex ey hlen hcells hgl hbg hj
      generalize l0.getD j 0 = x at *
      generalize l1.getD j 0 = y at *
      go_wp2
      go_region
      all_goals
        go_wp2
        go_roundg k1
        case measure => omega
        case rel => exact ⟨j + 1, by have := HJ.out; omega, by go_num, ⟨Kd.R_drew HC.out⟩, ⟨below_drew (below_set HB.out HG.out)⟩⟩

theorem octet_Xor.calls (A0 : Option Addr) (c0 : Nat) (l0 : List Int) (A1 : Option Addr) (c1 : Nat) (l1 : List Int) (r : List Int) (w : World) (hr0 : Kd.C (Kd.int .u8) w A0 l0.length l0) (hc0 : l0.length ≤ c0) (hr1 : Kd.C (Kd.int .u8) w A1 l1.length l1) (hc1 : l1.length ≤ c1) (h : octet_Xor.f l0 l1 = some r) :
    Calls Try.prog 81 #[.slice A0 l0.length c0, .slice A1 l1.length c1] w fun e w' => ∃ v0_ : Value, e = .returned (v0_) ∧ Kd.R (Kd.int .u8) 5 w' w.heap.size (fun _ => True) v0_ r ∧ Below w.heap.size w w' := by
  unfold octet_Xor.f at h
  split at h
  case isFalse => cases h
  case isTrue hlim =>
    obtain rfl := Option.some.inj h
    by_cases hc : l1.length < l0.length
    · exact xor_lt A0 c0 l0 A1 c1 l1 w hr0 hr1 (by omega) hc
    · exact xor_ge A0 c0 l0 A1 c1 l1 w hr0 hr1 (by omega) hc

/-- Counted on by 1: from place i - 1 on to the front, while there is a carry. -/
def incGo : Nat → List Int → List Int
  | 0, l => l
  | i + 1, l => if (l.getD i 0 + 1) % 256 = 0 then incGo i (l.set i ((l.getD i 0 + 1) % 256)) else l.set i ((l.getD i 0 + 1) % 256)
theorem incGo_length : ∀ i l, (incGo i l).length = l.length
  | 0, _ => rfl
  | i + 1, l => by
    unfold incGo
    split
    · rw [incGo_length i, List.length_set]
    · rw [List.length_set]
def octet_Inc.f (l0 : List Int) : Option (List Int) := if l0.length ≤ 281474976710656 then some (incGo l0.length l0) else none

set_option maxHeartbeats 4000000 in
set_option maxRecDepth 100000 in
theorem octet_Inc.calls (A0 : Option Addr) (c0 : Nat) (l0 : List Int) (r : List Int) (w : World) (hr0 : Kd.C (Kd.int .u8) w A0 l0.length l0) (hc0 : l0.length ≤ c0) (h : octet_Inc.f l0 = some r) :
    Calls Try.prog 95 #[.slice A0 l0.length c0] w fun e w' => ∃ v0_ : Value, e = .returned (v0_) ∧ Kd.R (Kd.int .u8) 5 w' w.heap.size (fun _ => True) v0_ r ∧ Below w.heap.size w w' := by
  unfold octet_Inc.f at h
  split at h
  case isFalse => cases h
  case isTrue hlim =>
    obtain rfl := Option.some.inj h
    clear h
    have HR0 := Aside0.mk hr0
    have HB := Aside0.mk (Below.refl w.heap.size w)
    have hm0 := hr0.2.1
    clear hr0 hc0
    go_enter Try.func95, Try.ntmps95
    go_wp2_with (first
      | ((with_reducible refine gate_dst (N := 7) rfl ?_); refine Kd.R_make (Kd.int .u8) _ 5 rfl (N := 7) rfl 22 _ _ rfl (l0.length : Int) (by go_simp) (by go_simp) Try.underlying22 (.int .u8 0) 1 info_u8 rfl (by decide) (by omega) 0 (ok := fun _ => True) (okp := fun _ => True) rfl (fun _ hk => hk) trivial (by omega) (by omega) (Below.refl _ _) (Nat.le_refl _) ?_; intro v w1 ho hb hg_ hnew_; clear hg_ hnew_; rw [Int.toNat_natCast] at ho; obtain ⟨Av, cv, rfl, hcv, hrd⟩ := Kd.R_reads ho; clear hrd; simp only [List.length_replicate] at ho hcv; clear HB; have HB := Aside0.mk hb; have HO := Aside0.mk ho; clear hb ho)
      | ((with_reducible refine gate_builtin (b := .copy) (xs := #[.tmp 8, .tmp 9]) rfl ?_); refine R_copy (k := .u8) (w0 := w) rfl (.tmp 8) (.tmp 9) 22 22 rfl 5 Try.underlying22 size_u8 (by rfl) (by rfl) HO.out (Kd.C_below HR0.out HB.out) HB.out ?_; intro w2 ho hb; clear HO HB; have HB := Aside0.mk hb; have HO := Aside0.mk ho; clear hb ho))
    have HO2 : Aside0 (Kd.R (Kd.int .u8) 5 w2 w.heap.size (fun _ => True) (.slice Av l0.length cv) l0) := ⟨by
      have e0 : l0 = over (List.replicate l0.length 0) l0 := by
        unfold over splice
        rw [List.take_zero, List.nil_append, List.length_replicate, List.drop_eq_nil_of_le (by simp), List.append_nil, List.take_length]
      exact (congrArg (Kd.R (Kd.int .u8) 5 w2 w.heap.size (fun _ => True) (.slice Av l0.length cv)) e0).mpr HO.out⟩
    clear HO
    have HT := Aside0.mk (rfl : incGo l0.length l0 = incGo l0.length l0)
    go_loopg [4] l0.length (fun kq i w' => ∃ l : List Int, i = .int .i64 ((kq : Int) - 1) ∧ kq ≤ l0.length ∧ Aside0 (incGo kq l = incGo l0.length l0) ∧ Aside0 (l.length = l0.length) ∧ Aside0 (Kd.R (Kd.int .u8) 5 w' w.heap.size (fun _ => True) (.slice Av l0.length cv) l) ∧ Aside0 (Below w.heap.size w w'))
    case atStart => exact ⟨l0, by go_num, by omega, HT, ⟨rfl⟩, HO2, HB⟩
    case round =>
      clear HB HO2 HT
      obtain ⟨l, rfl, hk, HT, HL, HO, HB⟩ := hrel
      cases gk with
      | zero =>
        go_wp2
        go_ret
        exact ⟨_, rfl, by rw [← HT.out]; exact HO.out, HB.out⟩
      | succ k1 =>
        have e1 : ((k1 + 1 : Nat) : Int) - 1 = (k1 : Int) := by omega
        rw [e1]
        clear e1
        have hll := HL.out
        obtain ⟨g, cap, hv, hbg, hgl, cells, hcells⟩ := Kd.R_form HO.out (by omega)
        rw [hll] at hv
        obtain rfl : Av = some ⟨g, 0, none⟩ := by injection hv
        obtain ⟨hx, hf⟩ := Kd.R_celln 0 HO.out (k1 : Int) (by omega) (by omega)
        rw [Int.toNat_natCast] at hx hf
        have ex : rdOf 0 l (k1 : Int) = l.getD k1 0 := by unfold rdOf; rw [Int.toNat_natCast]
        rw [ex] at hx
        have HP := Kd.R_putg HO.out (k1 : Int) ((l.getD k1 0 + 1) % 256)
        rw [Int.toNat_natCast] at HP
        have HG := Aside0.mk hbg
        have HC := Aside0.mk HP.1
        have hT := HT.out
        have hU : incGo (k1 + 1) l = if (l.getD k1 0 + 1) % 256 = 0 then incGo k1 (l.set k1 ((l.getD k1 0 + 1) % 256)) else l.set k1 ((l.getD k1 0 + 1) % 256) := rfl
        rw [hU] at hT
        have hT1 : (l.getD k1 0 + 1) % 256 = 0 → incGo k1 (l.set k1 ((l.getD k1 0 + 1) % 256)) = incGo l0.length l0 := fun h => by rw [if_pos h] at hT; exact hT
        have hT2 : ¬ (l.getD k1 0 + 1) % 256 = 0 → l.set k1 ((l.getD k1 0 + 1) % 256) = incGo l0.length l0 := fun h => by rw [if_neg h] at hT; exact hT
        have HT1 := Aside0.mk hT1
        have HT2 := Aside0.mk hT2
        have HL2 := Aside0.mk (show (l.set k1 ((l.getD k1 0 + 1) % 256)).length = l0.length by rw [List.length_set]; exact hll)
        clear HP ex hv hcells hgl hbg hll hT hT1 hT2 hU HT HO
        obtain ⟨y, hy⟩ : ∃ y, y = (l.getD k1 0 + 1) % 256 := ⟨_, rfl⟩
        rw [← hy] at HC HT1 HT2 HL2
        generalize l.getD k1 0 = x at *
        by_cases hz : y = 0
        · have hz1 : ((x + 1) % 256 != 0) = false := by rw [← hy, hz]; rfl
          have HY := Aside0.mk hy
          have HZ := Aside0.mk hz
          clear hy hz
          go_wp2
          go_roundg k1
          case measure => omega
          case rel => exact ⟨l.set k1 y, by go_num, by omega, ⟨HT1.out HZ.out⟩, HL2, ⟨by rw [HY.out] at HC ⊢; exact HC.out⟩, ⟨below_set HB.out HG.out⟩⟩
        · have hz1 : ((x + 1) % 256 != 0) = true := by rw [← hy]; exact bne_iff_ne.2 hz
          have HY := Aside0.mk hy
          have HZ := Aside0.mk hz
          clear hy hz
          go_wp2
          go_ret
          exact ⟨_, rfl, by rw [← HT2.out HZ.out, HY.out]; rw [HY.out] at HC; exact HC.out, below_set HB.out HG.out⟩
end Go.Proofs.Ytpdikfmdnlhllaa.Octet
