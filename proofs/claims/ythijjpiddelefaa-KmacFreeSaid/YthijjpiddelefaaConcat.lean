/-
  slices.Concat of rows of bytes, walked: the rows, one behind the other, as a fresh row; in the form that the print gives its own contracts.
-/
import Derived.Test.YthijjpiddelefaaKit
namespace Go.Proofs.Ythijjpiddelefaa.Concat
open Go.RowKit Go.Proofs.YthijjpiddelefaaW.PrintWords Go.Proofs.YthijjpiddelefaaW.PrintLast Go.Proofs.YthijjpiddelefaaW.PrintMore Byte Copy HandKit
set_option linter.unusedVariables false
set_option linter.unusedSimpArgs false
set_option maxHeartbeats 4000000
set_option maxRecDepth 100000
/-- A string made of what may be shared. -/
theorem V_string {w : World} {src dst e e' base : Nat} {ok : Nat → Prop} {v : Value} {xs : List Int} (hs : Try.prog.underlying src = some (.slice e)) (he : Try.prog.underlying e = some (.int .u8)) (hd : Try.prog.underlying dst = some .string) (h : Kd.V (Kd.int .u8) e' w base ok v xs) : (convert src dst v).run Try.prog w = .ok (.string (strOfNums xs)) w := by
  obtain ⟨A, c, rfl, h2⟩ := h
  exact Kd.C_string hs he hd (Kd.V_reads' (e := e') (base := base) (ok := ok) ⟨A, c, rfl, h2⟩).2.2
def rd_L (xs : List (List Int)) (i : Int) : List Int := xs.getD i.toNat []
theorem at_L {w : World} {A : Option Addr} {n : Nat} {xs : List (List Int)} (h : Kd.C (Kd.slice 5 (Kd.int .u8)) w A n xs) (i : Int) (h0 : 0 ≤ i) (h1 : i < n) : ∃ ad A0 c0, A = some ad ∧ w.cell? (ad.add i.toNat) = some (.slice A0 (rd_L xs i).length c0) ∧ (rd_L xs i).length ≤ c0 ∧ Kd.C (Kd.int .u8) w A0 (rd_L xs i).length (rd_L xs i) := by
  obtain ⟨ad, c, e, _, hK, hc0⟩ := Kd.C_get h [] i h0 h1
  have hc : ∀ j u, c[j]? = some u → w.cell? (ad.add (i.toNat * 1 + j)) = some u := hc0
  obtain ⟨A0, c0, rfl, l0, g0⟩ := hK
  exact ⟨ad, A0, c0, e, by have hq := hc 0 _ rfl; rwa [Nat.mul_one, Nat.add_zero] at hq, l0, g0⟩
theorem grow_c (n : Nat) (hn : n ≤ 140737488355328) (w : World) : Calls Try.prog 88 #[.slice none 0 0, .int .i64 n] w fun e w' => ∃ v0_ : Value, e = .returned (v0_) ∧ Kd.R (Kd.int .u8) 5 w' w.heap.size (fun _ => True) v0_ [] ∧ Below w.heap.size w w' := by
  have HB := Aside0.mk (Below.refl w.heap.size w)
  have h1 : (0 : Int) ≤ (n : Int) := by omega
  rcases Nat.eq_zero_or_pos n with h0 | h0
  · subst h0
    go_enter Try.func88, Try.ntmps88
    go_wp2
    go_ret
    exact ⟨_, rfl, Kd.R_nil _ _ _ _ _, HB.out⟩
  · have h2 : (0 : Int) < (n : Int) := by omega
    go_enter Try.func88, Try.ntmps88
    go_wp2_with (first
      | ((with_reducible refine gate_builtin (b := .append) (xs := #[.tmp 20, .tmp 21]) rfl ?_); refine Kd.R_append_zeros (Kd.int .u8) (w0 := w) w.heap.size rfl (.tmp 20) (.tmp 21) 22 3 5 (.int .u8 0) 1 rfl Try.underlying22 Try.underlying3 info_u8 rfl (by decide) (by omega) (.slice none 0 0) [] 0 (n : Int) (fun _ => True) rfl rfl rfl (fun _ _ => trivial) (Kd.R_nil _ _ _ _ _) h1 HB.out (Nat.le_refl _) (by simp only [List.length_nil, Int.toNat_natCast]; omega) ?_; intro v1 w1 ho hb hg_ hat_; clear hg_ hat_; obtain ⟨Av, cv, rfl, hcv, hrd⟩ := Kd.R_reads ho; clear hrd; have HT := Aside0.mk (Kd.R_take (m := 0) ho (Nat.zero_le _)); have HB := Aside0.mk hb; clear hb ho hcv))
    go_ret
    exact ⟨_, rfl, HT.out, HB.out⟩
/-- How many bytes there are. -/
def total (l : List (List Int)) : Nat := l.flatten.length
theorem total_take (l : List (List Int)) (k : Nat) : total (l.take k) ≤ total l := by
  unfold total
  conv => rhs; rw [← List.take_append_drop k l, List.flatten_append, List.length_append]
  omega
theorem flatten_next (l : List (List Int)) (k : Nat) (hk : k < l.length) : (l.take (k + 1)).flatten = (l.take k).flatten ++ l.getD k [] := by
  rw [List.take_add_one, List.getElem?_eq_getElem hk, List.getD_eq_getElem?_getD, List.getElem?_eq_getElem hk, List.flatten_append]
  simp
theorem total_next (l : List (List Int)) (k : Nat) (hk : k < l.length) : total (l.take (k + 1)) = total (l.take k) + (l.getD k []).length := by
  unfold total
  rw [flatten_next l k hk, List.length_append]
def slices_Concat_byte_byte.f (l0 : List (List Int)) : Option (List Int) := if total l0 < 140737488355328 then some l0.flatten else none
theorem slices_Concat_byte_byte.calls (A0 : Option Addr) (c0 : Nat) (l0 : List (List Int)) (r : List Int) (w : World) (hr0 : Kd.C (Kd.slice 5 (Kd.int .u8)) w A0 l0.length l0) (hc0 : l0.length ≤ c0) (h : slices_Concat_byte_byte.f l0 = some r) :
    Calls Try.prog 64 #[.slice A0 l0.length c0] w fun e w' => ∃ v0_ : Value, e = .returned (v0_) ∧ Kd.R (Kd.int .u8) 5 w' w.heap.size (fun _ => True) v0_ r ∧ Below w.heap.size w w' := by
  have hlim : total l0 < 140737488355328 := by
    unfold slices_Concat_byte_byte.f at h
    split at h
    · assumption
    · cases h
  have hr : l0.flatten = r := by
    unfold slices_Concat_byte_byte.f at h
    rw [if_pos hlim] at h
    exact Option.some.inj h
  subst hr
  clear h
  have HB := Aside0.mk (Below.refl w.heap.size w)
  have HL := Aside0.mk hlim
  have HR0 := Aside0.mk hr0
  have CG := Aside0.mk grow_c
  have hm0 := hr0.2.1
  clear hr0 hlim hc0
  go_enter Try.func64, Try.ntmps64
  go_wp2
  go_loopg [3, 5, 11] l0.length (fun kq sz sv iv w' => ∃ k : Nat, k + kq = l0.length ∧ iv = .int .i64 k ∧ sz = .int .i64 (total (l0.take k) : Nat) ∧ Aside0 (Below w.heap.size w w'))
  case atStart => exact ⟨0, by omega, rfl, by simp [total], HB⟩
  case round =>
    clear HB
    obtain ⟨k, hk, rfl, rfl, HB⟩ := hrel
    cases gk with
    | zero =>
      obtain rfl : k = l0.length := by omega
      rw [List.take_length]
      have HT := HL.out
      have hT2 : total l0 ≤ 140737488355328 := by omega
      generalize hTT : total l0 = T at *
      have HTT := Aside0.mk hTT
      clear hTT
      go_wp2_with (first
        | (go_at_call 88; (with_reducible refine (CG.out T hT2 _).mono ?_); rintro e w1 ⟨v1, rfl, ho, hb⟩; have HO := Aside0.mk (Kd.R_lower ho (below_size HB.out)); have HB := Aside0.mk (below_step HB.out hb); clear ho hb))
      go_loopg [6, 8, 27] l0.length (fun kq ov sv iv w' => ∃ k : Nat, k + kq = l0.length ∧ iv = .int .i64 k ∧ Aside0 (Kd.R (Kd.int .u8) 5 w' w.heap.size (fun _ => True) ov (l0.take k).flatten) ∧ Aside0 (Below w.heap.size w w'))
      case atStart => exact ⟨0, by omega, rfl, HO, HB⟩
      case round =>
        clear HB HO
        obtain ⟨k, hk, rfl, HO, HB⟩ := hrel
        cases gk with
        | zero =>
          obtain rfl : k = l0.length := by omega
          go_wp2
          go_ret
          exact ⟨_, rfl, by have := HO.out; rwa [List.take_length] at this, HB.out⟩
        | succ k2 =>
          have hlt : k < l0.length := by omega
          have HK := Aside0.mk hk
          clear hk
          obtain ⟨ad, Ae, ce, rfl, hx, hle, hC⟩ := at_L (Kd.C_below HR0.out HB.out) (k : Int) (by omega) (by omega)
          rw [Int.toNat_natCast] at hx
          have hrdL : rd_L l0 (k : Int) = l0.getD k [] := by unfold rd_L; rw [Int.toNat_natCast]
          rw [hrdL] at hx hle hC
          have hfit : (l0.take k).flatten.length + (l0.getD k []).length ≤ 140737488355328 := by
            have h1 := total_next l0 k hlt
            have h2 := total_take l0 (k + 1)
            have h3 := HL.out
            unfold total at h1 h2
            have h4 := HTT.out
            unfold total at h4
            omega
          have HF := Aside0.mk hfit
          have HC := Aside0.mk hC
          have HN := Aside0.mk (flatten_next l0 k hlt)
          clear hfit hC hrdL hle
          generalize l0.getD k [] = row at *
          generalize (l0.take k).flatten = cur at *
          go_wp2_with (first
            | ((with_reducible refine gate_builtin (b := .append) (xs := #[.tmp 31, .tmp 32]) rfl ?_); refine Kd.R_append_rows (Kd.int .u8) (w0 := w) w.heap.size rfl (.tmp 31) (.tmp 32) 22 5 (.int .u8 0) 1 rfl Try.underlying22 info_u8 rfl (by decide) (by omega) _ cur row Ae row.length ce (fun _ => True) (fun _ => False) rfl rfl HO.out HC.out (fun _ _ h => h) (fun _ h => h.elim) (fun _ _ => trivial) HB.out (below_size HB.out) ?aL ?_; (case aL => have := HF.out; omega); intro v2 w5 ho hb hg hat; have HB := Aside0.mk hb; have HO2 := Aside0.mk ho; clear HO ho hb hg hat))
          go_roundg k2
          case measure => omega
          case rel => exact ⟨k + 1, by have := HK.out; omega, by go_num, ⟨by rw [HN.out]; exact HO2.out⟩, HB⟩
    | succ k1 =>
      have hlt : k < l0.length := by omega
      have HK := Aside0.mk hk
      clear hk
      obtain ⟨ad, Ae, ce, rfl, hx, hle, hC⟩ := at_L (Kd.C_below HR0.out HB.out) (k : Int) (by omega) (by omega)
      rw [Int.toNat_natCast] at hx
      have hrdL : rd_L l0 (k : Int) = l0.getD k [] := by unfold rd_L; rw [Int.toNat_natCast]
      rw [hrdL] at hx hle hC
      have HN := Aside0.mk (total_next l0 k hlt)
      have hmx : total (l0.take k) + (l0.getD k []).length < 140737488355328 := by
        have h2 := total_take l0 (k + 1)
        have h3 := HL.out
        have h1 := HN.out
        omega
      clear hC hrdL hle
      generalize (l0.getD k []).length = m at *
      generalize total (l0.take k) = t at *
      go_wp2
      go_roundg k1
      case measure => omega
      case rel => exact ⟨k + 1, by have := HK.out; omega, by go_num, by rw [HN.out]; go_num, HB⟩
end Go.Proofs.Ythijjpiddelefaa.Concat
