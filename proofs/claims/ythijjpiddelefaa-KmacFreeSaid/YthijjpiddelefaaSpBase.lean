/-
  Merged texts: ArrEq, OctMath, Store, CodeMath, RotC, Keccak, KecT, Theta, Move, PermS, WordS, SpMath: walks and plain lemmas; no condition.
-/
import Derived.Test.YthijjpiddelefaaMem
import Derived.ChangeKeysEq
import Derived.Test.YthijjpiddelefaaByte
import Derived.Test.YthijjpiddelefaaKit
import Derived.Lib.Bytes
import Derived.Test.YthijjpiddelefaaPKecx
namespace Go.Proofs.Ythijjpiddelefaa.ArrEq
open Go.RowKit Go.Proofs.YthijjpiddelefaaW.PrintWords Arr Mem
variable {k : IntKind} {P : Program}
theorem run_eqItems_int {e : TypeId} {k' : IntKind} {inf : TypeInfo} (d : Nat) (he : P.underlying e = some (.int k')) (hi : P.info? e = some inf) (hs : inf.size = 1) (a b : List Int) (w : World) : ∀ is : List Nat, (∀ i ∈ is, i < a.length ∧ i < b.length) →
    (Op.eqItems (d + 1) e 1 (cellsOf k a) (cellsOf k b) is).run P w = .ok (is.all fun i => a.getD i 0 == b.getD i 0) w
  | [], _ => by simp [Op.eqItems]
  | i :: is, h => by
    have hagg : (isAgg e).run P w = .ok false w := by
      unfold isAgg
      rw [Sem.run_bind, run_underlying he w]
      rfl
    have hp : ∀ l : List Int, i < l.length → (part e (cellsOf k l) (i * 1)).run P w = .ok (.int k (l.getD i 0)) w := by
      intro l hl
      have hc : (cellsOf k l)[i]? = some (.int k (l.getD i 0)) := by
        rw [cellsOf_get, List.getElem?_eq_getElem hl, List.getD_eq_getElem?_getD, List.getElem?_eq_getElem hl]; rfl
      simp [part, Sem.run_bind, hagg, hc, go_sem]
    have hrec := run_eqItems_int d he hi hs a b w is (fun j hj => h j (List.mem_cons_of_mem _ hj))
    simp only [Op.eqItems, Sem.run_bind, hp a (h i (List.mem_cons_self ..)).1, hp b (h i (List.mem_cons_self ..)).2, Result.andThen_ok, run_equalIn_int w d e k k' _ _ he, List.all_cons]
    cases a.getD i 0 == b.getD i 0
    · simp
    · simpa using hrec
theorem all_eq (a b : List Int) (h : a.length = b.length) : ((List.range a.length).all fun i => a.getD i 0 == b.getD i 0) = decide (a = b) := by
  rw [Bool.eq_iff_iff, List.all_eq_true, decide_eq_true_iff]
  constructor
  · intro hh
    refine List.ext_getElem h fun i h1 h2 => ?_
    have := hh i (List.mem_range.2 h1)
    simpa [List.getD_eq_getElem?_getD, h1, h2] using this
  · rintro rfl i _
    simp
/-- Two arrays, compared. -/
theorem run_equal_arr {t e : TypeId} {n : Nat} {k' : IntKind} (ht : P.underlying t = some (.array n e)) (he : P.underlying e = some (.int k')) (hs : (P.info? e).map (·.size) = some 1) (a b : List Int) (ha : a.length = n) (hb : b.length = n) (w : World) :
    (Op.equal t (.agg (cellsOf k a)) (.agg (cellsOf k b))).run P w = .ok (decide (a = b)) w := by
  cases hq : P.info? e with
  | none => simp [hq] at hs
  | some inf =>
    have hsz : inf.size = 1 := by simpa [hq] using hs
    have hco : P.cellsOf e = 1 := by simp [Program.cellsOf, hq, hsz]
    unfold Op.equal
    rw [show Op.maxDepth = 9999 + 1 from rfl, run_equalIn_array w 9999 _ _ ht hq, hco, run_eqItems_int 9998 he hq hsz a b w _ (fun i hi => by rw [List.mem_range] at hi; omega), ← all_eq a b (by omega), ha]
theorem run_eql_arr {t e : TypeId} {n : Nat} {k' : IntKind} (ht : P.underlying t = some (.array n e)) (he : P.underlying e = some (.int k')) (hs : (P.info? e).map (·.size) = some 1) (a b : List Int) (ha : a.length = n) (hb : b.length = n) (w : World) :
    (binOp .eql t (.agg (cellsOf k a)) (.agg (cellsOf k b))).run P w = .ok (.bool (decide (a = b))) w := by
  rw [run_eql_struct]
  have := run_equal_arr (k := k) ht he hs a b ha hb w
  unfold Op.equal at this
  rw [show Op.maxDepth = 10000 from rfl] at this
  rw [this]; rfl
theorem run_neq_arr {t e : TypeId} {n : Nat} {k' : IntKind} (ht : P.underlying t = some (.array n e)) (he : P.underlying e = some (.int k')) (hs : (P.info? e).map (·.size) = some 1) (a b : List Int) (ha : a.length = n) (hb : b.length = n) (w : World) :
    (binOp .neq t (.agg (cellsOf k a)) (.agg (cellsOf k b))).run P w = .ok (.bool (!decide (a = b))) w := by
  rw [run_neq_struct]
  have := run_equal_arr (k := k) ht he hs a b ha hb w
  unfold Op.equal at this
  rw [show Op.maxDepth = 10000 from rfl] at this
  rw [this]; rfl
/-- A zero value is built. -/
theorem wpList_build_zero {ops : Array Oper} {rest : List Oper} {o : Oper} {a : Act} {w : World} {Q : Exit → Act → World → Prop} (hg : o.guard = none) (t : TypeId) (ho : o.op = .build t #[]) (cs : Array Value) (hb : P.built t [] = some cs)
    (h : wpList P ops Q rest (a.put o.dst (.agg cs)) w) : wpList P ops Q (o :: rest) a w :=
  wpList_build hg t #[] ho (by simp only [List.map_toArray, List.map_nil]; rw [hb]; rfl) (by simp only [List.map_toArray, List.map_nil]; rw [hb]; exact h)
end Go.Proofs.Ythijjpiddelefaa.ArrEq
namespace Go.Proofs.Ythijjpiddelefaa.OctMath
open Byte
/-- A word, rotated to the left by m bits, below 64. -/
def rot (x : BitVec 64) (m : Nat) : BitVec 64 := x <<< m ||| x >>> (64 - m)
theorem rot_bit (x : BitVec 64) (m i : Nat) (hm : m < 64) (hi : i < 64) : (rot x m).getLsbD i = x.getLsbD ((i + (64 - m)) % 64) := by
  unfold rot
  rw [BitVec.getLsbD_or, BitVec.getLsbD_shiftLeft, BitVec.getLsbD_ushiftRight]
  by_cases h : i < m
  · rw [show (i + (64 - m)) % 64 = 64 - m + i by omega]
    simp [h]
  · have e : (i + (64 - m)) % 64 = i - m := by omega
    rw [e, BitVec.getLsbD_of_ge x (64 - m + i) (by omega)]
    simp [h, hi]
theorem rot_zero (x : BitVec 64) : rot x 0 = x := by
  apply BitVec.eq_of_getLsbD_eq
  intro i hi
  rw [rot_bit x 0 i (by decide) hi]
  congr 1; omega
theorem rot_rot (x : BitVec 64) (m n : Nat) (hm : m < 64) (hn : n < 64) : rot (rot x m) n = rot x ((m + n) % 64) := by
  apply BitVec.eq_of_getLsbD_eq
  intro i hi
  rw [rot_bit _ n i hn hi, rot_bit x m _ hm (by omega), rot_bit x _ i (by omega) hi]
  congr 1; omega
theorem rot_xor (x y : BitVec 64) (m : Nat) : rot (x ^^^ y) m = rot x m ^^^ rot y m := by
  unfold rot
  apply BitVec.eq_of_getLsbD_eq
  intro i hi
  simp only [BitVec.getLsbD_or, BitVec.getLsbD_xor, BitVec.getLsbD_shiftLeft, BitVec.getLsbD_ushiftRight]
  by_cases h : i < m
  · simp [h]
  · by_cases h0 : m = 0
    · subst h0; simp [hi]
    · rw [BitVec.getLsbD_of_ge x (64 - m + i) (by omega), BitVec.getLsbD_of_ge y (64 - m + i) (by omega)]
      simp [h, hi]
/-- One step to the left, as numbers. -/
theorem rot_one (x : BitVec 64) : (rot x 1).toNat = (x.toNat * 2) % 18446744073709551616 + x.toNat / 9223372036854775808 := by
  unfold rot
  have hx := x.isLt
  have h1 : (x <<< 1 ||| x >>> (64 - 1)).toNat = (x <<< 1).toNat ||| (x >>> 63).toNat := BitVec.toNat_or ..
  rw [h1, BitVec.toNat_shiftLeft, BitVec.toNat_ushiftRight, Nat.shiftLeft_eq, Nat.shiftRight_eq_div_pow]
  have h2 : x.toNat * 2 ^ 1 % 2 ^ 64 = 2 ^ 1 * (x.toNat % 2 ^ 63) := by omega
  have h3 : x.toNat / 2 ^ 63 < 2 ^ 1 := by omega
  rw [h2, ← Nat.two_pow_add_eq_or_of_lt h3]
/-- The lowest n bits. -/
def low (n : Nat) : Nat := 2 ^ n - 1
theorem low_succ (n : Nat) : low (n + 1) = low n * 2 + 1 := by
  unfold low; have := Nat.two_pow_pos n; rw [Nat.pow_succ]; omega
theorem low_lt (n : Nat) (h : n ≤ 64) : low n < 18446744073709551616 := by
  unfold low; have : 2 ^ n ≤ 2 ^ 64 := Nat.pow_le_pow_right (by decide) h; have := Nat.two_pow_pos n; omega
/-- A number's lowest bytes. -/
def dg : Nat → Nat → List Nat
  | 0, _ => []
  | n + 1, x => x % 256 :: dg n (x / 256)
theorem dg_length : ∀ n x, (dg n x).length = n
  | 0, _ => rfl
  | n + 1, x => by simp [dg, dg_length n]
theorem dg_get : ∀ n x i, i < n → (dg n x)[i]? = some ((x / 256 ^ i) % 256)
  | 0, _, _, h => by omega
  | n + 1, x, 0, _ => by simp [dg]
  | n + 1, x, i + 1, h => by
    simp only [dg, List.getElem?_cons_succ]
    rw [dg_get n _ i (by omega), Nat.div_div_eq_div_mul, Nat.pow_succ, Nat.mul_comm 256]
/-- The number that bytes make, the lowest first. -/
def num : List Nat → Nat
  | [] => 0
  | x :: l => x + 256 * num l
theorem num_lt : ∀ l : List Nat, (∀ x ∈ l, x < 256) → num l < 256 ^ l.length
  | [], _ => by simp [num]
  | x :: l, h => by
    have h1 := num_lt l (fun y hy => h y (List.mem_cons_of_mem _ hy))
    have h2 := h x (List.mem_cons_self ..)
    simp only [num, List.length_cons, Nat.pow_succ]
    omega
theorem num_dg : ∀ n x, x < 256 ^ n → num (dg n x) = x
  | 0, x, h => by simp at h; simp [dg, num, h]
  | n + 1, x, h => by
    have : x / 256 < 256 ^ n := by rw [Nat.pow_succ] at h; omega
    simp only [dg, num, num_dg n _ this]
    omega
end Go.Proofs.Ythijjpiddelefaa.OctMath
namespace Go.Proofs.Ythijjpiddelefaa.Store
open Go.RowKit Go.Proofs.YthijjpiddelefaaW.PrintWords Go.Proofs.YthijjpiddelefaaW.PrintLast Go.Proofs.YthijjpiddelefaaW.PrintMore Byte Copy HandKit OctMath
attribute [local go_sem] max2_int min2_int max_two min_two max_three min_three max_four min_four
set_option linter.unusedVariables false
/-- How many bytes there are. -/
def cut8 (n : Int) : Nat := min n.toNat 8
def stL (x : Int) (m : Nat) : List Int := (List.range m).map fun i => shr .u64 x ((8 * i : Nat) : Int) % 256
theorem stL_length (x : Int) (m : Nat) : (stL x m).length = m := by simp [stL]
theorem stL_get (x : Int) (m i : Nat) (h : i < m) : (stL x m)[i]? = some (shr .u64 x ((8 * i : Nat) : Int) % 256) := by simp [stL, h]
def octet_Store.f (a0 a1 : Int) : Option (List Int) := some (stL a0 (cut8 a1))
def stTo (x : Int) (m i : Nat) : List Int := (stL x m).take i ++ List.replicate (m - i) 0
theorem stTo_length (x : Int) (m i : Nat) (h : i ≤ m) : (stTo x m i).length = m := by simp [stTo, stL_length]; omega
theorem stTo_step (x : Int) (m i : Nat) (h : i < m) : (stTo x m i).set i (shr .u64 x ((8 * i : Nat) : Int) % 256) = stTo x m (i + 1) := by
  unfold stTo
  rw [show m - i = (m - (i + 1)) + 1 by omega, List.replicate_succ, List.set_append_right _ _ (by simp [stL_length]; omega)]
  have e2 : i - ((stL x m).take i).length = 0 := by simp [stL_length]; omega
  rw [e2, List.set_cons_zero, List.take_add_one, stL_get x m i h]
  simp
theorem stTo_end (x : Int) (m : Nat) : stTo x m m = stL x m := by
  unfold stTo; rw [List.take_of_length_le (by rw [stL_length]; omega)]; simp
theorem stTo_zero (x : Int) (m : Nat) : stTo x m 0 = List.replicate m 0 := by simp [stTo]
set_option maxHeartbeats 4000000 in
set_option maxRecDepth 100000 in
theorem octet_Store.calls (a0 a1 : Int) (r : List Int) (w : World) (h : octet_Store.f a0 a1 = some r) :
    Calls Try.prog 82 #[.int .u64 a0, .int .i64 a1] w fun e w' => ∃ v0_ : Value, e = .returned (v0_) ∧ Kd.R (Kd.int .u8) 5 w' w.heap.size (fun _ => True) v0_ r ∧ Below w.heap.size w w' := by
  obtain rfl := Option.some.inj h
  clear h
  obtain ⟨m, hm⟩ : ∃ m, m = cut8 a1 := ⟨_, rfl⟩
  have hm8 : m ≤ 8 := by unfold cut8 at hm; omega
  have hmx : (a1 < 8 ∧ a1 < 0 ∧ m = 0) ∨ (a1 = 0 ∧ m = 0) ∨ (a1 ≤ 8 ∧ 0 < a1 ∧ a1 = m) ∨ (8 < a1 ∧ m = 8) := by unfold cut8 at hm; omega
  have HB := Aside0.mk (Below.refl w.heap.size w)
  rw [← hm]
  clear hm
  rcases hmx with ⟨c1, c2, c3⟩ | ⟨c1, c3⟩ | ⟨c1, c2, c3⟩ | ⟨c1, c3⟩
  case inl =>
    have hN : Aside0 ((0 : Int).toNat = m) := ⟨c3.symm⟩
    clear c3
    go_enter Try.func82, Try.ntmps82
    go_wp2_with ((with_reducible refine gate_dst (N := 10) rfl ?_); refine Kd.R_make (Kd.int .u8) _ 5 rfl (N := 10) rfl 22 _ _ rfl (0) (by go_simp) (by go_simp) Try.underlying22 (.int .u8 0) 1 info_u8 rfl (by decide) (by omega) 0 (ok := fun _ => True) (okp := fun _ => True) rfl (fun _ hk => hk) trivial (by omega) (by omega) (Below.refl _ _) (Nat.le_refl _) ?_; intro v w1 ho hb hg_ hnew_; clear hg_ hnew_; rw [hN.out] at ho; obtain ⟨Av, cv, rfl, hcv, hrd⟩ := Kd.R_reads ho; clear hrd; simp only [List.length_replicate] at ho hcv; clear HB; have HB := Aside0.mk hb; have HO := Aside0.mk ho; clear hb ho)
    have HO2 : Aside0 (Kd.R (Kd.int .u8) 5 w1 w.heap.size (fun _ => True) (.slice Av m cv) (stTo a0 m 0)) := ⟨by rw [stTo_zero]; exact HO.out⟩
    clear HO
    go_loopg [13] m (fun kq i w' => ∃ j : Nat, j + kq = m ∧ i = .int .i64 j ∧ Aside0 (Kd.R (Kd.int .u8) 5 w' w.heap.size (fun _ => True) (.slice Av m cv) (stTo a0 m j)) ∧ Aside0 (Below w.heap.size w w'))
    case atStart => exact ⟨0, by omega, rfl, HO2, HB⟩
    case round =>
      clear HB HO2
      obtain ⟨j, hj, rfl, HO, HB⟩ := hrel
      cases gk with
      | zero =>
        obtain rfl : j = m := by omega
        go_wp2
        go_ret
        exact ⟨_, rfl, by rw [← stTo_end a0 j]; exact HO.out, HB.out⟩
      | succ k1 =>
        have hlt : j < m := by omega
        have hlen : (stTo a0 m j).length = m := stTo_length _ _ _ (by omega)
        obtain ⟨g, cap, hv, hbg, hgl, cells, hcells⟩ := Kd.R_form HO.out (by omega)
        rw [hlen] at hv
        obtain rfl : Av = some ⟨g, 0, none⟩ := by injection hv
        obtain ⟨hx, hf⟩ := Kd.R_celln 0 HO.out (j : Int) (by omega) (by omega)
        rw [Int.toNat_natCast] at hx hf
        have HP := Kd.R_putg HO.out (j : Int) (shr .u64 a0 ((8 * j : Nat) : Int) % 256)
        rw [Int.toNat_natCast, stTo_step _ _ _ hlt] at HP
        have HG := Aside0.mk hbg
        have HJ := Aside0.mk hj
        have e1 : shr .u64 a0 ((8 * j : Nat) : Int) = a0 / 2 ^ (8 * j) := by
          unfold shr
          have : min (((8 * j : Nat) : Int).toNat) IntKind.u64.bits = 8 * j := by
            show min (((8 * j : Nat) : Int).toNat) 64 = 8 * j
            omega
          rw [this]
        rw [e1] at HP
        have HC := Aside0.mk HP.1
        have e2 : (8 * (j : Int)).toNat = 8 * j := by omega
        clear HP e1 hv hlen hcells hgl hbg hj
        go_wp2
        go_roundg k1
        case measure => omega
        case rel => exact ⟨j + 1, by have := HJ.out; omega, by go_num, HC, ⟨below_set HB.out HG.out⟩⟩
  case inr.inl =>
    have hN : Aside0 ((0 : Int).toNat = m) := ⟨c3.symm⟩
    subst c1
    clear c3
    go_enter Try.func82, Try.ntmps82
    go_wp2_with ((with_reducible refine gate_dst (N := 10) rfl ?_); refine Kd.R_make (Kd.int .u8) _ 5 rfl (N := 10) rfl 22 _ _ rfl (0) (by go_simp) (by go_simp) Try.underlying22 (.int .u8 0) 1 info_u8 rfl (by decide) (by omega) 0 (ok := fun _ => True) (okp := fun _ => True) rfl (fun _ hk => hk) trivial (by omega) (by omega) (Below.refl _ _) (Nat.le_refl _) ?_; intro v w1 ho hb hg_ hnew_; clear hg_ hnew_; rw [hN.out] at ho; obtain ⟨Av, cv, rfl, hcv, hrd⟩ := Kd.R_reads ho; clear hrd; simp only [List.length_replicate] at ho hcv; clear HB; have HB := Aside0.mk hb; have HO := Aside0.mk ho; clear hb ho)
    have HO2 : Aside0 (Kd.R (Kd.int .u8) 5 w1 w.heap.size (fun _ => True) (.slice Av m cv) (stTo a0 m 0)) := ⟨by rw [stTo_zero]; exact HO.out⟩
    clear HO
    go_loopg [13] m (fun kq i w' => ∃ j : Nat, j + kq = m ∧ i = .int .i64 j ∧ Aside0 (Kd.R (Kd.int .u8) 5 w' w.heap.size (fun _ => True) (.slice Av m cv) (stTo a0 m j)) ∧ Aside0 (Below w.heap.size w w'))
    case atStart => exact ⟨0, by omega, rfl, HO2, HB⟩
    case round =>
      clear HB HO2
      obtain ⟨j, hj, rfl, HO, HB⟩ := hrel
      cases gk with
      | zero =>
        obtain rfl : j = m := by omega
        go_wp2
        go_ret
        exact ⟨_, rfl, by rw [← stTo_end a0 j]; exact HO.out, HB.out⟩
      | succ k1 =>
        have hlt : j < m := by omega
        have hlen : (stTo a0 m j).length = m := stTo_length _ _ _ (by omega)
        obtain ⟨g, cap, hv, hbg, hgl, cells, hcells⟩ := Kd.R_form HO.out (by omega)
        rw [hlen] at hv
        obtain rfl : Av = some ⟨g, 0, none⟩ := by injection hv
        obtain ⟨hx, hf⟩ := Kd.R_celln 0 HO.out (j : Int) (by omega) (by omega)
        rw [Int.toNat_natCast] at hx hf
        have HP := Kd.R_putg HO.out (j : Int) (shr .u64 a0 ((8 * j : Nat) : Int) % 256)
        rw [Int.toNat_natCast, stTo_step _ _ _ hlt] at HP
        have HG := Aside0.mk hbg
        have HJ := Aside0.mk hj
        have e1 : shr .u64 a0 ((8 * j : Nat) : Int) = a0 / 2 ^ (8 * j) := by
          unfold shr
          have : min (((8 * j : Nat) : Int).toNat) IntKind.u64.bits = 8 * j := by
            show min (((8 * j : Nat) : Int).toNat) 64 = 8 * j
            omega
          rw [this]
        rw [e1] at HP
        have HC := Aside0.mk HP.1
        have e2 : (8 * (j : Int)).toNat = 8 * j := by omega
        clear HP e1 hv hlen hcells hgl hbg hj
        go_wp2
        go_roundg k1
        case measure => omega
        case rel => exact ⟨j + 1, by have := HJ.out; omega, by go_num, HC, ⟨below_set HB.out HG.out⟩⟩
  case inr.inr.inl =>
    subst c3
    have hN : Aside0 (((m : Nat) : Int).toNat = m) := ⟨by omega⟩
    have c4 : 0 < m := by omega
    clear c2
    go_enter Try.func82, Try.ntmps82
    go_wp2_with ((with_reducible refine gate_dst (N := 10) rfl ?_); refine Kd.R_make (Kd.int .u8) _ 5 rfl (N := 10) rfl 22 _ _ rfl ((m : Nat)) (by go_simp) (by go_simp) Try.underlying22 (.int .u8 0) 1 info_u8 rfl (by decide) (by omega) 0 (ok := fun _ => True) (okp := fun _ => True) rfl (fun _ hk => hk) trivial (by omega) (by omega) (Below.refl _ _) (Nat.le_refl _) ?_; intro v w1 ho hb hg_ hnew_; clear hg_ hnew_; rw [hN.out] at ho; obtain ⟨Av, cv, rfl, hcv, hrd⟩ := Kd.R_reads ho; clear hrd; simp only [List.length_replicate] at ho hcv; clear HB; have HB := Aside0.mk hb; have HO := Aside0.mk ho; clear hb ho)
    have HO2 : Aside0 (Kd.R (Kd.int .u8) 5 w1 w.heap.size (fun _ => True) (.slice Av m cv) (stTo a0 m 0)) := ⟨by rw [stTo_zero]; exact HO.out⟩
    clear HO
    go_loopg [13] m (fun kq i w' => ∃ j : Nat, j + kq = m ∧ i = .int .i64 j ∧ Aside0 (Kd.R (Kd.int .u8) 5 w' w.heap.size (fun _ => True) (.slice Av m cv) (stTo a0 m j)) ∧ Aside0 (Below w.heap.size w w'))
    case atStart => exact ⟨0, by omega, rfl, HO2, HB⟩
    case round =>
      clear HB HO2
      obtain ⟨j, hj, rfl, HO, HB⟩ := hrel
      cases gk with
      | zero =>
        obtain rfl : j = m := by omega
        go_wp2
        go_ret
        exact ⟨_, rfl, by rw [← stTo_end a0 j]; exact HO.out, HB.out⟩
      | succ k1 =>
        have hlt : j < m := by omega
        have hlen : (stTo a0 m j).length = m := stTo_length _ _ _ (by omega)
        obtain ⟨g, cap, hv, hbg, hgl, cells, hcells⟩ := Kd.R_form HO.out (by omega)
        rw [hlen] at hv
        obtain rfl : Av = some ⟨g, 0, none⟩ := by injection hv
        obtain ⟨hx, hf⟩ := Kd.R_celln 0 HO.out (j : Int) (by omega) (by omega)
        rw [Int.toNat_natCast] at hx hf
        have HP := Kd.R_putg HO.out (j : Int) (shr .u64 a0 ((8 * j : Nat) : Int) % 256)
        rw [Int.toNat_natCast, stTo_step _ _ _ hlt] at HP
        have HG := Aside0.mk hbg
        have HJ := Aside0.mk hj
        have e1 : shr .u64 a0 ((8 * j : Nat) : Int) = a0 / 2 ^ (8 * j) := by
          unfold shr
          have : min (((8 * j : Nat) : Int).toNat) IntKind.u64.bits = 8 * j := by
            show min (((8 * j : Nat) : Int).toNat) 64 = 8 * j
            omega
          rw [this]
        rw [e1] at HP
        have HC := Aside0.mk HP.1
        have e2 : (8 * (j : Int)).toNat = 8 * j := by omega
        clear HP e1 hv hlen hcells hgl hbg hj
        go_wp2
        go_roundg k1
        case measure => omega
        case rel => exact ⟨j + 1, by have := HJ.out; omega, by go_num, HC, ⟨below_set HB.out HG.out⟩⟩
  case inr.inr.inr =>
    have hN : Aside0 ((8 : Int).toNat = m) := ⟨c3.symm⟩
    clear c3
    go_enter Try.func82, Try.ntmps82
    go_wp2_with ((with_reducible refine gate_dst (N := 10) rfl ?_); refine Kd.R_make (Kd.int .u8) _ 5 rfl (N := 10) rfl 22 _ _ rfl (8) (by go_simp) (by go_simp) Try.underlying22 (.int .u8 0) 1 info_u8 rfl (by decide) (by omega) 0 (ok := fun _ => True) (okp := fun _ => True) rfl (fun _ hk => hk) trivial (by omega) (by omega) (Below.refl _ _) (Nat.le_refl _) ?_; intro v w1 ho hb hg_ hnew_; clear hg_ hnew_; rw [hN.out] at ho; obtain ⟨Av, cv, rfl, hcv, hrd⟩ := Kd.R_reads ho; clear hrd; simp only [List.length_replicate] at ho hcv; clear HB; have HB := Aside0.mk hb; have HO := Aside0.mk ho; clear hb ho)
    have HO2 : Aside0 (Kd.R (Kd.int .u8) 5 w1 w.heap.size (fun _ => True) (.slice Av m cv) (stTo a0 m 0)) := ⟨by rw [stTo_zero]; exact HO.out⟩
    clear HO
    go_loopg [13] m (fun kq i w' => ∃ j : Nat, j + kq = m ∧ i = .int .i64 j ∧ Aside0 (Kd.R (Kd.int .u8) 5 w' w.heap.size (fun _ => True) (.slice Av m cv) (stTo a0 m j)) ∧ Aside0 (Below w.heap.size w w'))
    case atStart => exact ⟨0, by omega, rfl, HO2, HB⟩
    case round =>
      clear HB HO2
      obtain ⟨j, hj, rfl, HO, HB⟩ := hrel
      cases gk with
      | zero =>
        obtain rfl : j = m := by omega
        go_wp2
        go_ret
        exact ⟨_, rfl, by rw [← stTo_end a0 j]; exact HO.out, HB.out⟩
      | succ k1 =>
        have hlt : j < m := by omega
        have hlen : (stTo a0 m j).length = m := stTo_length _ _ _ (by omega)
        obtain ⟨g, cap, hv, hbg, hgl, cells, hcells⟩ := Kd.R_form HO.out (by omega)
        rw [hlen] at hv
        obtain rfl : Av = some ⟨g, 0, none⟩ := by injection hv
        obtain ⟨hx, hf⟩ := Kd.R_celln 0 HO.out (j : Int) (by omega) (by omega)
        rw [Int.toNat_natCast] at hx hf
        have HP := Kd.R_putg HO.out (j : Int) (shr .u64 a0 ((8 * j : Nat) : Int) % 256)
        rw [Int.toNat_natCast, stTo_step _ _ _ hlt] at HP
        have HG := Aside0.mk hbg
        have HJ := Aside0.mk hj
        have e1 : shr .u64 a0 ((8 * j : Nat) : Int) = a0 / 2 ^ (8 * j) := by
          unfold shr
          have : min (((8 * j : Nat) : Int).toNat) IntKind.u64.bits = 8 * j := by
            show min (((8 * j : Nat) : Int).toNat) 64 = 8 * j
            omega
          rw [this]
        rw [e1] at HP
        have HC := Aside0.mk HP.1
        have e2 : (8 * (j : Int)).toNat = 8 * j := by omega
        clear HP e1 hv hlen hcells hgl hbg hj
        go_wp2
        go_roundg k1
        case measure => omega
        case rel => exact ⟨j + 1, by have := HJ.out; omega, by go_num, HC, ⟨below_set HB.out HG.out⟩⟩
end Go.Proofs.Ythijjpiddelefaa.Store
namespace Go.Proofs.Ythijjpiddelefaa.CodeMath
open Go.RowKit
set_option linter.unusedVariables false
def IsB (l : List Int) : Prop := ∀ x ∈ l, 0 ≤ x ∧ x < 256
theorem IsB.nil : IsB [] := fun _ h => by cases h
theorem IsB.append {a b : List Int} (ha : IsB a) (hb : IsB b) : IsB (a ++ b) := fun x hx => (List.mem_append.1 hx).elim (ha x) (hb x)
theorem IsB.take {a : List Int} (ha : IsB a) (n : Nat) : IsB (a.take n) := fun x hx => ha x (List.mem_of_mem_take hx)
theorem IsB.drop {a : List Int} (ha : IsB a) (n : Nat) : IsB (a.drop n) := fun x hx => ha x (List.mem_of_mem_drop hx)
theorem IsB.cons {x : Int} {a : List Int} (h0 : 0 ≤ x) (h1 : x < 256) (ha : IsB a) : IsB (x :: a) := fun y hy => by
  rcases List.mem_cons.1 hy with rfl | h
  · exact ⟨h0, h1⟩
  · exact ha y h
theorem IsB.of_wf {l : List Int} (h : ∀ x ∈ l, (Lit.int .u8 x).wf = true) : IsB l := fun x hx => Byte.wf_u8 (h x hx)
theorem IsB.getD {a : List Int} (ha : IsB a) (i : Nat) : 0 ≤ a.getD i 0 ∧ a.getD i 0 < 256 := by
  rw [List.getD_eq_getElem?_getD]
  rcases Nat.lt_or_ge i a.length with h | h
  · rw [List.getElem?_eq_getElem h]; exact ha _ (List.getElem_mem h)
  · rw [List.getElem?_eq_none h]; exact ⟨by decide, by decide⟩
theorem IsB.zeros (n : Nat) : IsB (List.replicate n 0) := fun x hx => by
  rw [(List.mem_replicate.1 hx).2]; exact ⟨by decide, by decide⟩
theorem str_eq (a b : List Int) (ha : IsB a) (hb : IsB b) : ((strOfNums a).toList = (strOfNums b).toList) ↔ a = b := by
  constructor
  · intro h
    rw [Go.Lib.strOfNums_toList, Go.Lib.strOfNums_toList] at h
    unfold Go.Lib.bytesOf at h
    have hlen : a.length = b.length := by have := congrArg List.length h; simpa using this
    refine List.ext_getElem hlen fun i h1 h2 => ?_
    have := congrArg (fun l => l[i]?) h
    simp only [List.getElem?_map, List.getElem?_eq_getElem h1, List.getElem?_eq_getElem h2, Option.map_some, Option.some.injEq] at this
    have h3 := congrArg UInt8.toNat this
    have ka := ha _ (List.getElem_mem h1)
    have kb := hb _ (List.getElem_mem h2)
    simp only [UInt8.toNat_ofNat'] at h3
    omega
  · rintro rfl; rfl
/-! ### digits -/
/-- The digits behind the lowest one, lowest first. -/
def tl (n : Nat) : List Int := if h : n = 0 then [] else ((n % 256 : Nat) : Int) :: tl (n / 256)
termination_by n
decreasing_by omega
theorem tl_zero : tl 0 = [] := by rw [tl]; rfl
theorem tl_pos {n : Nat} (h : 0 < n) : tl n = ((n % 256 : Nat) : Int) :: tl (n / 256) := by rw [tl, dif_neg (by omega)]
def digs (n : Nat) : List Int := (tl (n / 256)).reverse ++ [((n % 256 : Nat) : Int)]
theorem digs_small {n : Nat} (h : n < 256) : digs n = [(n : Int)] := by
  unfold digs
  rw [show n / 256 = 0 by omega, tl_zero, show n % 256 = n by omega]; rfl
theorem digs_step {n : Nat} (h : 256 ≤ n) : digs n = digs (n / 256) ++ [((n % 256 : Nat) : Int)] := by
  unfold digs
  rw [tl_pos (show 0 < n / 256 by omega), List.reverse_cons]
theorem tl_len : ∀ k n, n < 256 ^ k → (tl n).length ≤ k
  | 0, n, h => by
    obtain rfl : n = 0 := by simpa using h
    rw [tl_zero]; exact Nat.le_refl _
  | k + 1, n, h => by
    rcases Nat.eq_zero_or_pos n with rfl | hp
    · rw [tl_zero]; exact Nat.zero_le _
    · rw [tl_pos hp, List.length_cons]
      have := tl_len k (n / 256) (by rw [Nat.pow_succ] at h; omega)
      omega
theorem digs_len (k n : Nat) (h : n < 256 ^ (k + 1)) : (digs n).length ≤ k + 1 := by
  unfold digs
  have := tl_len k (n / 256) (by rw [Nat.pow_succ] at h; omega)
  simp; omega
theorem digs_pos (n : Nat) : 0 < (digs n).length := by unfold digs; simp
theorem tl_b : ∀ n, IsB (tl n) := by
  intro n
  induction n using Nat.strongRecOn with
  | _ n ih =>
    rcases Nat.eq_zero_or_pos n with rfl | hp
    · rw [tl_zero]; exact IsB.nil
    · rw [tl_pos hp]
      exact IsB.cons (by omega) (by omega) (ih _ (by omega))
theorem digs_b (n : Nat) : IsB (digs n) := by
  unfold digs
  refine IsB.append (fun x hx => tl_b _ x (List.mem_reverse.1 hx)) (IsB.cons (by omega) (by omega) IsB.nil)
def val (l : List Int) : Nat := l.foldl (fun a x => a * 256 + x.toNat) 0
theorem val_snoc (l : List Int) (x : Int) : val (l ++ [x]) = val l * 256 + x.toNat := by unfold val; rw [List.foldl_append]; rfl
theorem val_digs : ∀ n, val (digs n) = n := by
  intro n
  induction n using Nat.strongRecOn with
  | _ n ih =>
    rcases Nat.lt_or_ge n 256 with h | h
    · rw [digs_small h]; unfold val; simp
    · rw [digs_step h, val_snoc, ih _ (by omega)]; omega
theorem fold_ge (l : List Int) : ∀ a, a ≤ l.foldl (fun a x => a * 256 + x.toNat) a := by
  induction l with
  | nil => intro a; rw [List.foldl_nil]; exact Nat.le_refl _
  | cons x l ih =>
    intro a
    rw [List.foldl_cons]
    have h1 := ih (a * 256 + x.toNat)
    have h2 : a ≤ a * 256 + x.toNat := by omega
    exact Nat.le_trans h2 h1
theorem val_pos {l : List Int} (hb : IsB l) (h0 : 0 < l.length) (h : l.getD 0 0 ≠ 0) : 0 < val l := by
  cases l with
  | nil => simp at h0
  | cons x l =>
    have hx : x ≠ 0 := h
    have hx0 := (hb x (List.mem_cons_self ..)).1
    have h2 : 0 < x.toNat := by clear h hb h0; omega
    unfold val
    rw [List.foldl_cons, Nat.zero_mul, Nat.zero_add]
    exact Nat.lt_of_lt_of_le h2 (fold_ge l x.toNat)
theorem snoc_of {l : List Int} (h : 0 < l.length) : ∃ a x, l = a ++ [x] := ⟨l.dropLast, l.getLast (by intro h'; rw [h'] at h; simp at h), (List.dropLast_concat_getLast _).symm⟩
/-- Digits without a 0 ahead are those of their number. -/
theorem digs_val : ∀ n (l : List Int), l.length = n → 0 < n → IsB l → (1 < l.length → l.getD 0 0 ≠ 0) → digs (val l) = l := by
  intro n
  induction n with
  | zero => intro l _ h; omega
  | succ n ih =>
    intro l hl _ hb hm
    obtain ⟨a, x, rfl⟩ := snoc_of (by omega : 0 < l.length)
    have hx := hb x (by simp)
    have ha : IsB a := fun y hy => hb y (by simp [hy])
    rw [val_snoc]
    rcases Nat.eq_zero_or_pos a.length with h0 | h0
    · have : a = [] := List.eq_nil_of_length_eq_zero h0
      subst this
      have e : val [] = 0 := rfl
      rw [e, Nat.zero_mul, Nat.zero_add, digs_small (by omega)]
      simp; omega
    · have hlen : 1 < (a ++ [x]).length := by simp; omega
      have hm' := hm hlen
      have e0 : (a ++ [x]).getD 0 0 = a.getD 0 0 := by
        rw [List.getD_eq_getElem?_getD, List.getElem?_append_left h0, List.getD_eq_getElem?_getD]
      rw [e0] at hm'
      have hp := val_pos ha h0 hm'
      have key := ih a (by simp at hl; omega) (by simp at hl; omega) ha (fun _ => hm')
      have e2 : (val a * 256 + x.toNat) / 256 = val a := by omega
      have e3 : (val a * 256 + x.toNat) % 256 = x.toNat := by omega
      rw [digs_step (by omega), e2, e3, key]
      congr 2
      omega
theorem digs_head {n : Nat} (h : 256 ≤ n) : (digs n).getD 0 0 ≠ 0 := by
  induction n using Nat.strongRecOn with
  | _ n ih =>
    rw [digs_step h]
    have h0 := digs_pos (n / 256)
    rw [List.getD_eq_getElem?_getD, List.getElem?_append_left h0, ← List.getD_eq_getElem?_getD]
    rcases Nat.lt_or_ge (n / 256) 256 with h2 | h2
    · rw [digs_small h2]
      show ((n / 256 : Nat) : Int) ≠ 0
      omega
    · exact ih _ (by omega) h2
theorem digs_min (n : Nat) (h : 1 < (digs n).length) : (digs n).getD 0 0 ≠ 0 := by
  rcases Nat.lt_or_ge n 256 with h2 | h2
  · rw [digs_small h2] at h; simp at h
  · exact digs_head h2
/-! ### what stands ahead -/
def leftL (n : Nat) : List Int := ((digs n).length : Int) :: digs n
def rightL (n : Nat) : List Int := digs n ++ [((digs n).length : Int)]
def strL (l : List Int) : List Int := leftL (8 * l.length) ++ l
theorem leftL_len (n : Nat) : (leftL n).length = (digs n).length + 1 := by simp [leftL]
theorem leftL_b {n : Nat} (h : n < 256 ^ 9) : IsB (leftL n) := by
  have := digs_len 8 n h
  exact IsB.cons (by omega) (by omega) (digs_b n)
theorem rightL_b {n : Nat} (h : n < 256 ^ 9) : IsB (rightL n) := by
  have := digs_len 8 n h
  exact IsB.append (digs_b n) (IsB.cons (by omega) (by omega) IsB.nil)
theorem leftL_inj {a b : Nat} (h : leftL a = leftL b) : a = b := by
  unfold leftL at h
  rw [List.cons.injEq] at h
  rw [← val_digs a, ← val_digs b, h.2]
/-- Does l begin with a string of n bytes, that is put? -/
def Puts (l : List Int) (n : Nat) : Prop := (leftL (8 * n)).length ≤ 5 ∧ n + (leftL (8 * n)).length ≤ l.length ∧ l.take (leftL (8 * n)).length = leftL (8 * n)
instance (l : List Int) (n : Nat) : Decidable (Puts l n) := by unfold Puts; infer_instance
theorem Puts.head {l : List Int} {n : Nat} (h : Puts l n) : l.getD 0 0 = ((digs (8 * n)).length : Int) ∧ (l.drop 1).take (digs (8 * n)).length = digs (8 * n) := by
  obtain ⟨h1, h2, h3⟩ := h
  rw [leftL_len] at h1 h2 h3
  cases l with
  | nil => simp at h2
  | cons x l =>
    rw [List.take_succ_cons] at h3
    unfold leftL at h3
    rw [List.cons.injEq] at h3
    exact ⟨h3.1, h3.2⟩
theorem Puts.uniq {l : List Int} {n m : Nat} (hn : Puts l n) (hm : Puts l m) : n = m := by
  have h1 := hn.head
  have h2 := hm.head
  have e : (digs (8 * n)).length = (digs (8 * m)).length := by omega
  have e2 : digs (8 * n) = digs (8 * m) := by rw [← h1.2, ← h2.2, e]
  have := congrArg val e2
  rw [val_digs, val_digs] at this
  omega
/-- What a Take hands back: the string's bytes, how many bytes it is put in, and whether there is one. -/
def takeN (l : List Int) : Option Nat := (List.range (l.length + 1)).find? fun n => decide (Puts l n)
def takeRes (l : List Int) : List Int × Int × Bool := match takeN l with
  | some n => ((l.drop (leftL (8 * n)).length).take n, (((leftL (8 * n)).length + n : Nat) : Int), true)
  | none => ([], 0, false)
theorem takeN_of {l : List Int} {n : Nat} (h : Puts l n) : takeN l = some n := by
  unfold takeN
  rw [List.find?_eq_some_iff_append]
  refine ⟨by simpa using h, List.range n, (List.range' (n + 1) (l.length - n)), ?_, fun m hm => ?_⟩
  · have := h.2.1
    rw [List.range_eq_range', List.range_eq_range', show l.length + 1 = n + (1 + (l.length - n)) by omega, ← List.range'_append_1, Nat.zero_add, ← List.range'_append_1]
    rfl
  · rw [List.mem_range] at hm
    simp only [Bool.not_eq_true', decide_eq_false_iff_not]
    intro h2
    have := h.uniq h2
    omega
theorem takeN_none {l : List Int} (h : ∀ n, ¬ Puts l n) : takeN l = none := by
  unfold takeN
  rw [List.find?_eq_none]
  intro n _
  simpa using h n
theorem takeN_some {l : List Int} {n : Nat} (h : takeN l = some n) : Puts l n := by
  unfold takeN at h
  have := List.find?_some h
  simpa using this
theorem takeRes_of {l : List Int} {n : Nat} (h : Puts l n) : takeRes l = ((l.drop (leftL (8 * n)).length).take n, (((leftL (8 * n)).length + n : Nat) : Int), true) := by
  unfold takeRes
  rw [takeN_of h]
theorem takeRes_none {l : List Int} (h : ∀ n, ¬ Puts l n) : takeRes l = ([], 0, false) := by
  unfold takeRes
  rw [takeN_none h]
theorem digs_len4 {n : Nat} (h : n < 4294967296) : (digs n).length ≤ 4 := digs_len 3 n (by simpa using h)
theorem puts_str (a d : List Int) (h : a.length ≤ 500000000) : Puts (strL a ++ d) a.length := by
  unfold strL
  have := digs_len4 (n := 8 * a.length) (by omega)
  refine ⟨by rw [leftL_len]; omega, by simp; omega, ?_⟩
  rw [List.append_assoc, List.take_left']
  rfl
theorem take_str (a d : List Int) (h : a.length ≤ 500000000) : takeRes (strL a ++ d) = (a, ((strL a).length : Int), true) := by
  rw [takeRes_of (puts_str a d h)]
  unfold strL
  rw [List.append_assoc, List.drop_left', List.take_left']
  · simp
  · rfl
  · rfl
theorem str_apart {a b c d : List Int} (ha : a.length ≤ 500000000) (hc : c.length ≤ 500000000) (h : strL a ++ b = strL c ++ d) : a = c ∧ b = d := by
  have h1 := take_str a b ha
  have h2 := take_str c d hc
  rw [h, h2] at h1
  injection h1 with e1 e2
  subst e1
  exact ⟨rfl, List.append_cancel_left h⟩
/-- What was taken, put again, is what stood there. -/
theorem puts_back {l : List Int} {n : Nat} (h : Puts l n) : l = strL ((l.drop (leftL (8 * n)).length).take n) ++ l.drop ((leftL (8 * n)).length + n) := by
  have hl : ((l.drop (leftL (8 * n)).length).take n).length = n := by have := h.2.1; simp; omega
  unfold strL
  rw [hl, ← List.drop_drop, List.append_assoc, List.take_append_drop]
  conv => lhs; rw [← List.take_append_drop (leftL (8 * n)).length l, h.2.2]
/-! ### what is padded -/
def padN (n w : Nat) : Nat := if n % w = 0 then 0 else w - n % w
def padL (l : List Int) (w : Nat) : List Int := (leftL w ++ l) ++ List.replicate (padN (leftL w ++ l).length w) 0
theorem padN_lt (n w : Nat) (h : 0 < w) : padN n w < w := by
  unfold padN
  have := Nat.mod_lt n h
  split <;> omega
theorem padN_mod (n w : Nat) (h : 0 < w) : (n + padN n w) % w = 0 := by
  unfold padN
  have hlt := Nat.mod_lt n h
  split
  · simpa
  · have e : n + (w - n % w) = w * (n / w + 1) := by
      have := Nat.div_add_mod n w
      rw [Nat.mul_add]
      omega
    rw [e, Nat.mul_mod_right]
end Go.Proofs.Ythijjpiddelefaa.CodeMath
namespace Go.Proofs.Ythijjpiddelefaa.RotC
open Go.RowKit Go.Proofs.Ythijjpiddelefaa.PKec Go.Proofs.YthijjpiddelefaaW.PrintWords Go.Proofs.YthijjpiddelefaaW.PrintLast Go.Proofs.YthijjpiddelefaaW.PrintMore Byte OctMath Gives Mem
/-! ### Rot, Low -/
theorem shl_u64 (x : BitVec 64) (m : Nat) (hm : m ≤ 64) : shl .u64 (I64 x) (m : Int) = I64 (x <<< m) := by
  unfold shl I64
  have : min ((m : Int).toNat) IntKind.u64.bits = m := by
    show min ((m : Int).toNat) 64 = m
    omega
  rw [this, wrap_u64, BitVec.toNat_shiftLeft, Nat.shiftLeft_eq, show ((x.toNat : Int) * 2 ^ m) = ((x.toNat * 2 ^ m : Nat) : Int) by simp]
  omega
theorem shr_u64 (x : BitVec 64) (m : Nat) (hm : m ≤ 64) : shr .u64 (I64 x) (m : Int) = I64 (x >>> m) := by
  unfold shr I64
  have : min ((m : Int).toNat) IntKind.u64.bits = m := by
    show min ((m : Int).toNat) 64 = m
    omega
  rw [this, BitVec.toNat_ushiftRight, Nat.shiftRight_eq_div_pow, Int.natCast_ediv]
  simp
/-- A number modulo 64, from 0 on. -/
def m64 (k : Int) : Nat := (k % 64).toNat
theorem m64_lt (k : Int) : m64 k < 64 := by unfold m64; omega
theorem Rot_eq (x : BitVec 64) (k : Int) : octet_Rot.f (I64 x) k = some (I64 (rot x (m64 k))) := by
  unfold octet_Rot.f
  have hm := m64_lt k
  have e : k % 64 = ((m64 k : Nat) : Int) := by unfold m64; omega
  have e2 : wrap64 (64 - ((m64 k : Nat) : Int)) = ((64 - m64 k : Nat) : Int) := by unfold wrap64; omega
  rw [and_i64_mask, e, e2, if_pos (by omega), if_pos (by omega), shl_u64 _ _ (by omega), shr_u64 _ _ (by omega), or64]; rfl
theorem RMod_eq (k : Int) : visorref01_Mod.f k 64 = some ((m64 k : Nat) : Int) := by
  unfold visorref01_Mod.f
  have tm := tmod_nat k 64
  have tm' : (0 ≤ k → Int.tmod k 64 = k % 64) ∧ (k < 0 → k % 64 = 0 → Int.tmod k 64 = 0) ∧ (k < 0 → k % 64 ≠ 0 → Int.tmod k 64 = k % 64 - 64) := tm
  clear tm
  rw [if_neg (by decide)]
  generalize Int.tmod k 64 = t at *
  unfold m64
  by_cases h : t < 0
  · rw [if_pos h]
    have : wrap64 (t + 64) = t + 64 := by unfold wrap64; omega
    rw [this]
    congr 1; omega
  · rw [if_neg h]; congr 1; omega
theorem RRot_l0 (k : Int) : ∀ d n (x : BitVec 64) (i : Nat), i + d = m64 k → d < n → visorref01_Rot.l0 n (I64 x) k (i : Int) = some (I64 (rot x d)) := by
  intro d
  induction d with
  | zero =>
    intro n x i hi hn
    obtain ⟨n, rfl⟩ : ∃ m, n = m + 1 := ⟨n - 1, by omega⟩
    simp only [visorref01_Rot.l0, RMod_eq, Option.bind_some]
    rw [if_neg (by omega), rot_zero]
  | succ d ih =>
    intro n x i hi hn
    obtain ⟨n, rfl⟩ : ∃ m, n = m + 1 := ⟨n - 1, by omega⟩
    simp only [visorref01_Rot.l0, RMod_eq, Option.bind_some]
    have hm := m64_lt k
    have e1 : IntKind.u64.wrap (IntKind.u64.wrap (I64 x * 2) + IntKind.u64.wrap (Int.tdiv (I64 x) 9223372036854775808)) = I64 (rot x 1) := by
      have hx := x.isLt
      rw [wrap_u64, wrap_u64, wrap_u64, Int.tdiv_eq_ediv_of_nonneg (I64_lo x)]
      unfold I64
      rw [rot_one]
      omega
    rw [if_pos (by omega), e1, show wrap64 ((i : Int) + 1) = ((i + 1 : Nat) : Int) by unfold wrap64; omega, ih n (rot x 1) (i + 1) (by omega) (by omega), rot_rot x 1 d (by decide) (by omega)]
    congr 3; omega
theorem RRot_eq (x : BitVec 64) (k : Int) (n : Nat) (hn : 64 ≤ n) : visorref01_Rot.f n (I64 x) k = some (I64 (rot x (m64 k))) := by
  unfold visorref01_Rot.f
  have hm := m64_lt k
  exact RRot_l0 k (m64 k) n x 0 (by omega) (by omega)

/-- A word's number, rotated. -/
def rotI (x : Int) (k : Int) : Int := I64 (rot (BitVec.ofInt 64 x) (m64 k))
def IsWord (x : Int) : Prop := 0 ≤ x ∧ x < 18446744073709551616
theorem rotI_eq (x : BitVec 64) (k : Int) : rotI (I64 x) k = I64 (rot x (m64 k)) := by unfold rotI; rw [of64]
theorem rot_c (x k : Int) (h : IsWord x) : Gives 121 #[.int .u64 x, .int .i64 k] (.int .u64 (rotI x k)) := by
  obtain ⟨y, rfl⟩ := I64_of x h.1 h.2
  rw [rotI_eq]
  exact fun w => octet_Rot.calls _ _ _ w (Rot_eq y k)
theorem rrot_c (x k : Int) (h : IsWord x) : Gives 123 #[.int .u64 x, .int .i64 k] (.int .u64 (rotI x k)) := by
  obtain ⟨y, rfl⟩ := I64_of x h.1 h.2
  rw [rotI_eq]
  exact fun w => visorref01_Rot.calls 64 _ _ _ w (RRot_eq y k 64 (by decide))
def Words (l : List Int) : Prop := ∀ x ∈ l, IsWord x
theorem words_getD {l : List Int} (h : Words l) (i : Nat) : IsWord (l.getD i 0) := by
  rw [List.getD_eq_getElem?_getD]
  cases e : l[i]? with
  | none => exact ⟨by decide, by decide⟩
  | some x => exact h x (List.mem_of_getElem? e)
theorem Words.set {l : List Int} (h : Words l) (i : Nat) (x : Int) (hx : IsWord x) : Words (l.set i x) := by
  intro y hy
  rcases List.mem_or_eq_of_mem_set hy with h' | rfl
  · exact h y h'
  · exact hx
theorem isWord_I64 (x : BitVec 64) : IsWord (I64 x) := ⟨I64_lo x, I64_hi x⟩
theorem xor_word (x y : Int) (hx : IsWord x) (hy : IsWord y) : IsWord (Go.bits .xor .u64 x y) := by
  obtain ⟨a, rfl⟩ := I64_of x hx.1 hx.2
  obtain ⟨b, rfl⟩ := I64_of y hy.1 hy.2
  rw [xor64]; exact isWord_I64 _
theorem andNot_word (x y : Int) (hx : IsWord x) (hy : IsWord y) : IsWord (Go.bits .andNot .u64 x y) := by
  obtain ⟨a, rfl⟩ := I64_of x hx.1 hx.2
  obtain ⟨b, rfl⟩ := I64_of y hy.1 hy.2
  rw [andNot64]; exact isWord_I64 _
theorem rotI_word (x k : Int) : IsWord (rotI x k) := isWord_I64 _
theorem byI_words (n : Nat) (F : Nat → Int) (h : ∀ i, i < n → IsWord (F i)) : Words (byI n F) := by
  intro x hx
  obtain ⟨i, hi, rfl⟩ := List.mem_map.1 hx
  exact h i (List.mem_range.1 hi)
end Go.Proofs.Ythijjpiddelefaa.RotC
namespace Go.Proofs.Ythijjpiddelefaa.Keccak
open Go.RowKit Go.Proofs.YthijjpiddelefaaW.PrintWords Go.Proofs.YthijjpiddelefaaW.PrintLast Go.Proofs.YthijjpiddelefaaW.PrintMore Byte Sl Arr Mem Gives
set_option linter.unusedVariables false
set_option linter.unusedSimpArgs false
theorem info_st : (Try.prog.info? 72).map (·.size) = some 25 := by kernel_rfl
theorem info_w : (Try.prog.info? 71).map (·.size) = some 1 := by kernel_rfl
/-- Rows, mixed. -/
def chiF (l : List Int) (i : Nat) : Int := Go.bits .xor .u64 (l.getD i 0) (Go.bits .andNot .u64 (l.getD (i - i % 5 + (i + 2) % 5) 0) (l.getD (i - i % 5 + (i + 1) % 5) 0))
def chiL (l : List Int) : List Int := byI 25 (chiF l)
/-- Nothing yet. -/
def zst : List Int := List.replicate 25 0
theorem chiL_length (l : List Int) : (chiL l).length = 25 := byI_length _ _
set_option maxHeartbeats 4000000 in
set_option maxRecDepth 100000 in
theorem chi_c (l : List Int) (hl : l.length = 25) : GivesB 77 #[arrV .u64 l] (arrV .u64 (chiL l)) := by
  intro w
  rw [arrV_eq, arrV_eq]
  have HL := Aside0.mk hl
  have M1 := Aside0.mk (Mem.alloc (Mem.alloc (Mem.new .u64 w 72 l) (.cells (cellsOf .u64 zst) 72)) (.cells (cellsOf .u64 zst) 72))
  have M1' := Aside0.mk (Mem.alloc (Mem.new .u64 w 72 l) (.cells (cellsOf .u64 zst) 72))
  have M2 := Aside0.mk (Mem.alloc (Mem.new2 .u64 w (.cells (cellsOf .u64 l) 72) 72 zst) (.cells (cellsOf .u64 zst) 72))
  have M3 := Aside0.mk (Mem.new3 .u64 w (.cells (cellsOf .u64 l) 72) (.cells (cellsOf .u64 zst) 72) 72 zst)
  have HB := Aside0.mk (below_alloc (below_alloc (below_alloc (Below.refl w.heap.size w) (.cells (cellsOf .u64 l) 72)) (.cells (cellsOf .u64 zst) 72)) (.cells (cellsOf .u64 zst) 72))
  obtain ⟨cs, hcs⟩ : ∃ cs, cs = cellsOf .u64 l := ⟨_, rfl⟩
  rw [← hcs] at M1 M1' M2 M3 HB ⊢
  have HC := Aside0.mk hcs
  clear hl hcs
  go_enter Try.func77, Try.ntmps77
  go_wp2_with (first
    | ((with_reducible refine gate_dst (N := 6) rfl ?_); refine Mem.load M1'.out rfl 72 (.tmp 1) rfl rfl Try.underlying72 (by rw [HL.out]; exact info_st) ?_)
    | ((with_reducible refine gate_store (t := 72) (p := 3) rfl ?_); refine Mem.store (l' := l) M3.out rfl 72 (.tmp 3) (.tmp 6) rfl rfl rfl (by rw [HL.out]; exact info_st) (by rw [HL.out]; rfl) ?_))
  have N1 := Aside0.mk (Mem.row M1.out (g' := w.heap.size + 2) (by omega) (cellsOf .u64 l))
  have N2 := Aside0.mk (Mem.row M2.out (g' := w.heap.size + 2) (by omega) (cellsOf .u64 l))
  have N3 := Aside0.mk (Mem.put M3.out l)
  have NB := Aside0.mk (below_setRow HB.out (g := w.heap.size + 2) (by omega) (cellsOf .u64 l))
  clear M1 M1' M2 M3 HB
  go_loopg [7] 25 (fun kq i w' => ∃ j : Nat, j + kq = 25 ∧ i = .int .i64 j ∧ Aside0 (Mem .u64 w' w.heap.size 72 l) ∧ Aside0 (Mem .u64 w' (w.heap.size + 1) 72 zst) ∧ Aside0 (Mem .u64 w' (w.heap.size + 2) 72 (fillTo (chiL l) l j)) ∧ Aside0 (Below w.heap.size w w'))
  case atStart => exact ⟨0, by omega, rfl, N1, N2, ⟨by rw [fillTo_zero]; exact N3.out⟩, NB⟩
  case round =>
    clear N1 N2 N3 NB
    obtain ⟨j, hj, rfl, M1, M2, M3, HB⟩ := hrel
    cases gk with
    | zero =>
      obtain rfl : j = 25 := by omega
      have hend : fillTo (chiL l) l 25 = chiL l := by
        have := fillTo_end (chiL l) l (by rw [chiL_length, HL.out])
        rwa [HL.out] at this
      rw [hend] at M3
      clear hend
      go_wp2_with (first
        | ((with_reducible refine gate_dst (N := 35) rfl ?_); refine Mem.load M3.out rfl 72 (.tmp 3) rfl rfl Try.underlying72 (by rw [chiL_length]; exact info_st) ?_)
        | ((with_reducible refine gate_store (t := 72) (p := 2) rfl ?_); refine Mem.store (l' := chiL l) M2.out rfl 72 (.tmp 2) (.tmp 35) rfl rfl rfl (by rw [chiL_length]; exact info_st) (by rw [chiL_length]; rfl) ?_))
      refine bodyPost_ret (v := .agg (cellsOf .u64 (chiL l))) (results_cell_row rfl _ _ _ _ _ _ _ rfl (Mem.put M2.out (chiL l)) Try.underlying72 rfl (by rw [cellsOf_size, chiL_length]; exact info_st)) rfl ⟨rfl, below_setRow HB.out (by omega) _⟩
    | succ k1 =>
      have hlt : j < 25 := by omega
      have HJ := Aside0.mk hj
      clear hj
      have hll : (fillTo (chiL l) l j).length = 25 := by rw [fillTo_length _ _ (by rw [chiL_length, HL.out]), HL.out]
      obtain ⟨r0, hr0⟩ : ∃ r0 : Nat, r0 = j - j % 5 := ⟨_, rfl⟩
      obtain ⟨q1, hq1⟩ : ∃ q : Nat, q = (j + 1) % 5 := ⟨_, rfl⟩
      obtain ⟨q2, hq2⟩ : ∃ q : Nat, q = (j + 2) % 5 := ⟨_, rfl⟩
      obtain ⟨p1, hp1⟩ : ∃ q : Nat, q = j + 1 := ⟨_, rfl⟩
      obtain ⟨p2, hp2⟩ : ∃ q : Nat, q = j + 2 := ⟨_, rfl⟩
      obtain ⟨A, hA⟩ : ∃ q : Nat, q = r0 + q2 := ⟨_, rfl⟩
      obtain ⟨B, hB⟩ : ∃ q : Nat, q = r0 + q1 := ⟨_, rfl⟩
      have e0 : (j : Int) - (j : Int) % 5 = (r0 : Int) := by omega
      have lA : A < 25 := by omega
      have lB : B < 25 := by omega
      have hx := M3.out.cell j (by omega)
      have hf := M3.out.free j
      have hcA := M1.out.cell A (by rw [HL.out]; exact lA)
      have hcB := M1.out.cell B (by rw [HL.out]; exact lB)
      rw [fillTo_ge _ _ (by rw [chiL_length, HL.out]) j j (by rw [HL.out]; omega) (Nat.le_refl _)] at hx
      have hval : (chiL l).getD j 0 = Go.bits .xor .u64 (l.getD j 0) (Go.bits .andNot .u64 (l.getD A 0) (l.getD B 0)) := by
        unfold chiL; rw [byI_get _ _ _ hlt, hA, hB, hr0, hq1, hq2]; rfl
      have hset := fillTo_set (chiL l) l (by rw [chiL_length, HL.out]) j (by rw [HL.out]; omega) _ hval
      have HV := Aside0.mk hset
      clear hval hset hll
      have f1 : IntKind.i64.wrap ((j : Int) + 2) = (p2 : Int) := by rw [IntKind.wrap_i64]; omega
      have f2 : Int.tmod (p2 : Int) 5 = (q2 : Int) := by rw [Int.tmod_eq_emod_of_nonneg (by omega)]; omega
      have f3 : IntKind.i64.wrap ((r0 : Int) + (q2 : Int)) = (A : Int) := by rw [IntKind.wrap_i64]; omega
      have f4 : IntKind.i64.wrap ((j : Int) + 1) = (p1 : Int) := by rw [IntKind.wrap_i64]; omega
      have f5 : Int.tmod (p1 : Int) 5 = (q1 : Int) := by rw [Int.tmod_eq_emod_of_nonneg (by omega)]; omega
      have f6 : IntKind.i64.wrap ((r0 : Int) + (q1 : Int)) = (B : Int) := by rw [IntKind.wrap_i64]; omega
      clear hr0 hq1 hq2 hp1 hp2 hA hB
      generalize l.getD j 0 = x at *
      generalize l.getD A 0 = y at *
      generalize l.getD B 0 = z at *
      go_wp2

      clear e0
      go_region
      all_goals
        clear f1 f2 f3 f4 f5 f6
        go_wp2
        go_roundg k1
        case measure => omega
        case rel => exact ⟨j + 1, by have := HJ.out; omega, by go_num, ⟨Mem.drew (Mem.other M1.out (g' := w.heap.size + 2) (by omega) _ _)⟩, ⟨Mem.drew (Mem.other M2.out (g' := w.heap.size + 2) (by omega) _ _)⟩, ⟨by rw [← HV.out]; exact Mem.drew (Mem.set M3.out _ _)⟩, ⟨below_drew (below_set HB.out (by omega))⟩⟩
end Go.Proofs.Ythijjpiddelefaa.Keccak
namespace Go.Proofs.Ythijjpiddelefaa.KecT
open Go.RowKit Go.Proofs.Ythijjpiddelefaa.PKec Go.Proofs.YthijjpiddelefaaW.PrintWords Go.Proofs.YthijjpiddelefaaW.PrintLast Go.Proofs.YthijjpiddelefaaW.PrintMore Byte OctMath Gives Mem RotC
set_option maxRecDepth 100000
/-! ### Turn -/
def turnN (x y : Nat) : Nat := ((keccak_Turn.f 30 x y).getD 0).toNat
theorem turn_all : ∀ x : Fin 5, ∀ y : Fin 5, keccak_Turn.f 30 ((x.val : Nat) : Int) ((y.val : Nat) : Int) = some ((turnN x y : Nat) : Int) := by decide +kernel
theorem rturn_all : ∀ x : Fin 5, ∀ y : Fin 5, visorref13_Turn.f 30 ((x.val : Nat) : Int) ((y.val : Nat) : Int) = some ((turnN x y : Nat) : Int) := by decide +kernel
theorem turn_c (x y : Nat) (hx : x < 5) (hy : y < 5) : Gives 122 #[.int .i64 x, .int .i64 y] (.int .i64 (turnN x y : Nat)) :=
  fun w => keccak_Turn.calls 30 _ _ _ w (turn_all ⟨x, hx⟩ ⟨y, hy⟩)
theorem rturn_c (x y : Nat) (hx : x < 5) (hy : y < 5) : Gives 124 #[.int .i64 x, .int .i64 y] (.int .i64 (turnN x y : Nat)) :=
  fun w => visorref13_Turn.calls 30 _ _ _ w (rturn_all ⟨x, hx⟩ ⟨y, hy⟩)
theorem turn_out (x y : Int) (h : ¬(0 ≤ x ∧ x < 5 ∧ 0 ≤ y ∧ y < 5)) : keccak_Turn.f 30 x y = some 0 := by
  have j : keccak_Turn.j0 30 x y true = some 0 := rfl
  unfold keccak_Turn.f
  rw [j]
  repeat' split
  all_goals first | rfl | omega
theorem rturn_out (x y : Int) (h : ¬(0 ≤ x ∧ x < 5 ∧ 0 ≤ y ∧ y < 5)) : ∀ (d n : Nat) (a b : Int) (i : Int), 0 ≤ a → a < 5 → 0 ≤ b → b < 5 → 0 ≤ i → i + d = 24 → d < n → visorref13_Turn.l0 n x y a b i = some 0 := by
  intro d
  induction d with
  | zero =>
    intro n a b i _ _ _ _ _ hi hn
    obtain ⟨n, rfl⟩ : ∃ m, n = m + 1 := ⟨n - 1, by omega⟩
    simp only [visorref13_Turn.l0]
    rw [if_neg (by omega)]
  | succ d ih =>
    intro n a b i a0 a5 b0 b5 i0 hi hn
    obtain ⟨n, rfl⟩ : ∃ m, n = m + 1 := ⟨n - 1, by omega⟩
    simp only [visorref13_Turn.l0]
    have e1 : wrap64 (2 * a) = 2 * a := by unfold wrap64; omega
    have e2 : wrap64 (3 * b) = 3 * b := by unfold wrap64; omega
    have e3 : wrap64 (2 * a + 3 * b) = 2 * a + 3 * b := by unfold wrap64; omega
    have e4 : wrap64 (i + 1) = i + 1 := by unfold wrap64; omega
    have e5 : Int.tmod (2 * a + 3 * b) 5 = (2 * a + 3 * b) % 5 := Int.tmod_eq_emod_of_nonneg (by omega)
    have hr := ih n b ((2 * a + 3 * b) % 5) (i + 1) b0 b5 (by omega) (by omega) (by omega) (by omega) (by omega)
    rw [if_pos (by omega), e1, e2, e3, e4, e5, hr]
    by_cases hx : a = x
    · rw [if_pos hx]
      by_cases hy : b = y
      · exact absurd ⟨by omega, by omega, by omega, by omega⟩ h
      · rw [if_neg hy]
    · rw [if_neg hx]
theorem turns (x y : Int) : ∃ v : Int, Gives 122 #[.int .i64 x, .int .i64 y] (.int .i64 v) ∧ Gives 124 #[.int .i64 x, .int .i64 y] (.int .i64 v) := by
  by_cases h : 0 ≤ x ∧ x < 5 ∧ 0 ≤ y ∧ y < 5
  · obtain ⟨a, rfl⟩ : ∃ a : Nat, x = a := ⟨x.toNat, by omega⟩
    obtain ⟨b, rfl⟩ : ∃ b : Nat, y = b := ⟨y.toNat, by omega⟩
    exact ⟨_, turn_c a b (by omega) (by omega), rturn_c a b (by omega) (by omega)⟩
  · exact ⟨0, fun w => keccak_Turn.calls 30 _ _ _ w (turn_out x y h), fun w => visorref13_Turn.calls 30 _ _ _ w (rturn_out x y h 24 30 1 0 0 (by omega) (by omega) (by omega) (by omega) (by omega) (by omega) (by omega))⟩
/-! ### Mark -/
def markN (i : Nat) : Int := (keccak_Mark.f 400 i).getD 0
theorem mark_all : ∀ i : Fin 24, keccak_Mark.f 400 ((i.val : Nat) : Int) = some (markN i) ∧ visorref13_Mark.f 400 ((i.val : Nat) : Int) = some (markN i) ∧ 0 ≤ markN i ∧ markN i < 18446744073709551616 := by decide +kernel
theorem mark_word (i : Nat) (h : i < 24) : IsWord (markN i) := (mark_all ⟨i, h⟩).2.2
theorem mark_c (i : Nat) (h : i < 24) : Gives 80 #[.int .i64 i] (.int .u64 (markN i)) := fun w => keccak_Mark.calls 400 _ _ w (mark_all ⟨i, h⟩).1
theorem rmark_c (i : Nat) (h : i < 24) : GivesB 87 #[.int .i64 i] (.int .u64 (markN i)) := fun w => visorref13_Mark.calls 400 _ _ w (mark_all ⟨i, h⟩).2.1
theorem marks (i : Int) : ∃ v : Int, Gives 80 #[.int .i64 i] (.int .u64 v) ∧ GivesB 87 #[.int .i64 i] (.int .u64 v) := by
  by_cases h : 0 ≤ i ∧ i < 24
  · obtain ⟨a, rfl⟩ : ∃ a : Nat, i = a := ⟨i.toNat, by omega⟩
    exact ⟨_, mark_c a (by omega), rmark_c a (by omega)⟩
  · have h1 : keccak_Mark.f 1 i = some 0 := by
      unfold keccak_Mark.f
      split
      · rfl
      · rw [decide_eq_true (by omega)]; rfl
    have h2 : visorref13_Mark.f 1 i = some 0 := by
      unfold visorref13_Mark.f
      split
      · rfl
      · rw [decide_eq_true (by omega)]; rfl
    exact ⟨0, fun w => keccak_Mark.calls 1 _ _ w h1, fun w => visorref13_Mark.calls 1 _ _ w h2⟩
theorem mark1 : markN 1 = 32898 := by decide +kernel
/-! ### the next place -/
theorem next_c (x y : Nat) (hx : x < 5) (hy : y < 5) : Gives 120 #[.int .i64 x, .int .i64 y] (.tuple #[.int .i64 (y : Nat), .int .i64 ((2 * x + 3 * y) % 5 : Nat)]) := by
  intro w
  refine keccak_next.calls _ _ _ _ w ?_
  unfold keccak_next.f
  have e1 : wrap64 (2 * (x : Int)) = 2 * x := by unfold wrap64; omega
  have e2 : wrap64 (3 * (y : Int)) = 3 * y := by unfold wrap64; omega
  have e3 : wrap64 (2 * (x : Int) + 3 * y) = 2 * x + 3 * y := by unfold wrap64; omega
  rw [e1, e2, e3, Int.tmod_eq_emod_of_nonneg (by omega)]
  congr 2
end Go.Proofs.Ythijjpiddelefaa.KecT
namespace Go.Proofs.Ythijjpiddelefaa.Keccak
open Go.RowKit Go.Proofs.YthijjpiddelefaaW.PrintWords Go.Proofs.YthijjpiddelefaaW.PrintLast Go.Proofs.YthijjpiddelefaaW.PrintMore Byte Sl Arr Mem Gives RotC
set_option linter.unusedVariables false
set_option linter.unusedSimpArgs false
/-- The columns' sums, of the first i words. -/
def colTo (l : List Int) : Nat → List Int
  | 0 => List.replicate 5 0
  | i + 1 => (colTo l i).set (i % 5) (Go.bits .xor .u64 ((colTo l i).getD (i % 5) 0) (l.getD i 0))
theorem colTo_length (l : List Int) : ∀ i, (colTo l i).length = 5
  | 0 => rfl
  | i + 1 => by simp [colTo, colTo_length l i]
theorem colTo_words (l : List Int) (h : Words l) (hl : l.length = 25) : ∀ i, Words (colTo l i)
  | 0 => by intro x hx; rw [List.eq_of_mem_replicate hx]; exact ⟨by decide, by decide⟩
  | i + 1 => (colTo_words l h hl i).set _ _ (xor_word _ _ (words_getD (colTo_words l h hl i) _) (words_getD h _))
def thetaF (l : List Int) (i : Nat) : Int := Go.bits .xor .u64 (l.getD i 0) (Go.bits .xor .u64 ((colTo l 25).getD ((i + 4) % 5) 0) (rotI ((colTo l 25).getD ((i + 1) % 5) 0) 1))
def thetaL (l : List Int) : List Int := byI 25 (thetaF l)
theorem thetaL_length (l : List Int) : (thetaL l).length = 25 := byI_length _ _
set_option maxHeartbeats 4000000 in
set_option maxRecDepth 100000 in
theorem theta_c (l : List Int) (hl : l.length = 25) (hw : Words l) : GivesB 79 #[arrV .u64 l] (arrV .u64 (thetaL l)) := by
  intro w
  rw [arrV_eq, arrV_eq]
  have HL := Aside0.mk hl
  have M1 := Aside0.mk (Mem.alloc (Mem.alloc (Mem.new .u64 w 72 l) (.cells (cellsOf .u64 zst) 72)) (.cells (cellsOf .u64 (List.replicate 5 0)) 106))
  have M2 := Aside0.mk (Mem.alloc (Mem.new2 .u64 w (.cells (cellsOf .u64 l) 72) 72 zst) (.cells (cellsOf .u64 (List.replicate 5 0)) 106))
  have M3 := Aside0.mk (Mem.new3 .u64 w (.cells (cellsOf .u64 l) 72) (.cells (cellsOf .u64 zst) 72) 106 (List.replicate 5 0))
  have HB := Aside0.mk (below_alloc (below_alloc (below_alloc (Below.refl w.heap.size w) (.cells (cellsOf .u64 l) 72)) (.cells (cellsOf .u64 zst) 72)) (.cells (cellsOf .u64 (List.replicate 5 0)) 106))
  obtain ⟨cs, hcs⟩ : ∃ cs, cs = cellsOf .u64 l := ⟨_, rfl⟩
  rw [← hcs] at M1 M2 M3 HB ⊢
  have HC := Aside0.mk hcs
  clear hl hcs
  go_enter Try.func79, Try.ntmps79
  go_wp2_with (first
    | ((with_reducible refine gate_dst (N := 7) rfl ?_); refine Mem.load M1.out rfl 72 (.tmp 1) rfl rfl Try.underlying72 (by rw [HL.out]; exact info_st) ?_))
  go_loopg [8] 25 (fun kq i w' => ∃ j : Nat, j + kq = 25 ∧ i = .int .i64 j ∧ Aside0 (Mem .u64 w' w.heap.size 72 l) ∧ Aside0 (Mem .u64 w' (w.heap.size + 1) 72 zst) ∧ Aside0 (Mem .u64 w' (w.heap.size + 2) 106 (colTo l j)) ∧ Aside0 (Below w.heap.size w w'))
  case atStart => exact ⟨0, by omega, rfl, M1, M2, M3, HB⟩
  case round =>
    clear M1 M2 M3 HB
    obtain ⟨j, hj, rfl, M1, M2, M3, HB⟩ := hrel
    cases gk with
    | zero =>
      obtain rfl : j = 25 := by omega
      go_wp2
      go_loopg [20] 25 (fun kq i w' => ∃ j : Nat, j + kq = 25 ∧ i = .int .i64 j ∧ Aside0 (Mem .u64 w' w.heap.size 72 (fillTo (thetaL l) l j)) ∧ Aside0 (Mem .u64 w' (w.heap.size + 1) 72 zst) ∧ Aside0 (Mem .u64 w' (w.heap.size + 2) 106 (colTo l 25)) ∧ Aside0 (Below w.heap.size w w'))
      case atStart => exact ⟨0, by omega, rfl, ⟨by rw [fillTo_zero]; exact M1.out⟩, M2, M3, HB⟩
      case round =>
        clear M1 M2 M3 HB
        obtain ⟨j, hj, rfl, M1, M2, M3, HB⟩ := hrel
        cases gk with
        | zero =>
          obtain rfl : j = 25 := by omega
          have hend : fillTo (thetaL l) l 25 = thetaL l := by
            have := fillTo_end (thetaL l) l (by rw [thetaL_length, HL.out])
            rwa [HL.out] at this
          rw [hend] at M1
          clear hend
          go_wp2_with (first
            | ((with_reducible refine gate_dst (N := 42) rfl ?_); refine Mem.load M1.out rfl 72 (.tmp 1) rfl rfl Try.underlying72 (by rw [thetaL_length]; exact info_st) ?_)
            | ((with_reducible refine gate_store (t := 72) (p := 2) rfl ?_); refine Mem.store (l' := thetaL l) M2.out rfl 72 (.tmp 2) (.tmp 42) rfl rfl rfl (by rw [thetaL_length]; exact info_st) (by rw [thetaL_length]; rfl) ?_))
          refine bodyPost_ret (v := .agg (cellsOf .u64 (thetaL l))) (results_cell_row rfl _ _ _ _ _ _ _ rfl (Mem.put M2.out (thetaL l)) Try.underlying72 rfl (by rw [cellsOf_size, thetaL_length]; exact info_st)) rfl ⟨rfl, below_setRow HB.out (by omega) _⟩
        | succ k1 =>
          have hlt : j < 25 := by omega
          have HJ := Aside0.mk hj
          clear hj
          obtain ⟨q1, hq1⟩ : ∃ q : Nat, q = (j + 1) % 5 := ⟨_, rfl⟩
          obtain ⟨q4, hq4⟩ : ∃ q : Nat, q = (j + 4) % 5 := ⟨_, rfl⟩
          obtain ⟨p1, hp1⟩ : ∃ q : Nat, q = j + 1 := ⟨_, rfl⟩
          obtain ⟨p5, hp5⟩ : ∃ q : Nat, q = j + 5 := ⟨_, rfl⟩
          obtain ⟨p4, hp4⟩ : ∃ q : Nat, q = j + 4 := ⟨_, rfl⟩
          have l1 : q1 < 5 := by omega
          have l4 : q4 < 5 := by omega
          have g1 : (q1 : Int) < 5 := by omega
          have g4 : (q4 : Int) < 5 := by omega
          have hx := M1.out.cell j (by rw [fillTo_length _ _ (by rw [thetaL_length, HL.out]), HL.out]; exact hlt)
          have hf := M1.out.free j
          have hc1 := M3.out.cell q1 (by rw [colTo_length]; exact l1)
          have hc4 := M3.out.cell q4 (by rw [colTo_length]; exact l4)
          rw [fillTo_ge _ _ (by rw [thetaL_length, HL.out]) j j (by rw [HL.out]; omega) (Nat.le_refl _)] at hx
          have hval : (thetaL l).getD j 0 = Go.bits .xor .u64 (l.getD j 0) (Go.bits .xor .u64 ((colTo l 25).getD q4 0) (rotI ((colTo l 25).getD q1 0) 1)) := by
            unfold thetaL; rw [byI_get _ _ _ hlt, hq1, hq4]; rfl
          have hset := fillTo_set (thetaL l) l (by rw [thetaL_length, HL.out]) j (by rw [HL.out]; omega) _ hval
          have HV := Aside0.mk hset
          have HR := Aside0.mk (rot_c ((colTo l 25).getD q1 0) 1 (words_getD (colTo_words l hw HL.out 25) q1))
          clear hval hset
          have f1 : IntKind.i64.wrap ((j : Int) + 5) = (p5 : Int) := by rw [IntKind.wrap_i64]; omega
          have f2 : IntKind.i64.wrap ((p5 : Int) - 1) = (p4 : Int) := by rw [IntKind.wrap_i64]; omega
          have f3 : Int.tmod (p4 : Int) 5 = (q4 : Int) := by rw [Int.tmod_eq_emod_of_nonneg (by omega)]; omega
          have f4 : IntKind.i64.wrap ((j : Int) + 1) = (p1 : Int) := by rw [IntKind.wrap_i64]; omega
          have f5 : Int.tmod (p1 : Int) 5 = (q1 : Int) := by rw [Int.tmod_eq_emod_of_nonneg (by omega)]; omega
          clear hq1 hq4 hp1 hp5 hp4
          generalize rotI ((colTo l 25).getD q1 0) 1 = R at *
          generalize l.getD j 0 = x at *
          generalize (colTo l 25).getD q4 0 = y at *
          generalize (colTo l 25).getD q1 0 = z at *
          go_wp2
          refine start_ (n := 19) (S := fun w' => w'.cell? ⟨w.heap.size, j, none⟩ = some (.int .u64 x) ∧ w'.cell? ⟨w.heap.size + 2, q4, none⟩ = some (.int .u64 y) ∧ w'.cell? ⟨w.heap.size + 2, q1, none⟩ = some (.int .u64 z)) (ds := [18]) #[false, false, false, false, false, false, false, false, false, false, false, false, false, false, false, false, false, false, false] (by kernel_rfl) rfl rfl ⟨hx, hc4, hc1⟩ (fun hHeld => ?_)
          refine pure_ (i := 0) (N := some 23) (v := ?_) (a' := ?_) #[true, false, false, false, false, false, false, false, false, false, false, false, false, false, false, false, false, false, false] rfl rfl (by kernel_rfl) (fun _ _ _ h => h) (Or.inl ⟨by rfl, ?_⟩) ?_ ?_
          rotate_left
          · intro w'
            go_simp
            with_reducible rfl
          rotate_left
          · simp only [Act.put, List.setIfInBounds_toArray, List.set_cons_zero, List.set_cons_succ, i64_w, i32_w]
            rfl
          refine pure_ (i := 1) (N := some 24) (v := ?_) (a' := ?_) #[true, true, false, false, false, false, false, false, false, false, false, false, false, false, false, false, false, false, false] rfl rfl (by kernel_rfl) (fun _ _ _ h => h) (Or.inl ⟨by rfl, ?_⟩) ?_ ?_
          rotate_left
          · intro w'
            go_simp
            with_reducible rfl
          rotate_left
          · simp only [Act.put, List.setIfInBounds_toArray, List.set_cons_zero, List.set_cons_succ, i64_w, i32_w]
            rfl
          refine pure_ (i := 3) (N := some 26) (v := ?_) (a' := ?_) #[true, true, false, true, false, false, false, false, false, false, false, false, false, false, false, false, false, false, false] rfl rfl (by kernel_rfl) (fun _ _ _ h => h) (Or.inl ⟨by rfl, ?_⟩) ?_ ?_
          rotate_left
          · intro w'
            go_simp
            with_reducible rfl
          rotate_left
          · simp only [Act.put, List.setIfInBounds_toArray, List.set_cons_zero, List.set_cons_succ, i64_w, i32_w]
            rfl
          refine pure_ (i := 4) (N := some 27) (v := ?_) (a' := ?_) #[true, true, false, true, true, false, false, false, false, false, false, false, false, false, false, false, false, false, false] rfl rfl (by kernel_rfl) (fun _ _ _ h => h) (Or.inl ⟨by rfl, ?_⟩) ?_ ?_
          rotate_left
          · intro w'
            go_simp
            with_reducible rfl
          rotate_left
          · simp only [Act.put, List.setIfInBounds_toArray, List.set_cons_zero, List.set_cons_succ, i64_w, i32_w]
            rfl
          refine pure_ (i := 5) (N := some 28) (v := ?_) (a' := ?_) #[true, true, false, true, true, true, false, false, false, false, false, false, false, false, false, false, false, false, false] rfl rfl (by kernel_rfl) (fun _ _ _ h => h) (Or.inl ⟨by rfl, ?_⟩) ?_ ?_
          rotate_left
          · intro w'
            go_simp
            with_reducible rfl
          rotate_left
          · simp only [Act.put, List.setIfInBounds_toArray, List.set_cons_zero, List.set_cons_succ, i64_w, i32_w]
            rfl
          refine pure_ (i := 6) (N := some 29) (v := ?_) (a' := ?_) #[true, true, false, true, true, true, true, false, false, false, false, false, false, false, false, false, false, false, false] rfl rfl (by kernel_rfl) (fun _ _ _ h => h) (Or.inl ⟨by rfl, ?_⟩) ?_ ?_
          rotate_left
          · intro w'
            go_simp
            with_reducible rfl
          rotate_left
          · simp only [Act.put, List.setIfInBounds_toArray, List.set_cons_zero, List.set_cons_succ, i64_w, i32_w]
            rfl
          refine pure_ (i := 7) (N := some 30) (v := ?_) (a' := ?_) #[true, true, false, true, true, true, true, true, false, false, false, false, false, false, false, false, false, false, false] rfl rfl (by kernel_rfl) (fun _ _ _ h => h) (Or.inl ⟨by rfl, ?_⟩) ?_ ?_
          rotate_left
          · intro w'
            go_simp
            with_reducible rfl
          rotate_left
          · simp only [Act.put, List.setIfInBounds_toArray, List.set_cons_zero, List.set_cons_succ, i64_w, i32_w]
            rfl
          refine pure_ (i := 9) (N := some 32) (v := ?_) (a' := ?_) #[true, true, false, true, true, true, true, true, false, true, false, false, false, false, false, false, false, false, false] rfl rfl (by kernel_rfl) (fun _ _ _ h => h) (Or.inl ⟨by rfl, ?_⟩) ?_ ?_
          rotate_left
          · intro w'
            go_simp
            with_reducible rfl
          rotate_left
          · simp only [Act.put, List.setIfInBounds_toArray, List.set_cons_zero, List.set_cons_succ, i64_w, i32_w]
            rfl
          refine pure_ (i := 10) (N := some 33) (v := ?_) (a' := ?_) #[true, true, false, true, true, true, true, true, false, true, true, false, false, false, false, false, false, false, false] rfl rfl (by kernel_rfl) (fun _ _ _ h => h) (Or.inl ⟨by rfl, ?_⟩) ?_ ?_
          rotate_left
          · intro w'
            go_simp
            with_reducible rfl
          rotate_left
          · simp only [Act.put, List.setIfInBounds_toArray, List.set_cons_zero, List.set_cons_succ, i64_w, i32_w]
            rfl
          refine pure_ (i := 11) (N := some 34) (v := ?_) (a' := ?_) #[true, true, false, true, true, true, true, true, false, true, true, true, false, false, false, false, false, false, false] rfl rfl (by kernel_rfl) (fun _ _ _ h => h) (Or.inl ⟨by rfl, ?_⟩) ?_ ?_
          rotate_left
          · intro w'
            go_simp
            with_reducible rfl
          rotate_left
          · simp only [Act.put, List.setIfInBounds_toArray, List.set_cons_zero, List.set_cons_succ, i64_w, i32_w]
            rfl
          refine pure_ (i := 12) (N := some 35) (v := ?_) (a' := ?_) #[true, true, false, true, true, true, true, true, false, true, true, true, true, false, false, false, false, false, false] rfl rfl (by kernel_rfl) (fun _ _ _ h => h) (Or.inl ⟨by rfl, ?_⟩) ?_ ?_
          rotate_left
          · intro w'
            go_simp
            with_reducible rfl
          rotate_left
          · simp only [Act.put, List.setIfInBounds_toArray, List.set_cons_zero, List.set_cons_succ, i64_w, i32_w]
            rfl
          refine take_ (i := 2) (N := some 25) (v := ?_) (a' := ?_) #[true, true, true, true, true, true, true, true, false, true, true, true, true, false, false, false, false, false, false] rfl rfl (by kernel_rfl) (fun _ _ _ h => h) (Or.inl ⟨by rfl, ?_⟩) hHeld ?_ ?_
          rotate_left
          · rintro w' ⟨s0, s1, s2⟩
            go_simp
            with_reducible rfl
          rotate_left
          · simp only [Act.put, List.setIfInBounds_toArray, List.set_cons_zero, List.set_cons_succ, i64_w, i32_w]
            rfl
          refine take_ (i := 8) (N := some 31) (v := ?_) (a' := ?_) #[true, true, true, true, true, true, true, true, true, true, true, true, true, false, false, false, false, false, false] rfl rfl (by kernel_rfl) (fun _ _ _ h => h) (Or.inl ⟨by rfl, ?_⟩) hHeld ?_ ?_
          rotate_left
          · rintro w' ⟨s0, s1, s2⟩
            go_simp
            with_reducible rfl
          rotate_left
          · simp only [Act.put, List.setIfInBounds_toArray, List.set_cons_zero, List.set_cons_succ, i64_w, i32_w]
            rfl
          refine take_ (i := 13) (N := some 36) (v := ?_) (a' := ?_) #[true, true, true, true, true, true, true, true, true, true, true, true, true, true, false, false, false, false, false] rfl rfl (by kernel_rfl) (fun _ _ _ h => h) (Or.inl ⟨by rfl, ?_⟩) hHeld ?_ ?_
          rotate_left
          · rintro w' ⟨s0, s1, s2⟩
            go_simp
            with_reducible rfl
          rotate_left
          · simp only [Act.put, List.setIfInBounds_toArray, List.set_cons_zero, List.set_cons_succ, i64_w, i32_w]
            rfl
          refine one_ (i := 14) (N := some 37) #[true, true, true, true, true, true, true, true, true, true, true, true, true, true, true, false, false, false, false] rfl rfl (by kernel_rfl) (by decide) (fun K hK => ?_)
          refine goes_ Try.func121 (by kernel_rfl) rfl #[.int .u64 z, .int .i64 1] (by rfl) rfl rfl (by simp only [List.map_toArray, List.map_cons, List.map_nil]; rfl) ?_
          with_reducible refine (HR.out.q _).mono ?_
          rintro e w3 ⟨rfl, ⟨⟨nd, rfl⟩⟩⟩
          refine ⟨_, rfl, ?_⟩
          refine hK.out _ _ ⟨hHeld.1, hHeld.2.1, hHeld.2.2⟩ (fun hHeld => ?_)
          clear hK K
          refine norm_ (a' := ?_) ?_ ?_
          rotate_left
          · show Act.put _ (some 37) _ = _
            simp only [Act.put, List.setIfInBounds_toArray, List.set_cons_zero, List.set_cons_succ, i64_w, i32_w]
            rfl
          refine pure_ (i := 15) (N := some 38) (v := ?_) (a' := ?_) #[true, true, true, true, true, true, true, true, true, true, true, true, true, true, true, true, false, false, false] rfl rfl (by kernel_rfl) (fun _ _ _ h => h) (Or.inl ⟨by rfl, ?_⟩) ?_ ?_
          rotate_left
          · intro w'
            go_simp
            with_reducible rfl
          rotate_left
          · simp only [Act.put, List.setIfInBounds_toArray, List.set_cons_zero, List.set_cons_succ, i64_w, i32_w]
            rfl
          refine pure_ (i := 16) (N := some 39) (v := ?_) (a' := ?_) #[true, true, true, true, true, true, true, true, true, true, true, true, true, true, true, true, true, false, false] rfl rfl (by kernel_rfl) (fun _ _ _ h => h) (Or.inl ⟨by rfl, ?_⟩) ?_ ?_
          rotate_left
          · intro w'
            go_simp
            with_reducible rfl
          rotate_left
          · simp only [Act.put, List.setIfInBounds_toArray, List.set_cons_zero, List.set_cons_succ, i64_w, i32_w]
            rfl
          refine pure_ (i := 17) (N := some 40) (v := ?_) (a' := ?_) #[true, true, true, true, true, true, true, true, true, true, true, true, true, true, true, true, true, true, false] rfl rfl (by kernel_rfl) (fun _ _ _ h => h) (Or.inl ⟨by rfl, ?_⟩) ?_ ?_
          rotate_left
          · intro w'
            go_simp
            with_reducible rfl
          rotate_left
          · simp only [Act.put, List.setIfInBounds_toArray, List.set_cons_zero, List.set_cons_succ, i64_w, i32_w]
            rfl
          refine last_ (i := 18) (N := none) #[true, true, true, true, true, true, true, true, true, true, true, true, true, true, true, true, true, true, true] rfl rfl (by kernel_rfl) (by decide) (fun K hK => ?_)
          refine skip_ (w1 := ?_) (by rfl) rfl ?_ ?_
          rotate_left
          · go_simp
            rfl
          refine hK.out _ _ ?_
          clear hK K
          refine done_ (by kernel_rfl) ?_

          clear f1 f2 f3 f4 f5
          go_wp2
          go_roundg k1
          case measure => omega
          case rel => exact ⟨j + 1, by have := HJ.out; omega, by go_num, ⟨by rw [← HV.out]; exact Mem.set (Mem.drewN M1.out _) _ _⟩, ⟨Mem.other (Mem.drewN M2.out _) (by omega) _ _⟩, ⟨Mem.other (Mem.drewN M3.out _) (by omega) _ _⟩, ⟨below_set (pw_below_drewN HB.out _) (by omega)⟩⟩
    | succ k1 =>
      have hlt : j < 25 := by omega
      have hq : j % 5 < 5 := by omega
      have HJ := Aside0.mk hj
      have hix := run_index_arr (k := .u64) (P := Try.prog) (l := l) Try.underlying72 Try.underlying71 info_w HL.out j hlt
      have hx := M3.out.cell (j % 5) (by rw [colTo_length]; exact hq)
      have hf := M3.out.free (j % 5)
      have HV := Aside0.mk (show (colTo l j).set (j % 5) (Go.bits .xor .u64 ((colTo l j).getD (j % 5) 0) (l.getD j 0)) = colTo l (j + 1) from rfl)
      obtain ⟨q, hq'⟩ : ∃ q, q = j % 5 := ⟨_, rfl⟩
      rw [← hq'] at hx hf HV hq
      have e0 : (j : Int) % 5 = (q : Int) := by omega
      clear hj hq'
      generalize l.getD j 0 = x at *
      generalize (colTo l j).getD q 0 = y at *
      go_wp2
      go_roundg k1
      case measure => omega
      case rel => exact ⟨j + 1, by have := HJ.out; omega, by go_num, ⟨Mem.other M1.out (g' := w.heap.size + 2) (by omega) _ _⟩, ⟨Mem.other M2.out (g' := w.heap.size + 2) (by omega) _ _⟩, ⟨by rw [← HV.out]; exact Mem.set M3.out _ _⟩, ⟨below_set HB.out (by omega)⟩⟩
end Go.Proofs.Ythijjpiddelefaa.Keccak
namespace Go.Proofs.Ythijjpiddelefaa.Keccak
open Go.RowKit Go.Proofs.YthijjpiddelefaaW.PrintWords Go.Proofs.YthijjpiddelefaaW.PrintLast Go.Proofs.YthijjpiddelefaaW.PrintMore Byte Sl Arr Mem Gives RotC KecT
set_option linter.unusedVariables false
set_option linter.unusedSimpArgs false
theorem zst_length : zst.length = 25 := rfl
/-- Where a word goes to. -/
def dst (i : Nat) : Nat := i / 5 + 5 * ((2 * (i % 5) + 3 * (i / 5)) % 5)
def moveTo (l : List Int) : Nat → List Int
  | 0 => zst
  | i + 1 => (moveTo l i).set (dst i) (rotI (l.getD i 0) (turnN (i % 5) (i / 5)))
def moveL (l : List Int) : List Int := moveTo l 25
theorem moveTo_length (l : List Int) : ∀ i, (moveTo l i).length = 25
  | 0 => rfl
  | i + 1 => by simp [moveTo, moveTo_length l i]
theorem moveL_length (l : List Int) : (moveL l).length = 25 := moveTo_length l 25
theorem zst_words : Words zst := by intro x hx; rw [List.eq_of_mem_replicate hx]; exact ⟨by decide, by decide⟩
theorem moveTo_words (l : List Int) : ∀ i, Words (moveTo l i)
  | 0 => zst_words
  | i + 1 => (moveTo_words l i).set _ _ (rotI_word _ _)
theorem moveL_words (l : List Int) : Words (moveL l) := moveTo_words l 25
set_option maxHeartbeats 4000000 in
set_option maxRecDepth 100000 in
theorem move_c (l : List Int) (hl : l.length = 25) (hw : Words l) : GivesB 78 #[arrV .u64 l] (arrV .u64 (moveL l)) := by
  intro w
  rw [arrV_eq]
  rw [arrV_eq]
  have HL := Aside0.mk hl
  have M1 := Aside0.mk (Mem.alloc (Mem.alloc (Mem.new .u64 w 72 l) (.cells (cellsOf .u64 zst) 72)) (.cells (cellsOf .u64 zst) 72))
  have M2 := Aside0.mk (Mem.alloc (Mem.new2 .u64 w (.cells (cellsOf .u64 l) 72) 72 zst) (.cells (cellsOf .u64 zst) 72))
  have M3 := Aside0.mk (Mem.new3 .u64 w (.cells (cellsOf .u64 l) 72) (.cells (cellsOf .u64 zst) 72) 72 zst)
  have HB := Aside0.mk (below_alloc (below_alloc (below_alloc (Below.refl w.heap.size w) (.cells (cellsOf .u64 l) 72)) (.cells (cellsOf .u64 zst) 72)) (.cells (cellsOf .u64 zst) 72))
  obtain ⟨cl, hcl⟩ : ∃ cs, cs = cellsOf .u64 l := ⟨_, rfl⟩
  rw [← hcl] at M1 M2 M3 HB ⊢
  have HCl := Aside0.mk hcl
  clear hl hcl
  go_enter Try.func78, Try.ntmps78
  go_wp2_with (first
    | ((with_reducible refine gate_dst (N := 10) rfl ?_); refine Mem.load M1.out rfl 72 (.tmp 1) rfl rfl Try.underlying72 (by rw [HL.out]; exact info_st) ?_))
  go_loopg [11] 25 (fun kq i w' => ∃ j : Nat, j + kq = 25 ∧ i = .int .i64 j ∧ Aside0 (Mem .u64 w' w.heap.size 72 l) ∧ Aside0 (Mem .u64 w' (w.heap.size + 1) 72 zst) ∧ Aside0 (Mem .u64 w' (w.heap.size + 2) 72 (moveTo l j)) ∧ Aside0 (Below w.heap.size w w'))
  case atStart => exact ⟨0, by omega, rfl, M1, M2, M3, HB⟩
  case round =>
    clear M1 M2 M3 HB
    obtain ⟨j, hj, rfl, M1, M2, M3, HB⟩ := hrel
    cases gk with
    | zero =>
      obtain rfl : j = 25 := by omega
      have M3 : Aside0 (Mem .u64 _ (w.heap.size + 2) 72 (moveL l)) := M3
      go_wp2_with (first
        | ((with_reducible refine gate_dst (N := 36) rfl ?_); refine Mem.load M3.out rfl 72 (.tmp 3) rfl rfl Try.underlying72 (by rw [moveL_length]; exact info_st) ?_)
        | ((with_reducible refine gate_store (t := 72) (p := 2) rfl ?_); refine Mem.store (l' := moveL l) M2.out rfl 72 (.tmp 2) (.tmp 36) rfl rfl rfl (by rw [moveL_length]; exact info_st) (by rw [moveL_length]; rfl) ?_))
      refine bodyPost_ret (v := .agg (cellsOf .u64 (moveL l))) (results_cell_row rfl _ _ _ _ _ _ _ rfl (Mem.put M2.out (moveL l)) Try.underlying72 rfl (by rw [cellsOf_size, moveL_length]; exact info_st)) rfl ⟨rfl, below_setRow HB.out (by omega) _⟩
    | succ k1 =>
      have hlt : j < 25 := by omega
      have HJ := Aside0.mk hj
      have hix := run_index_arr (k := .u64) (P := Try.prog) (l := l) Try.underlying72 Try.underlying71 info_w HL.out j hlt
      have HV := Aside0.mk (show (moveTo l j).set (dst j) (rotI (l.getD j 0) (turnN (j % 5) (j / 5))) = moveTo l (j + 1) from rfl)
      have hdst : dst j < 25 := by unfold dst; omega
      have hdst' : (dst j : Nat) = j / 5 + 5 * ((2 * (j % 5) + 3 * (j / 5)) % 5) := rfl
      obtain ⟨q, hq⟩ : ∃ q, q = j % 5 := ⟨_, rfl⟩
      obtain ⟨r, hr⟩ : ∃ r, r = j / 5 := ⟨_, rfl⟩
      rw [← hq, ← hr] at HV hdst'
      obtain ⟨s, hs⟩ : ∃ s, s = (2 * q + 3 * r) % 5 := ⟨_, rfl⟩
      obtain ⟨d, hd⟩ : ∃ d, d = dst j := ⟨_, rfl⟩
      rw [← hd] at HV hdst hdst'
      rw [← hs] at hdst'
      have c1 := next_c q r (by omega) (by omega)
      rw [← hs] at c1
      have C1 := Aside0.mk c1
      have C2 := Aside0.mk (turn_c q r (by omega) (by omega))
      have C3 := Aside0.mk (rot_c (l.getD j 0) (turnN q r) (words_getD hw j))
      have e0 : (j : Int) % 5 = (q : Int) := by omega
      have e1 : (j : Int) / 5 = (r : Int) := by omega
      have s5 : s < 5 := by omega
      have r5 : r < 5 := by omega
      have e2 : (r : Int) + 5 * (s : Int) = (d : Int) := by omega
      have hld : d < (moveTo l j).length := by rw [moveTo_length]; exact hdst
      clear hj hs hd hq hr hdst' c1 hdst
      generalize rotI (l.getD j 0) (turnN q r) = R at *
      generalize l.getD j 0 = x at *
      generalize turnN q r = tn at *
      generalize moveTo l j = mj at *
      go_wp2_with (first
        | (go_at_call 120; (with_reducible refine (C1.out.q _).mono ?_); rintro e w' ⟨rfl, ⟨n1, rfl⟩⟩)
        | (go_at_call 122; (with_reducible refine (C2.out.q _).mono ?_); rintro e w' ⟨rfl, ⟨n2, rfl⟩⟩)
        | (go_at_call 121; (with_reducible refine (C3.out.q _).mono ?_); rintro e w' ⟨rfl, ⟨n3, rfl⟩⟩; have hx := (Mem.drewN M3.out (n1 + n2 + n3)).cell d hld; have hf := (Mem.drewN M3.out (n1 + n2 + n3)).free d))
      go_roundg k1
      case measure => omega
      case rel => exact ⟨j + 1, by have := HJ.out; omega, by go_num, ⟨Mem.other (Mem.drewN M1.out _) (g' := w.heap.size + 2) (by omega) _ _⟩, ⟨Mem.other (Mem.drewN M2.out _) (g' := w.heap.size + 2) (by omega) _ _⟩, ⟨by rw [← HV.out]; exact Mem.set (Mem.drewN M3.out _) _ _⟩, ⟨below_set (pw_below_drewN HB.out _) (by omega)⟩⟩
end Go.Proofs.Ythijjpiddelefaa.Keccak
namespace Go.Proofs.Ythijjpiddelefaa.Keccak
open Go.RowKit Go.Proofs.YthijjpiddelefaaW.PrintWords Go.Proofs.YthijjpiddelefaaW.PrintLast Go.Proofs.YthijjpiddelefaaW.PrintMore Byte Sl Arr Mem Gives RotC KecT ArrEq OctMath
set_option linter.unusedVariables false
set_option linter.unusedSimpArgs false
theorem cc {f : FuncId} {l l' : List Int} (h : GivesB f #[arrV .u64 l] (arrV .u64 l')) : GivesB f #[.agg (cellsOf .u64 l)] (.agg (cellsOf .u64 l')) := h
theorem thetaL_words (l : List Int) (h : Words l) (hl : l.length = 25) : Words (thetaL l) :=
  byI_words _ _ fun i _ => xor_word _ _ (words_getD h _) (xor_word _ _ (words_getD (colTo_words l h hl 25) _) (rotI_word _ _))
theorem chiL_words (l : List Int) (h : Words l) : Words (chiL l) :=
  byI_words _ _ fun i _ => xor_word _ _ (words_getD h _) (andNot_word _ _ (words_getD h _) (words_getD h _))
theorem turn_lt : ∀ x : Fin 5, ∀ y : Fin 5, turnN x y < 64 := by decide +kernel
def mark0 (l : List Int) (i : Nat) : List Int := l.set 0 (Go.bits .xor .u64 (l.getD 0 0) (markN i))
theorem mark0_length (l : List Int) (i : Nat) : (mark0 l i).length = l.length := by simp [mark0]
theorem mark0_words (l : List Int) (i : Nat) (h : Words l) (hi : i < 24) : Words (mark0 l i) := h.set _ _ (xor_word _ _ (words_getD h _) (mark_word i hi))
def mixL (l : List Int) : List Int := chiL (moveL (thetaL l))
theorem mixL_length (l : List Int) : (mixL l).length = 25 := chiL_length _
theorem mixL_words (l : List Int) : Words (mixL l) := chiL_words _ (moveL_words _)
def permTo (l : List Int) : Nat → List Int
  | 0 => l
  | i + 1 => mark0 (mixL (permTo l i)) i
theorem permTo_length (l : List Int) (hl : l.length = 25) : ∀ i, (permTo l i).length = 25
  | 0 => hl
  | i + 1 => by rw [permTo, mark0_length, mixL_length]
theorem permTo_words (l : List Int) (h : Words l) : ∀ i, i ≤ 24 → Words (permTo l i)
  | 0, _ => h
  | i + 1, hi => mark0_words _ _ (mixL_words _) (by omega)
set_option maxHeartbeats 4000000 in
set_option maxRecDepth 100000 in
theorem permute_c (l : List Int) (hl : l.length = 25) (hw : Words l) : GivesB 58 #[arrV .u64 l] (arrV .u64 (permTo l 24)) := by
  intro w
  rw [arrV_eq]
  rw [arrV_eq]
  have HL := Aside0.mk hl
  have M1 := Aside0.mk (Mem.alloc (Mem.new .u64 w 72 l) (.cells (cellsOf .u64 zst) 72))
  have M2 := Aside0.mk (Mem.new2 .u64 w (.cells (cellsOf .u64 l) 72) 72 zst)
  have HB := Aside0.mk (below_alloc (below_alloc (Below.refl w.heap.size w) (.cells (cellsOf .u64 l) 72)) (.cells (cellsOf .u64 zst) 72))
  obtain ⟨cl, hcl⟩ : ∃ cs, cs = cellsOf .u64 l := ⟨_, rfl⟩
  rw [← hcl] at M1 M2 HB ⊢
  have HCl := Aside0.mk hcl
  clear hl hcl
  go_enter Try.func58, Try.ntmps58
  go_wp2
  go_loopg [4] 24 (fun kq i w' => ∃ j : Nat, j + kq = 24 ∧ i = .int .i64 j ∧ Aside0 (Mem .u64 w' w.heap.size 72 (permTo l j)) ∧ Aside0 (Mem .u64 w' (w.heap.size + 1) 72 zst) ∧ Aside0 (Below w.heap.size w w'))
  case atStart => exact ⟨0, by omega, rfl, M1, M2, HB⟩
  case round =>
    clear M1 M2 HB
    obtain ⟨j, hj, rfl, M1, M2, HB⟩ := hrel
    cases gk with
    | zero =>
      obtain rfl : j = 24 := by omega
      have HP := Aside0.mk (permTo_length l HL.out 24)
      obtain ⟨p, hp⟩ : ∃ z, z = permTo l 24 := ⟨_, rfl⟩
      rw [← hp] at M1 HP
      have HV := Aside0.mk hp
      clear hp hj
      go_wp2_with (first
        | ((with_reducible refine gate_dst (N := 18) rfl ?_); refine Mem.load M1.out rfl 72 (.tmp 1) rfl rfl Try.underlying72 (by rw [HP.out]; exact info_st) ?_)
        | ((with_reducible refine gate_store (t := 72) (p := 2) rfl ?_); refine Mem.store (l' := p) M2.out rfl 72 (.tmp 2) (.tmp 18) rfl rfl rfl (by rw [HP.out]; exact info_st) (by rw [HP.out, zst_length]) ?_))
      refine bodyPost_ret (v := .agg (cellsOf .u64 (p))) (results_cell_row rfl _ _ _ _ _ _ _ rfl (Mem.put M2.out (p)) Try.underlying72 rfl (by rw [cellsOf_size, HP.out]; exact info_st)) rfl ⟨by rw [HV.out], below_setRow HB.out (by omega) _⟩
    | succ k1 =>
      have hlt : j < 24 := by omega
      have HJ := Aside0.mk hj
      clear hj
      have hP := permTo_length l HL.out j
      have hW := permTo_words l hw j (by omega)
      have C4 := Aside0.mk (mark_c j hlt)
      have HV := Aside0.mk (show permTo l (j + 1) = (mixL (permTo l j)).set 0 (Go.bits .xor .u64 ((mixL (permTo l j)).getD 0 0) (markN j)) from rfl)
      obtain ⟨p', hp'⟩ : ∃ z, z = permTo l (j + 1) := ⟨_, rfl⟩
      rw [← hp'] at HV
      have HV' := Aside0.mk hp'
      clear hp'
      generalize permTo l j = p at *
      have C1 := Aside0.mk (cc (theta_c p hP hW))
      have C2 := Aside0.mk (cc (move_c (thetaL p) (thetaL_length _) (thetaL_words _ hW hP)))
      have C3 := Aside0.mk (cc (chi_c (moveL (thetaL p)) (moveL_length _)))
      rw [show chiL (moveL (thetaL p)) = mixL p from rfl] at C3
      have HM := Aside0.mk (mixL_length p)
      have HP := Aside0.mk hP
      generalize mixL p = m at *
      generalize moveL (thetaL p) = m2 at *
      generalize thetaL p = m1 at *
      generalize hmk : markN j = mk at *
      clear hP hW hmk
      go_wp2_with (first
        | ((with_reducible refine gate_dst (N := 7) rfl ?_); refine Mem.load M1.out rfl 72 (.tmp 1) rfl rfl Try.underlying72 (by rw [HP.out]; exact info_st) ?_)
        | (go_at_call 79; (with_reducible refine (C1.out.q _).mono ?_); rintro e w1 ⟨rfl, hb1⟩; have M1 := Aside0.mk (Mem.below M1.out hb1); have M2 := Aside0.mk (Mem.below M2.out hb1); have HB := Aside0.mk (below_step HB.out hb1))
        | (go_at_call 78; (with_reducible refine (C2.out.q _).mono ?_); rintro e w2 ⟨rfl, hb2⟩; have M1 := Aside0.mk (Mem.below M1.out hb2); have M2 := Aside0.mk (Mem.below M2.out hb2); have HB := Aside0.mk (below_step HB.out hb2))
        | (go_at_call 77; (with_reducible refine (C3.out.q _).mono ?_); rintro e w3 ⟨rfl, hb3⟩; have M1 := Aside0.mk (Mem.below M1.out hb3); have M2 := Aside0.mk (Mem.below M2.out hb3); have HB := Aside0.mk (below_step HB.out hb3))
        | ((with_reducible refine gate_store (t := 72) (p := 1) rfl ?_); refine Mem.store (l' := m) M1.out rfl 72 (.tmp 1) (.tmp 10) rfl rfl rfl (by rw [HM.out]; exact info_st) (by rw [HM.out, HP.out]) ?_))
      have N1 := Aside0.mk (Mem.put M1.out m)
      have N2 := Aside0.mk (Mem.row M2.out (g' := w.heap.size) (by omega) (cellsOf .u64 m))
      have NB := Aside0.mk (below_setRow HB.out (g := w.heap.size) (Nat.le_refl _) (cellsOf .u64 m))
      have hx := N1.out.cell 0 (by rw [HM.out]; decide)
      have hf := N1.out.free 0
      generalize m.getD 0 0 = x at *
      refine start_ (n := 7) (S := fun w' => w'.cell? ⟨w.heap.size, 0, none⟩ = some (.int .u64 x)) (ds := [6]) #[false, false, false, false, false, false, false] (by kernel_rfl) rfl rfl (hx) (fun hHeld => ?_)
      refine pure_ (i := 0) (N := some 11) (v := ?_) (a' := ?_) #[true, false, false, false, false, false, false] rfl rfl (by kernel_rfl) (fun _ _ _ h => h) (Or.inl ⟨by rfl, ?_⟩) ?_ ?_
      rotate_left
      · intro w'
        go_simp
        with_reducible rfl
      rotate_left
      · simp only [Act.put, List.setIfInBounds_toArray, List.set_cons_zero, List.set_cons_succ, i64_w, i32_w]
        rfl
      refine pure_ (i := 2) (N := some 13) (v := ?_) (a' := ?_) #[true, false, true, false, false, false, false] rfl rfl (by kernel_rfl) (fun _ _ _ h => h) (Or.inl ⟨by rfl, ?_⟩) ?_ ?_
      rotate_left
      · intro w'
        go_simp
        with_reducible rfl
      rotate_left
      · simp only [Act.put, List.setIfInBounds_toArray, List.set_cons_zero, List.set_cons_succ, i64_w, i32_w]
        rfl
      refine take_ (i := 1) (N := some 12) (v := ?_) (a' := ?_) #[true, true, true, false, false, false, false] rfl rfl (by kernel_rfl) (fun _ _ _ h => h) (Or.inl ⟨by rfl, ?_⟩) hHeld ?_ ?_
      rotate_left
      · intro w' s0
        go_simp
        with_reducible rfl
      rotate_left
      · simp only [Act.put, List.setIfInBounds_toArray, List.set_cons_zero, List.set_cons_succ, i64_w, i32_w]
        rfl
      refine one_ (i := 3) (N := some 14) #[true, true, true, true, false, false, false] rfl rfl (by kernel_rfl) (by decide) (fun K hK => ?_)
      refine goes_ Try.func80 (by kernel_rfl) rfl #[.int .i64 j] (by rfl) rfl rfl (by simp only [List.map_toArray, List.map_cons, List.map_nil]; rfl) ?_
      with_reducible refine (C4.out.q _).mono ?_
      rintro e w4 ⟨rfl, ⟨⟨n2, rfl⟩⟩⟩
      refine ⟨_, rfl, ?_⟩
      refine hK.out _ _ (hHeld) (fun hHeld => ?_)
      clear hK K
      refine norm_ (a' := ?_) ?_ ?_
      rotate_left
      · show Act.put _ (some 14) _ = _
        simp only [Act.put, List.setIfInBounds_toArray, List.set_cons_zero, List.set_cons_succ, i64_w, i32_w]
        rfl
      refine pure_ (i := 4) (N := some 15) (v := ?_) (a' := ?_) #[true, true, true, true, true, false, false] rfl rfl (by kernel_rfl) (fun _ _ _ h => h) (Or.inl ⟨by rfl, ?_⟩) ?_ ?_
      rotate_left
      · intro w'
        go_simp
        with_reducible rfl
      rotate_left
      · simp only [Act.put, List.setIfInBounds_toArray, List.set_cons_zero, List.set_cons_succ, i64_w, i32_w]
        rfl
      refine pure_ (i := 5) (N := some 16) (v := ?_) (a' := ?_) #[true, true, true, true, true, true, false] rfl rfl (by kernel_rfl) (fun _ _ _ h => h) (Or.inl ⟨by rfl, ?_⟩) ?_ ?_
      rotate_left
      · intro w'
        go_simp
        with_reducible rfl
      rotate_left
      · simp only [Act.put, List.setIfInBounds_toArray, List.set_cons_zero, List.set_cons_succ, i64_w, i32_w]
        rfl
      refine last_ (i := 6) (N := none) #[true, true, true, true, true, true, true] rfl rfl (by kernel_rfl) (by decide) (fun K hK => ?_)
      refine skip_ (w1 := ?_) (by rfl) rfl ?_ ?_
      rotate_left
      · go_simp
        rfl
      refine hK.out _ _ ?_
      clear hK K
      refine done_ (by kernel_rfl) ?_
      go_wp2
      go_roundg k1
      case measure => omega
      case rel => exact ⟨j + 1, by have := HJ.out; omega, by go_num, ⟨by rw [← HV'.out, HV.out]; exact Mem.set (Mem.drewN N1.out _) _ _⟩, ⟨Mem.other (Mem.drewN N2.out _) (by omega) _ _⟩, ⟨below_set (pw_below_drewN NB.out _) (Nat.le_refl _)⟩⟩
theorem built5 : Try.prog.built 106 [] = some (cellsOf .u64 (List.replicate 5 0)) := by kernel_rfl
theorem built25 : Try.prog.built 72 [] = some (cellsOf .u64 zst) := by kernel_rfl
theorem info_5 : (Try.prog.info? 106).map (·.size) = some 5 := by kernel_rfl
theorem xor_assoc' (x y z : Int) (hx : IsWord x) (hy : IsWord y) (hz : IsWord z) : Go.bits .xor .u64 (Go.bits .xor .u64 x y) z = Go.bits .xor .u64 x (Go.bits .xor .u64 y z) := by
  obtain ⟨a, rfl⟩ := I64_of x hx.1 hx.2
  obtain ⟨b, rfl⟩ := I64_of y hy.1 hy.2
  obtain ⟨c, rfl⟩ := I64_of z hz.1 hz.2
  rw [xor64, xor64, xor64, xor64, BitVec.xor_assoc]
set_option maxHeartbeats 4000000 in
set_option maxRecDepth 100000 in
theorem rtheta_c (l : List Int) (hl : l.length = 25) (hw : Words l) : GivesB 86 #[arrV .u64 l] (arrV .u64 (thetaL l)) := by
  intro w
  rw [arrV_eq]
  rw [arrV_eq]
  have HL := Aside0.mk hl
  have M1 := Aside0.mk (Mem.alloc (Mem.alloc (Mem.new .u64 w 72 l) (.cells (cellsOf .u64 zst) 72)) (.cells (cellsOf .u64 (List.replicate 5 0)) 106))
  have M2 := Aside0.mk (Mem.alloc (Mem.new2 .u64 w (.cells (cellsOf .u64 l) 72) 72 zst) (.cells (cellsOf .u64 (List.replicate 5 0)) 106))
  have M3 := Aside0.mk (Mem.new3 .u64 w (.cells (cellsOf .u64 l) 72) (.cells (cellsOf .u64 zst) 72) 106 (List.replicate 5 0))
  have HB := Aside0.mk (below_alloc (below_alloc (below_alloc (Below.refl w.heap.size w) (.cells (cellsOf .u64 l) 72)) (.cells (cellsOf .u64 zst) 72)) (.cells (cellsOf .u64 (List.replicate 5 0)) 106))
  obtain ⟨cl, hcl⟩ : ∃ cs, cs = cellsOf .u64 l := ⟨_, rfl⟩
  rw [← hcl] at M1 M2 M3 HB ⊢
  have HCl := Aside0.mk hcl
  clear hl hcl
  go_enter Try.func86, Try.ntmps86
  go_wp2_with (first
    | ((with_reducible refine gate_dst (N := 6) rfl ?_); refine wpList_build_zero rfl 106 rfl (cellsOf .u64 (List.replicate 5 0)) built5 ?_)
    | ((with_reducible refine gate_store (t := 106) (p := 3) rfl ?_); refine Mem.store (l' := List.replicate 5 0) M3.out rfl 106 (.tmp 3) (.tmp 6) rfl rfl rfl info_5 rfl ?_))
  have N1 := Aside0.mk (Mem.row M1.out (g' := w.heap.size + 2) (by omega) (cellsOf .u64 (List.replicate 5 0)))
  have N2 := Aside0.mk (Mem.row M2.out (g' := w.heap.size + 2) (by omega) (cellsOf .u64 (List.replicate 5 0)))
  have N3 := Aside0.mk (Mem.put M3.out (List.replicate 5 0))
  have NB := Aside0.mk (below_setRow HB.out (g := w.heap.size + 2) (by omega) (cellsOf .u64 (List.replicate 5 0)))
  clear M1 M2 M3 HB
  go_loopg [4] 25 (fun kq i w' => ∃ j : Nat, j + kq = 25 ∧ i = .int .i64 j ∧ Aside0 (Mem .u64 w' w.heap.size 72 l) ∧ Aside0 (Mem .u64 w' (w.heap.size + 1) 72 zst) ∧ Aside0 (Mem .u64 w' (w.heap.size + 2) 106 (colTo l j)) ∧ Aside0 (Below w.heap.size w w'))
  case atStart => exact ⟨0, by omega, rfl, N1, N2, N3, NB⟩
  case round =>
    clear N1 N2 N3 NB
    obtain ⟨j, hj, rfl, M1, M2, M3, HB⟩ := hrel
    cases gk with
    | zero =>
      obtain rfl : j = 25 := by omega
      go_wp2
      go_loopg [5] 25 (fun kq i w' => ∃ j : Nat, j + kq = 25 ∧ i = .int .i64 j ∧ Aside0 (Mem .u64 w' w.heap.size 72 (fillTo (thetaL l) l j)) ∧ Aside0 (Mem .u64 w' (w.heap.size + 1) 72 zst) ∧ Aside0 (Mem .u64 w' (w.heap.size + 2) 106 (colTo l 25)) ∧ Aside0 (Below w.heap.size w w'))
      case atStart => exact ⟨0, by omega, rfl, ⟨by rw [fillTo_zero]; exact M1.out⟩, M2, M3, HB⟩
      case round =>
        clear M1 M2 M3 HB
        obtain ⟨j, hj, rfl, M1, M2, M3, HB⟩ := hrel
        cases gk with
        | zero =>
          obtain rfl : j = 25 := by omega
          have hend : fillTo (thetaL l) l 25 = thetaL l := by
            have := fillTo_end (thetaL l) l (by rw [thetaL_length, HL.out])
            rwa [HL.out] at this
          rw [hend] at M1
          clear hend
          go_wp2_with (first
            | ((with_reducible refine gate_dst (N := 44) rfl ?_); refine Mem.load M1.out rfl 72 (.tmp 1) rfl rfl Try.underlying72 (by rw [thetaL_length]; exact info_st) ?_)
            | ((with_reducible refine gate_store (t := 72) (p := 2) rfl ?_); refine Mem.store (l' := thetaL l) M2.out rfl 72 (.tmp 2) (.tmp 44) rfl rfl rfl (by rw [thetaL_length]; exact info_st) (by rw [thetaL_length]; rfl) ?_))
          refine bodyPost_ret (v := .agg (cellsOf .u64 (thetaL l))) (results_cell_row rfl _ _ _ _ _ _ _ rfl (Mem.put M2.out (thetaL l)) Try.underlying72 rfl (by rw [cellsOf_size, thetaL_length]; exact info_st)) rfl ⟨rfl, below_setRow HB.out (by omega) _⟩
        | succ k1 =>
          have hlt : j < 25 := by omega
          have HJ := Aside0.mk hj
          clear hj
          obtain ⟨q1, hq1⟩ : ∃ q : Nat, q = (j + 1) % 5 := ⟨_, rfl⟩
          obtain ⟨q4, hq4⟩ : ∃ q : Nat, q = (j + 4) % 5 := ⟨_, rfl⟩
          obtain ⟨p1, hp1⟩ : ∃ q : Nat, q = j + 1 := ⟨_, rfl⟩
          obtain ⟨p4, hp4⟩ : ∃ q : Nat, q = j + 4 := ⟨_, rfl⟩
          have l1 : q1 < 5 := by omega
          have l4 : q4 < 5 := by omega
          have g1 : (q1 : Int) < 5 := by omega
          have g4 : (q4 : Int) < 5 := by omega
          have hx := M1.out.cell j (by rw [fillTo_length _ _ (by rw [thetaL_length, HL.out]), HL.out]; exact hlt)
          have hf := M1.out.free j
          have hc1 := M3.out.cell q1 (by rw [colTo_length]; exact l1)
          have hc4 := M3.out.cell q4 (by rw [colTo_length]; exact l4)
          rw [fillTo_ge _ _ (by rw [thetaL_length, HL.out]) j j (by rw [HL.out]; omega) (Nat.le_refl _)] at hx
          have hval : (thetaL l).getD j 0 = Go.bits .xor .u64 (Go.bits .xor .u64 (l.getD j 0) ((colTo l 25).getD q4 0)) (rotI ((colTo l 25).getD q1 0) 1) := by
            rw [xor_assoc' _ _ _ (words_getD hw _) (words_getD (colTo_words l hw HL.out 25) _) (rotI_word _ _)]
            unfold thetaL; rw [byI_get _ _ _ hlt, hq1, hq4]; rfl
          have hset := fillTo_set (thetaL l) l (by rw [thetaL_length, HL.out]) j (by rw [HL.out]; omega) _ hval
          have HV := Aside0.mk hset
          have HR := Aside0.mk (rrot_c ((colTo l 25).getD q1 0) 1 (words_getD (colTo_words l hw HL.out 25) q1))
          clear hval hset
          have f2 : IntKind.i64.wrap ((j : Int) + 4) = (p4 : Int) := by rw [IntKind.wrap_i64]; omega
          have f3 : Int.tmod (p4 : Int) 5 = (q4 : Int) := by rw [Int.tmod_eq_emod_of_nonneg (by omega)]; omega
          have f4 : IntKind.i64.wrap ((j : Int) + 1) = (p1 : Int) := by rw [IntKind.wrap_i64]; omega
          have f5 : Int.tmod (p1 : Int) 5 = (q1 : Int) := by rw [Int.tmod_eq_emod_of_nonneg (by omega)]; omega
          clear hq1 hq4 hp1 hp4
          generalize rotI ((colTo l 25).getD q1 0) 1 = R at *
          generalize l.getD j 0 = x at *
          generalize (colTo l 25).getD q4 0 = y at *
          generalize (colTo l 25).getD q1 0 = z at *
          go_wp2
          refine start_ (n := 19) (S := fun w' => w'.cell? ⟨w.heap.size, j, none⟩ = some (.int .u64 x) ∧ w'.cell? ⟨w.heap.size + 2, q4, none⟩ = some (.int .u64 y) ∧ w'.cell? ⟨w.heap.size + 2, q1, none⟩ = some (.int .u64 z)) (ds := [18]) #[false, false, false, false, false, false, false, false, false, false, false, false, false, false, false, false, false, false, false] (by kernel_rfl) rfl rfl ⟨hx, hc4, hc1⟩ (fun hHeld => ?_)
          refine pure_ (i := 0) (N := some 26) (v := ?_) (a' := ?_) #[true, false, false, false, false, false, false, false, false, false, false, false, false, false, false, false, false, false, false] rfl rfl (by kernel_rfl) (fun _ _ _ h => h) (Or.inl ⟨by rfl, ?_⟩) ?_ ?_
          rotate_left
          · intro w'
            go_simp
            with_reducible rfl
          rotate_left
          · simp only [Act.put, List.setIfInBounds_toArray, List.set_cons_zero, List.set_cons_succ, i64_w, i32_w]
            rfl
          refine pure_ (i := 1) (N := some 27) (v := ?_) (a' := ?_) #[true, true, false, false, false, false, false, false, false, false, false, false, false, false, false, false, false, false, false] rfl rfl (by kernel_rfl) (fun _ _ _ h => h) (Or.inl ⟨by rfl, ?_⟩) ?_ ?_
          rotate_left
          · intro w'
            go_simp
            with_reducible rfl
          rotate_left
          · simp only [Act.put, List.setIfInBounds_toArray, List.set_cons_zero, List.set_cons_succ, i64_w, i32_w]
            rfl
          refine pure_ (i := 2) (N := some 28) (v := ?_) (a' := ?_) #[true, true, true, false, false, false, false, false, false, false, false, false, false, false, false, false, false, false, false] rfl rfl (by kernel_rfl) (fun _ _ _ h => h) (Or.inl ⟨by rfl, ?_⟩) ?_ ?_
          rotate_left
          · intro w'
            go_simp
            with_reducible rfl
          rotate_left
          · simp only [Act.put, List.setIfInBounds_toArray, List.set_cons_zero, List.set_cons_succ, i64_w, i32_w]
            rfl
          refine pure_ (i := 4) (N := some 30) (v := ?_) (a' := ?_) #[true, true, true, false, true, false, false, false, false, false, false, false, false, false, false, false, false, false, false] rfl rfl (by kernel_rfl) (fun _ _ _ h => h) (Or.inl ⟨by rfl, ?_⟩) ?_ ?_
          rotate_left
          · intro w'
            go_simp
            with_reducible rfl
          rotate_left
          · simp only [Act.put, List.setIfInBounds_toArray, List.set_cons_zero, List.set_cons_succ, i64_w, i32_w]
            rfl
          refine pure_ (i := 5) (N := some 31) (v := ?_) (a' := ?_) #[true, true, true, false, true, true, false, false, false, false, false, false, false, false, false, false, false, false, false] rfl rfl (by kernel_rfl) (fun _ _ _ h => h) (Or.inl ⟨by rfl, ?_⟩) ?_ ?_
          rotate_left
          · intro w'
            go_simp
            with_reducible rfl
          rotate_left
          · simp only [Act.put, List.setIfInBounds_toArray, List.set_cons_zero, List.set_cons_succ, i64_w, i32_w]
            rfl
          refine pure_ (i := 6) (N := some 32) (v := ?_) (a' := ?_) #[true, true, true, false, true, true, true, false, false, false, false, false, false, false, false, false, false, false, false] rfl rfl (by kernel_rfl) (fun _ _ _ h => h) (Or.inl ⟨by rfl, ?_⟩) ?_ ?_
          rotate_left
          · intro w'
            go_simp
            with_reducible rfl
          rotate_left
          · simp only [Act.put, List.setIfInBounds_toArray, List.set_cons_zero, List.set_cons_succ, i64_w, i32_w]
            rfl
          refine pure_ (i := 7) (N := some 33) (v := ?_) (a' := ?_) #[true, true, true, false, true, true, true, true, false, false, false, false, false, false, false, false, false, false, false] rfl rfl (by kernel_rfl) (fun _ _ _ h => h) (Or.inl ⟨by rfl, ?_⟩) ?_ ?_
          rotate_left
          · intro w'
            go_simp
            with_reducible rfl
          rotate_left
          · simp only [Act.put, List.setIfInBounds_toArray, List.set_cons_zero, List.set_cons_succ, i64_w, i32_w]
            rfl
          refine pure_ (i := 10) (N := some 36) (v := ?_) (a' := ?_) #[true, true, true, false, true, true, true, true, false, false, true, false, false, false, false, false, false, false, false] rfl rfl (by kernel_rfl) (fun _ _ _ h => h) (Or.inl ⟨by rfl, ?_⟩) ?_ ?_
          rotate_left
          · intro w'
            go_simp
            with_reducible rfl
          rotate_left
          · simp only [Act.put, List.setIfInBounds_toArray, List.set_cons_zero, List.set_cons_succ, i64_w, i32_w]
            rfl
          refine pure_ (i := 11) (N := some 37) (v := ?_) (a' := ?_) #[true, true, true, false, true, true, true, true, false, false, true, true, false, false, false, false, false, false, false] rfl rfl (by kernel_rfl) (fun _ _ _ h => h) (Or.inl ⟨by rfl, ?_⟩) ?_ ?_
          rotate_left
          · intro w'
            go_simp
            with_reducible rfl
          rotate_left
          · simp only [Act.put, List.setIfInBounds_toArray, List.set_cons_zero, List.set_cons_succ, i64_w, i32_w]
            rfl
          refine pure_ (i := 12) (N := some 38) (v := ?_) (a' := ?_) #[true, true, true, false, true, true, true, true, false, false, true, true, true, false, false, false, false, false, false] rfl rfl (by kernel_rfl) (fun _ _ _ h => h) (Or.inl ⟨by rfl, ?_⟩) ?_ ?_
          rotate_left
          · intro w'
            go_simp
            with_reducible rfl
          rotate_left
          · simp only [Act.put, List.setIfInBounds_toArray, List.set_cons_zero, List.set_cons_succ, i64_w, i32_w]
            rfl
          refine pure_ (i := 13) (N := some 39) (v := ?_) (a' := ?_) #[true, true, true, false, true, true, true, true, false, false, true, true, true, true, false, false, false, false, false] rfl rfl (by kernel_rfl) (fun _ _ _ h => h) (Or.inl ⟨by rfl, ?_⟩) ?_ ?_
          rotate_left
          · intro w'
            go_simp
            with_reducible rfl
          rotate_left
          · simp only [Act.put, List.setIfInBounds_toArray, List.set_cons_zero, List.set_cons_succ, i64_w, i32_w]
            rfl
          refine take_ (i := 3) (N := some 29) (v := ?_) (a' := ?_) #[true, true, true, true, true, true, true, true, false, false, true, true, true, true, false, false, false, false, false] rfl rfl (by kernel_rfl) (fun _ _ _ h => h) (Or.inl ⟨by rfl, ?_⟩) hHeld ?_ ?_
          rotate_left
          · rintro w' ⟨s0, s1, s2⟩
            go_simp
            with_reducible rfl
          rotate_left
          · simp only [Act.put, List.setIfInBounds_toArray, List.set_cons_zero, List.set_cons_succ, i64_w, i32_w]
            rfl
          refine take_ (i := 8) (N := some 34) (v := ?_) (a' := ?_) #[true, true, true, true, true, true, true, true, true, false, true, true, true, true, false, false, false, false, false] rfl rfl (by kernel_rfl) (fun _ _ _ h => h) (Or.inl ⟨by rfl, ?_⟩) hHeld ?_ ?_
          rotate_left
          · rintro w' ⟨s0, s1, s2⟩
            go_simp
            with_reducible rfl
          rotate_left
          · simp only [Act.put, List.setIfInBounds_toArray, List.set_cons_zero, List.set_cons_succ, i64_w, i32_w]
            rfl
          refine pure_ (i := 9) (N := some 35) (v := ?_) (a' := ?_) #[true, true, true, true, true, true, true, true, true, true, true, true, true, true, false, false, false, false, false] rfl rfl (by kernel_rfl) (fun _ _ _ h => h) (Or.inl ⟨by rfl, ?_⟩) ?_ ?_
          rotate_left
          · intro w'
            go_simp
            with_reducible rfl
          rotate_left
          · simp only [Act.put, List.setIfInBounds_toArray, List.set_cons_zero, List.set_cons_succ, i64_w, i32_w]
            rfl
          refine take_ (i := 14) (N := some 40) (v := ?_) (a' := ?_) #[true, true, true, true, true, true, true, true, true, true, true, true, true, true, true, false, false, false, false] rfl rfl (by kernel_rfl) (fun _ _ _ h => h) (Or.inl ⟨by rfl, ?_⟩) hHeld ?_ ?_
          rotate_left
          · rintro w' ⟨s0, s1, s2⟩
            go_simp
            with_reducible rfl
          rotate_left
          · simp only [Act.put, List.setIfInBounds_toArray, List.set_cons_zero, List.set_cons_succ, i64_w, i32_w]
            rfl
          refine one_ (i := 15) (N := some 41) #[true, true, true, true, true, true, true, true, true, true, true, true, true, true, true, true, false, false, false] rfl rfl (by kernel_rfl) (by decide) (fun K hK => ?_)
          refine goes_ Try.func123 (by kernel_rfl) rfl #[.int .u64 z, .int .i64 1] (by rfl) rfl rfl (by simp only [List.map_toArray, List.map_cons, List.map_nil]; rfl) ?_
          with_reducible refine (HR.out.q _).mono ?_
          rintro e w3 ⟨rfl, ⟨⟨nd, rfl⟩⟩⟩
          refine ⟨_, rfl, ?_⟩
          refine hK.out _ _ ⟨hHeld.1, hHeld.2.1, hHeld.2.2⟩ (fun hHeld => ?_)
          clear hK K
          refine norm_ (a' := ?_) ?_ ?_
          rotate_left
          · show Act.put _ (some 41) _ = _
            simp only [Act.put, List.setIfInBounds_toArray, List.set_cons_zero, List.set_cons_succ, i64_w, i32_w]
            rfl
          refine pure_ (i := 16) (N := some 42) (v := ?_) (a' := ?_) #[true, true, true, true, true, true, true, true, true, true, true, true, true, true, true, true, true, false, false] rfl rfl (by kernel_rfl) (fun _ _ _ h => h) (Or.inl ⟨by rfl, ?_⟩) ?_ ?_
          rotate_left
          · intro w'
            go_simp
            with_reducible rfl
          rotate_left
          · simp only [Act.put, List.setIfInBounds_toArray, List.set_cons_zero, List.set_cons_succ, i64_w, i32_w]
            rfl
          refine pure_ (i := 17) (N := some 43) (v := ?_) (a' := ?_) #[true, true, true, true, true, true, true, true, true, true, true, true, true, true, true, true, true, true, false] rfl rfl (by kernel_rfl) (fun _ _ _ h => h) (Or.inl ⟨by rfl, ?_⟩) ?_ ?_
          rotate_left
          · intro w'
            go_simp
            with_reducible rfl
          rotate_left
          · simp only [Act.put, List.setIfInBounds_toArray, List.set_cons_zero, List.set_cons_succ, i64_w, i32_w]
            rfl
          refine last_ (i := 18) (N := none) #[true, true, true, true, true, true, true, true, true, true, true, true, true, true, true, true, true, true, true] rfl rfl (by kernel_rfl) (by decide) (fun K hK => ?_)
          refine skip_ (w1 := ?_) (by rfl) rfl ?_ ?_
          rotate_left
          · go_simp
            rfl
          refine hK.out _ _ ?_
          clear hK K
          refine done_ (by kernel_rfl) ?_

          clear f2 f3 f4 f5
          go_wp2
          go_roundg k1
          case measure => omega
          case rel => exact ⟨j + 1, by have := HJ.out; omega, by go_num, ⟨by rw [← HV.out]; exact Mem.set (Mem.drewN M1.out _) _ _⟩, ⟨Mem.other (Mem.drewN M2.out _) (by omega) _ _⟩, ⟨Mem.other (Mem.drewN M3.out _) (by omega) _ _⟩, ⟨below_set (pw_below_drewN HB.out _) (by omega)⟩⟩
    | succ k1 =>
      have hlt : j < 25 := by omega
      have hq : j % 5 < 5 := by omega
      have HJ := Aside0.mk hj
      have hy := M1.out.cell j (by rw [HL.out]; exact hlt)
      have hx := M3.out.cell (j % 5) (by rw [colTo_length]; exact hq)
      have hf := M3.out.free (j % 5)
      have HV := Aside0.mk (show (colTo l j).set (j % 5) (Go.bits .xor .u64 ((colTo l j).getD (j % 5) 0) (l.getD j 0)) = colTo l (j + 1) from rfl)
      obtain ⟨q, hq'⟩ : ∃ q, q = j % 5 := ⟨_, rfl⟩
      rw [← hq'] at hx hf HV hq
      have g1 : (q : Int) < 5 := by omega
      have f1 : Int.tmod (j : Int) 5 = (q : Int) := by rw [Int.tmod_eq_emod_of_nonneg (by omega)]; omega
      clear hj hq'
      generalize l.getD j 0 = x at *
      generalize (colTo l j).getD q 0 = y at *
      go_wp2
      go_region
      all_goals
        clear f1
        go_wp2
        go_roundg k1
        case measure => omega
        case rel => exact ⟨j + 1, by have := HJ.out; omega, by go_num, ⟨Mem.drew (Mem.other M1.out (g' := w.heap.size + 2) (by omega) _ _)⟩, ⟨Mem.drew (Mem.other M2.out (g' := w.heap.size + 2) (by omega) _ _)⟩, ⟨by rw [← HV.out]; exact Mem.drew (Mem.set M3.out _ _)⟩, ⟨below_drew (below_set HB.out (by omega))⟩⟩
theorem chi_alt (x y z : Int) (hx : IsWord x) (hy : IsWord y) (hz : IsWord z) : Go.bits .xor .u64 (Go.bits .xor .u64 x y) (Go.bits .and .u64 y z) = Go.bits .xor .u64 x (Go.bits .andNot .u64 y z) := by
  obtain ⟨a, rfl⟩ := I64_of x hx.1 hx.2
  obtain ⟨b, rfl⟩ := I64_of y hy.1 hy.2
  obtain ⟨c, rfl⟩ := I64_of z hz.1 hz.2
  rw [xor64, and64, andNot64, xor64, xor64]
  congr 1
  refine BitVec.eq_of_getLsbD_eq fun i hi => ?_
  simp only [BitVec.getLsbD_xor, BitVec.getLsbD_and, BitVec.getLsbD_not]
  cases a.getLsbD i <;> cases b.getLsbD i <;> cases c.getLsbD i <;> simp [hi]
set_option maxHeartbeats 4000000 in
set_option maxRecDepth 100000 in
theorem rchi_c (l : List Int) (hl : l.length = 25) (hw : Words l) : GivesB 84 #[arrV .u64 l] (arrV .u64 (chiL l)) := by
  intro w
  rw [arrV_eq]
  rw [arrV_eq]
  have HL := Aside0.mk hl
  have M1 := Aside0.mk (Mem.alloc (Mem.alloc (Mem.new .u64 w 72 l) (.cells (cellsOf .u64 zst) 72)) (.cells (cellsOf .u64 zst) 72))
  have M2 := Aside0.mk (Mem.alloc (Mem.new2 .u64 w (.cells (cellsOf .u64 l) 72) 72 zst) (.cells (cellsOf .u64 zst) 72))
  have M3 := Aside0.mk (Mem.new3 .u64 w (.cells (cellsOf .u64 l) 72) (.cells (cellsOf .u64 zst) 72) 72 zst)
  have HB := Aside0.mk (below_alloc (below_alloc (below_alloc (Below.refl w.heap.size w) (.cells (cellsOf .u64 l) 72)) (.cells (cellsOf .u64 zst) 72)) (.cells (cellsOf .u64 zst) 72))
  obtain ⟨cl, hcl⟩ : ∃ cs, cs = cellsOf .u64 l := ⟨_, rfl⟩
  rw [← hcl] at M1 M2 M3 HB ⊢
  have HCl := Aside0.mk hcl
  clear hl hcl
  go_enter Try.func84, Try.ntmps84
  go_wp2_with (first
    | ((with_reducible refine gate_dst (N := 6) rfl ?_); refine wpList_build_zero rfl 72 rfl (cellsOf .u64 zst) built25 ?_)
    | ((with_reducible refine gate_store (t := 72) (p := 3) rfl ?_); refine Mem.store (l' := zst) M3.out rfl 72 (.tmp 3) (.tmp 6) rfl rfl rfl info_st rfl ?_))
  have N1 := Aside0.mk (Mem.row M1.out (g' := w.heap.size + 2) (by omega) (cellsOf .u64 zst))
  have N2 := Aside0.mk (Mem.row M2.out (g' := w.heap.size + 2) (by omega) (cellsOf .u64 zst))
  have N3 := Aside0.mk (Mem.put M3.out zst)
  have NB := Aside0.mk (below_setRow HB.out (g := w.heap.size + 2) (by omega) (cellsOf .u64 zst))
  clear M1 M2 M3 HB
  go_loopg [4] 25 (fun kq i w' => ∃ j : Nat, j + kq = 25 ∧ i = .int .i64 j ∧ Aside0 (Mem .u64 w' w.heap.size 72 l) ∧ Aside0 (Mem .u64 w' (w.heap.size + 1) 72 zst) ∧ Aside0 (Mem .u64 w' (w.heap.size + 2) 72 (fillTo (chiL l) zst j)) ∧ Aside0 (Below w.heap.size w w'))
  case atStart => exact ⟨0, by omega, rfl, N1, N2, ⟨by rw [fillTo_zero]; exact N3.out⟩, NB⟩
  case round =>
    clear N1 N2 N3 NB
    obtain ⟨j, hj, rfl, M1, M2, M3, HB⟩ := hrel
    cases gk with
    | zero =>
      obtain rfl : j = 25 := by omega
      have hend : fillTo (chiL l) zst 25 = chiL l := fillTo_end (chiL l) zst (by rw [chiL_length, zst_length])
      rw [hend] at M3
      clear hend
      go_wp2_with (first
        | ((with_reducible refine gate_dst (N := 43) rfl ?_); refine Mem.load M3.out rfl 72 (.tmp 3) rfl rfl Try.underlying72 (by rw [chiL_length]; exact info_st) ?_)
        | ((with_reducible refine gate_store (t := 72) (p := 2) rfl ?_); refine Mem.store (l' := chiL l) M2.out rfl 72 (.tmp 2) (.tmp 43) rfl rfl rfl (by rw [chiL_length]; exact info_st) (by rw [chiL_length]; rfl) ?_))
      refine bodyPost_ret (v := .agg (cellsOf .u64 (chiL l))) (results_cell_row rfl _ _ _ _ _ _ _ rfl (Mem.put M2.out (chiL l)) Try.underlying72 rfl (by rw [cellsOf_size, chiL_length]; exact info_st)) rfl ⟨rfl, below_setRow HB.out (by omega) _⟩
    | succ k1 =>
      have hlt : j < 25 := by omega
      have HJ := Aside0.mk hj
      clear hj
      obtain ⟨r0, hr0⟩ : ∃ r0 : Nat, r0 = j - j % 5 := ⟨_, rfl⟩
      obtain ⟨r5, hr5⟩ : ∃ r5 : Nat, r5 = j / 5 := ⟨_, rfl⟩
      obtain ⟨q1, hq1⟩ : ∃ q : Nat, q = (j + 1) % 5 := ⟨_, rfl⟩
      obtain ⟨q2, hq2⟩ : ∃ q : Nat, q = (j + 2) % 5 := ⟨_, rfl⟩
      obtain ⟨p1, hp1⟩ : ∃ q : Nat, q = j + 1 := ⟨_, rfl⟩
      obtain ⟨p2, hp2⟩ : ∃ q : Nat, q = j + 2 := ⟨_, rfl⟩
      obtain ⟨A, hA⟩ : ∃ q : Nat, q = r0 + q2 := ⟨_, rfl⟩
      obtain ⟨B, hB⟩ : ∃ q : Nat, q = r0 + q1 := ⟨_, rfl⟩
      have e0 : (j : Int) / 5 * 5 = (r0 : Int) := by omega
      have lA : A < 25 := by omega
      have lB : B < 25 := by omega
      have gA : (A : Int) < 25 := by omega
      have gB : (B : Int) < 25 := by omega
      have hx := M1.out.cell j (by rw [HL.out]; exact hlt)
      have hcA := M1.out.cell A (by rw [HL.out]; exact lA)
      have hcB := M1.out.cell B (by rw [HL.out]; exact lB)
      have hf := M3.out.free j
      have hx3 := M3.out.cell j (by rw [fillTo_length _ _ (by rw [chiL_length, zst_length]), zst_length]; exact hlt)
      have hval : (chiL l).getD j 0 = Go.bits .xor .u64 (Go.bits .xor .u64 (l.getD j 0) (l.getD A 0)) (Go.bits .and .u64 (l.getD A 0) (l.getD B 0)) := by
        rw [chi_alt _ _ _ (words_getD hw _) (words_getD hw _) (words_getD hw _)]
        unfold chiL; rw [byI_get _ _ _ hlt, hA, hB, hr0, hq1, hq2]; rfl
      have hset := fillTo_set (chiL l) zst (by rw [chiL_length, zst_length]) j (by rw [zst_length]; omega) _ hval
      have HV := Aside0.mk hset
      clear hval hset
      have f1 : IntKind.i64.wrap ((j : Int) + 2) = (p2 : Int) := by rw [IntKind.wrap_i64]; omega
      have f2 : Int.tmod (p2 : Int) 5 = (q2 : Int) := by rw [Int.tmod_eq_emod_of_nonneg (by omega)]; omega
      have f3 : IntKind.i64.wrap ((r0 : Int) + (q2 : Int)) = (A : Int) := by rw [IntKind.wrap_i64]; omega
      have f4 : IntKind.i64.wrap ((j : Int) + 1) = (p1 : Int) := by rw [IntKind.wrap_i64]; omega
      have f5 : Int.tmod (p1 : Int) 5 = (q1 : Int) := by rw [Int.tmod_eq_emod_of_nonneg (by omega)]; omega
      have f6 : IntKind.i64.wrap ((r0 : Int) + (q1 : Int)) = (B : Int) := by rw [IntKind.wrap_i64]; omega
      clear hr0 hr5 hq1 hq2 hp1 hp2 hA hB
      generalize l.getD j 0 = x at *
      generalize l.getD A 0 = y at *
      generalize l.getD B 0 = z at *
      go_wp2
      clear e0
      refine start_ (n := 30) (S := fun w' => w'.cell? ⟨w.heap.size, j, none⟩ = some (.int .u64 x) ∧ w'.cell? ⟨w.heap.size, A, none⟩ = some (.int .u64 y) ∧ w'.cell? ⟨w.heap.size, B, none⟩ = some (.int .u64 z)) (ds := [29]) #[false, false, false, false, false, false, false, false, false, false, false, false, false, false, false, false, false, false, false, false, false, false, false, false, false, false, false, false, false, false] (by kernel_rfl) rfl rfl ⟨hx, hcA, hcB⟩ (fun hHeld => ?_)
      refine pure_ (i := 0) (N := some 14) (v := ?_) (a' := ?_) #[true, false, false, false, false, false, false, false, false, false, false, false, false, false, false, false, false, false, false, false, false, false, false, false, false, false, false, false, false, false] rfl rfl (by kernel_rfl) (fun _ _ _ h => h) (Or.inl ⟨by rfl, ?_⟩) ?_ ?_
      rotate_left
      · intro w'
        go_simp
        with_reducible rfl
      rotate_left
      · simp only [Act.put, List.setIfInBounds_toArray, List.set_cons_zero, List.set_cons_succ, i64_w, i32_w]
        rfl
      refine pure_ (i := 1) (N := some 15) (v := ?_) (a' := ?_) #[true, true, false, false, false, false, false, false, false, false, false, false, false, false, false, false, false, false, false, false, false, false, false, false, false, false, false, false, false, false] rfl rfl (by kernel_rfl) (fun _ _ _ h => h) (Or.inl ⟨by rfl, ?_⟩) ?_ ?_
      rotate_left
      · intro w'
        go_simp
        with_reducible rfl
      rotate_left
      · simp only [Act.put, List.setIfInBounds_toArray, List.set_cons_zero, List.set_cons_succ, i64_w, i32_w]
        rfl
      refine pure_ (i := 2) (N := some 16) (v := ?_) (a' := ?_) #[true, true, true, false, false, false, false, false, false, false, false, false, false, false, false, false, false, false, false, false, false, false, false, false, false, false, false, false, false, false] rfl rfl (by kernel_rfl) (fun _ _ _ h => h) (Or.inl ⟨by rfl, ?_⟩) ?_ ?_
      rotate_left
      · intro w'
        go_simp
        with_reducible rfl
      rotate_left
      · simp only [Act.put, List.setIfInBounds_toArray, List.set_cons_zero, List.set_cons_succ, i64_w, i32_w]
        rfl
      refine pure_ (i := 4) (N := some 18) (v := ?_) (a' := ?_) #[true, true, true, false, true, false, false, false, false, false, false, false, false, false, false, false, false, false, false, false, false, false, false, false, false, false, false, false, false, false] rfl rfl (by kernel_rfl) (fun _ _ _ h => h) (Or.inl ⟨by rfl, ?_⟩) ?_ ?_
      rotate_left
      · intro w'
        go_simp
        with_reducible rfl
      rotate_left
      · simp only [Act.put, List.setIfInBounds_toArray, List.set_cons_zero, List.set_cons_succ, i64_w, i32_w]
        rfl
      refine pure_ (i := 5) (N := some 19) (v := ?_) (a' := ?_) #[true, true, true, false, true, true, false, false, false, false, false, false, false, false, false, false, false, false, false, false, false, false, false, false, false, false, false, false, false, false] rfl rfl (by kernel_rfl) (fun _ _ _ h => h) (Or.inl ⟨by rfl, ?_⟩) ?_ ?_
      rotate_left
      · intro w'
        go_simp
        with_reducible rfl
      rotate_left
      · simp only [Act.put, List.setIfInBounds_toArray, List.set_cons_zero, List.set_cons_succ, i64_w, i32_w]
        rfl
      refine pure_ (i := 6) (N := some 20) (v := ?_) (a' := ?_) #[true, true, true, false, true, true, true, false, false, false, false, false, false, false, false, false, false, false, false, false, false, false, false, false, false, false, false, false, false, false] rfl rfl (by kernel_rfl) (fun _ _ _ h => h) (Or.inl ⟨by rfl, ?_⟩) ?_ ?_
      rotate_left
      · intro w'
        go_simp
        with_reducible rfl
      rotate_left
      · simp only [Act.put, List.setIfInBounds_toArray, List.set_cons_zero, List.set_cons_succ, i64_w, i32_w]
        rfl
      refine pure_ (i := 7) (N := some 21) (v := ?_) (a' := ?_) #[true, true, true, false, true, true, true, true, false, false, false, false, false, false, false, false, false, false, false, false, false, false, false, false, false, false, false, false, false, false] rfl rfl (by kernel_rfl) (fun _ _ _ h => h) (Or.inl ⟨by rfl, ?_⟩) ?_ ?_
      rotate_left
      · intro w'
        go_simp
        with_reducible rfl
      rotate_left
      · simp only [Act.put, List.setIfInBounds_toArray, List.set_cons_zero, List.set_cons_succ, i64_w, i32_w]
        rfl
      refine pure_ (i := 8) (N := some 22) (v := ?_) (a' := ?_) #[true, true, true, false, true, true, true, true, true, false, false, false, false, false, false, false, false, false, false, false, false, false, false, false, false, false, false, false, false, false] rfl rfl (by kernel_rfl) (fun _ _ _ h => h) (Or.inl ⟨by rfl, ?_⟩) ?_ ?_
      rotate_left
      · intro w'
        go_simp
        with_reducible rfl
      rotate_left
      · simp only [Act.put, List.setIfInBounds_toArray, List.set_cons_zero, List.set_cons_succ, i64_w, i32_w]
        rfl
      refine pure_ (i := 9) (N := some 23) (v := ?_) (a' := ?_) #[true, true, true, false, true, true, true, true, true, true, false, false, false, false, false, false, false, false, false, false, false, false, false, false, false, false, false, false, false, false] rfl rfl (by kernel_rfl) (fun _ _ _ h => h) (Or.inl ⟨by rfl, ?_⟩) ?_ ?_
      rotate_left
      · intro w'
        go_simp
        with_reducible rfl
      rotate_left
      · simp only [Act.put, List.setIfInBounds_toArray, List.set_cons_zero, List.set_cons_succ, i64_w, i32_w]
        rfl
      refine pure_ (i := 12) (N := some 26) (v := ?_) (a' := ?_) #[true, true, true, false, true, true, true, true, true, true, false, false, true, false, false, false, false, false, false, false, false, false, false, false, false, false, false, false, false, false] rfl rfl (by kernel_rfl) (fun _ _ _ h => h) (Or.inl ⟨by rfl, ?_⟩) ?_ ?_
      rotate_left
      · intro w'
        go_simp
        with_reducible rfl
      rotate_left
      · simp only [Act.put, List.setIfInBounds_toArray, List.set_cons_zero, List.set_cons_succ, i64_w, i32_w]
        rfl
      refine pure_ (i := 13) (N := some 27) (v := ?_) (a' := ?_) #[true, true, true, false, true, true, true, true, true, true, false, false, true, true, false, false, false, false, false, false, false, false, false, false, false, false, false, false, false, false] rfl rfl (by kernel_rfl) (fun _ _ _ h => h) (Or.inl ⟨by rfl, ?_⟩) ?_ ?_
      rotate_left
      · intro w'
        go_simp
        with_reducible rfl
      rotate_left
      · simp only [Act.put, List.setIfInBounds_toArray, List.set_cons_zero, List.set_cons_succ, i64_w, i32_w]
        rfl
      refine pure_ (i := 14) (N := some 28) (v := ?_) (a' := ?_) #[true, true, true, false, true, true, true, true, true, true, false, false, true, true, true, false, false, false, false, false, false, false, false, false, false, false, false, false, false, false] rfl rfl (by kernel_rfl) (fun _ _ _ h => h) (Or.inl ⟨by rfl, ?_⟩) ?_ ?_
      rotate_left
      · intro w'
        go_simp
        with_reducible rfl
      rotate_left
      · simp only [Act.put, List.setIfInBounds_toArray, List.set_cons_zero, List.set_cons_succ, i64_w, i32_w]
        rfl
      refine pure_ (i := 15) (N := some 29) (v := ?_) (a' := ?_) #[true, true, true, false, true, true, true, true, true, true, false, false, true, true, true, true, false, false, false, false, false, false, false, false, false, false, false, false, false, false] rfl rfl (by kernel_rfl) (fun _ _ _ h => h) (Or.inl ⟨by rfl, ?_⟩) ?_ ?_
      rotate_left
      · intro w'
        go_simp
        with_reducible rfl
      rotate_left
      · simp only [Act.put, List.setIfInBounds_toArray, List.set_cons_zero, List.set_cons_succ, i64_w, i32_w]
        rfl
      refine pure_ (i := 16) (N := some 30) (v := ?_) (a' := ?_) #[true, true, true, false, true, true, true, true, true, true, false, false, true, true, true, true, true, false, false, false, false, false, false, false, false, false, false, false, false, false] rfl rfl (by kernel_rfl) (fun _ _ _ h => h) (Or.inl ⟨by rfl, ?_⟩) ?_ ?_
      rotate_left
      · intro w'
        go_simp
        with_reducible rfl
      rotate_left
      · simp only [Act.put, List.setIfInBounds_toArray, List.set_cons_zero, List.set_cons_succ, i64_w, i32_w]
        rfl
      refine pure_ (i := 17) (N := some 31) (v := ?_) (a' := ?_) #[true, true, true, false, true, true, true, true, true, true, false, false, true, true, true, true, true, true, false, false, false, false, false, false, false, false, false, false, false, false] rfl rfl (by kernel_rfl) (fun _ _ _ h => h) (Or.inl ⟨by rfl, ?_⟩) ?_ ?_
      rotate_left
      · intro w'
        go_simp
        with_reducible rfl
      rotate_left
      · simp only [Act.put, List.setIfInBounds_toArray, List.set_cons_zero, List.set_cons_succ, i64_w, i32_w]
        rfl
      refine pure_ (i := 19) (N := some 33) (v := ?_) (a' := ?_) #[true, true, true, false, true, true, true, true, true, true, false, false, true, true, true, true, true, true, false, true, false, false, false, false, false, false, false, false, false, false] rfl rfl (by kernel_rfl) (fun _ _ _ h => h) (Or.inl ⟨by rfl, ?_⟩) ?_ ?_
      rotate_left
      · intro w'
        go_simp
        with_reducible rfl
      rotate_left
      · simp only [Act.put, List.setIfInBounds_toArray, List.set_cons_zero, List.set_cons_succ, i64_w, i32_w]
        rfl
      refine pure_ (i := 20) (N := some 34) (v := ?_) (a' := ?_) #[true, true, true, false, true, true, true, true, true, true, false, false, true, true, true, true, true, true, false, true, true, false, false, false, false, false, false, false, false, false] rfl rfl (by kernel_rfl) (fun _ _ _ h => h) (Or.inl ⟨by rfl, ?_⟩) ?_ ?_
      rotate_left
      · intro w'
        go_simp
        with_reducible rfl
      rotate_left
      · simp only [Act.put, List.setIfInBounds_toArray, List.set_cons_zero, List.set_cons_succ, i64_w, i32_w]
        rfl
      refine pure_ (i := 21) (N := some 35) (v := ?_) (a' := ?_) #[true, true, true, false, true, true, true, true, true, true, false, false, true, true, true, true, true, true, false, true, true, true, false, false, false, false, false, false, false, false] rfl rfl (by kernel_rfl) (fun _ _ _ h => h) (Or.inl ⟨by rfl, ?_⟩) ?_ ?_
      rotate_left
      · intro w'
        go_simp
        with_reducible rfl
      rotate_left
      · simp only [Act.put, List.setIfInBounds_toArray, List.set_cons_zero, List.set_cons_succ, i64_w, i32_w]
        rfl
      refine pure_ (i := 22) (N := some 36) (v := ?_) (a' := ?_) #[true, true, true, false, true, true, true, true, true, true, false, false, true, true, true, true, true, true, false, true, true, true, true, false, false, false, false, false, false, false] rfl rfl (by kernel_rfl) (fun _ _ _ h => h) (Or.inl ⟨by rfl, ?_⟩) ?_ ?_
      rotate_left
      · intro w'
        go_simp
        with_reducible rfl
      rotate_left
      · simp only [Act.put, List.setIfInBounds_toArray, List.set_cons_zero, List.set_cons_succ, i64_w, i32_w]
        rfl
      refine pure_ (i := 23) (N := some 37) (v := ?_) (a' := ?_) #[true, true, true, false, true, true, true, true, true, true, false, false, true, true, true, true, true, true, false, true, true, true, true, true, false, false, false, false, false, false] rfl rfl (by kernel_rfl) (fun _ _ _ h => h) (Or.inl ⟨by rfl, ?_⟩) ?_ ?_
      rotate_left
      · intro w'
        go_simp
        with_reducible rfl
      rotate_left
      · simp only [Act.put, List.setIfInBounds_toArray, List.set_cons_zero, List.set_cons_succ, i64_w, i32_w]
        rfl
      refine pure_ (i := 24) (N := some 38) (v := ?_) (a' := ?_) #[true, true, true, false, true, true, true, true, true, true, false, false, true, true, true, true, true, true, false, true, true, true, true, true, true, false, false, false, false, false] rfl rfl (by kernel_rfl) (fun _ _ _ h => h) (Or.inl ⟨by rfl, ?_⟩) ?_ ?_
      rotate_left
      · intro w'
        go_simp
        with_reducible rfl
      rotate_left
      · simp only [Act.put, List.setIfInBounds_toArray, List.set_cons_zero, List.set_cons_succ, i64_w, i32_w]
        rfl
      refine take_ (i := 3) (N := some 17) (v := ?_) (a' := ?_) #[true, true, true, true, true, true, true, true, true, true, false, false, true, true, true, true, true, true, false, true, true, true, true, true, true, false, false, false, false, false] rfl rfl (by kernel_rfl) (fun _ _ _ h => h) (Or.inl ⟨by rfl, ?_⟩) hHeld ?_ ?_
      rotate_left
      · rintro w' ⟨s0, s1, s2⟩
        go_simp
        with_reducible rfl
      rotate_left
      · simp only [Act.put, List.setIfInBounds_toArray, List.set_cons_zero, List.set_cons_succ, i64_w, i32_w]
        rfl
      refine take_ (i := 10) (N := some 24) (v := ?_) (a' := ?_) #[true, true, true, true, true, true, true, true, true, true, true, false, true, true, true, true, true, true, false, true, true, true, true, true, true, false, false, false, false, false] rfl rfl (by kernel_rfl) (fun _ _ _ h => h) (Or.inl ⟨by rfl, ?_⟩) hHeld ?_ ?_
      rotate_left
      · rintro w' ⟨s0, s1, s2⟩
        go_simp
        with_reducible rfl
      rotate_left
      · simp only [Act.put, List.setIfInBounds_toArray, List.set_cons_zero, List.set_cons_succ, i64_w, i32_w]
        rfl
      refine pure_ (i := 11) (N := some 25) (v := ?_) (a' := ?_) #[true, true, true, true, true, true, true, true, true, true, true, true, true, true, true, true, true, true, false, true, true, true, true, true, true, false, false, false, false, false] rfl rfl (by kernel_rfl) (fun _ _ _ h => h) (Or.inl ⟨by rfl, ?_⟩) ?_ ?_
      rotate_left
      · intro w'
        go_simp
        with_reducible rfl
      rotate_left
      · simp only [Act.put, List.setIfInBounds_toArray, List.set_cons_zero, List.set_cons_succ, i64_w, i32_w]
        rfl
      refine take_ (i := 18) (N := some 32) (v := ?_) (a' := ?_) #[true, true, true, true, true, true, true, true, true, true, true, true, true, true, true, true, true, true, true, true, true, true, true, true, true, false, false, false, false, false] rfl rfl (by kernel_rfl) (fun _ _ _ h => h) (Or.inl ⟨by rfl, ?_⟩) hHeld ?_ ?_
      rotate_left
      · rintro w' ⟨s0, s1, s2⟩
        go_simp
        with_reducible rfl
      rotate_left
      · simp only [Act.put, List.setIfInBounds_toArray, List.set_cons_zero, List.set_cons_succ, i64_w, i32_w]
        rfl
      refine take_ (i := 25) (N := some 39) (v := ?_) (a' := ?_) #[true, true, true, true, true, true, true, true, true, true, true, true, true, true, true, true, true, true, true, true, true, true, true, true, true, true, false, false, false, false] rfl rfl (by kernel_rfl) (fun _ _ _ h => h) (Or.inl ⟨by rfl, ?_⟩) hHeld ?_ ?_
      rotate_left
      · rintro w' ⟨s0, s1, s2⟩
        go_simp
        with_reducible rfl
      rotate_left
      · simp only [Act.put, List.setIfInBounds_toArray, List.set_cons_zero, List.set_cons_succ, i64_w, i32_w]
        rfl
      refine pure_ (i := 26) (N := some 40) (v := ?_) (a' := ?_) #[true, true, true, true, true, true, true, true, true, true, true, true, true, true, true, true, true, true, true, true, true, true, true, true, true, true, true, false, false, false] rfl rfl (by kernel_rfl) (fun _ _ _ h => h) (Or.inl ⟨by rfl, ?_⟩) ?_ ?_
      rotate_left
      · intro w'
        go_simp
        with_reducible rfl
      rotate_left
      · simp only [Act.put, List.setIfInBounds_toArray, List.set_cons_zero, List.set_cons_succ, i64_w, i32_w]
        rfl
      refine pure_ (i := 27) (N := some 41) (v := ?_) (a' := ?_) #[true, true, true, true, true, true, true, true, true, true, true, true, true, true, true, true, true, true, true, true, true, true, true, true, true, true, true, true, false, false] rfl rfl (by kernel_rfl) (fun _ _ _ h => h) (Or.inl ⟨by rfl, ?_⟩) ?_ ?_
      rotate_left
      · intro w'
        go_simp
        with_reducible rfl
      rotate_left
      · simp only [Act.put, List.setIfInBounds_toArray, List.set_cons_zero, List.set_cons_succ, i64_w, i32_w]
        rfl
      refine pure_ (i := 28) (N := some 42) (v := ?_) (a' := ?_) #[true, true, true, true, true, true, true, true, true, true, true, true, true, true, true, true, true, true, true, true, true, true, true, true, true, true, true, true, true, false] rfl rfl (by kernel_rfl) (fun _ _ _ h => h) (Or.inl ⟨by rfl, ?_⟩) ?_ ?_
      rotate_left
      · intro w'
        go_simp
        with_reducible rfl
      rotate_left
      · simp only [Act.put, List.setIfInBounds_toArray, List.set_cons_zero, List.set_cons_succ, i64_w, i32_w]
        rfl
      refine last_ (i := 29) (N := none) #[true, true, true, true, true, true, true, true, true, true, true, true, true, true, true, true, true, true, true, true, true, true, true, true, true, true, true, true, true, true] rfl rfl (by kernel_rfl) (by decide) (fun K hK => ?_)
      refine skip_ (w1 := ?_) (by rfl) rfl ?_ ?_
      rotate_left
      · go_simp
        rfl
      refine hK.out _ _ ?_
      clear hK K
      refine done_ (by kernel_rfl) ?_
      clear f1 f2 f3 f4 f5 f6
      go_wp2
      go_roundg k1
      case measure => omega
      case rel => exact ⟨j + 1, by have := HJ.out; omega, by go_num, ⟨Mem.drew (Mem.other M1.out (g' := w.heap.size + 2) (by omega) _ _)⟩, ⟨Mem.drew (Mem.other M2.out (g' := w.heap.size + 2) (by omega) _ _)⟩, ⟨by rw [← HV.out]; exact Mem.drew (Mem.set M3.out _ _)⟩, ⟨below_drew (below_set HB.out (by omega))⟩⟩
/-- The document's order: k = 5 x + y. -/
def rmoveTo (l : List Int) : Nat → List Int
  | 0 => zst
  | k + 1 => (rmoveTo l k).set (k % 5 + 5 * ((2 * (k / 5) + 3 * (k % 5)) % 5)) (rotI (l.getD (k / 5 + 5 * (k % 5)) 0) (turnN (k / 5) (k % 5)))
theorem rmoveTo_length (l : List Int) : ∀ i, (rmoveTo l i).length = 25
  | 0 => rfl
  | i + 1 => by simp [rmoveTo, rmoveTo_length l i]
theorem len25 (l : List Int) (h : l.length = 25) : ∃ F : Nat → Int, l = byI 25 F := ⟨fun i => l.getD i 0, byI_ext 25 _ l h (fun _ _ => rfl)⟩
def moveG (T : Nat → Nat → Nat) (R : Int → Int → Int) (l : List Int) : Nat → List Int
  | 0 => zst
  | i + 1 => (moveG T R l i).set (dst i) (R (l.getD i 0) (T (i % 5) (i / 5)))
def rmoveG (T : Nat → Nat → Nat) (R : Int → Int → Int) (l : List Int) : Nat → List Int
  | 0 => zst
  | k + 1 => (rmoveG T R l k).set (k % 5 + 5 * ((2 * (k / 5) + 3 * (k % 5)) % 5)) (R (l.getD (k / 5 + 5 * (k % 5)) 0) (T (k / 5) (k % 5)))
theorem moveG_eq (l : List Int) : ∀ i, moveTo l i = moveG (fun a b => turnN a b) (fun x k => rotI x k) l i
  | 0 => rfl
  | i + 1 => by rw [moveTo, moveG, moveG_eq l i]
theorem rmoveG_eq (l : List Int) : ∀ i, rmoveTo l i = rmoveG (fun a b => turnN a b) (fun x k => rotI x k) l i
  | 0 => rfl
  | i + 1 => by rw [rmoveTo, rmoveG, rmoveG_eq l i]
set_option maxRecDepth 100000 in
set_option maxHeartbeats 4000000 in
theorem moves_G (T : Nat → Nat → Nat) (R : Int → Int → Int) (F : Nat → Int) : rmoveG T R (byI 25 F) 25 = moveG T R (byI 25 F) 25 := by
  kernel_rfl
theorem rmove_eq (l : List Int) (h : l.length = 25) : rmoveTo l 25 = moveL l := by
  obtain ⟨F, rfl⟩ := len25 l h
  unfold moveL
  rw [moveG_eq, rmoveG_eq, moves_G]
set_option maxHeartbeats 4000000 in
set_option maxRecDepth 100000 in
theorem rmove_c (l : List Int) (hl : l.length = 25) (hw : Words l) : GivesB 85 #[arrV .u64 l] (arrV .u64 (moveL l)) := by
  rw [← rmove_eq l hl]
  intro w
  rw [arrV_eq]
  rw [arrV_eq]
  have HL := Aside0.mk hl
  have M1 := Aside0.mk (Mem.alloc (Mem.alloc (Mem.new .u64 w 72 l) (.cells (cellsOf .u64 zst) 72)) (.cells (cellsOf .u64 zst) 72))
  have M2 := Aside0.mk (Mem.alloc (Mem.new2 .u64 w (.cells (cellsOf .u64 l) 72) 72 zst) (.cells (cellsOf .u64 zst) 72))
  have M3 := Aside0.mk (Mem.new3 .u64 w (.cells (cellsOf .u64 l) 72) (.cells (cellsOf .u64 zst) 72) 72 zst)
  have HB := Aside0.mk (below_alloc (below_alloc (below_alloc (Below.refl w.heap.size w) (.cells (cellsOf .u64 l) 72)) (.cells (cellsOf .u64 zst) 72)) (.cells (cellsOf .u64 zst) 72))
  obtain ⟨cl, hcl⟩ : ∃ cs, cs = cellsOf .u64 l := ⟨_, rfl⟩
  rw [← hcl] at M1 M2 M3 HB ⊢
  have HCl := Aside0.mk hcl
  clear hl hcl
  go_enter Try.func85, Try.ntmps85
  go_wp2_with (first
    | ((with_reducible refine gate_dst (N := 6) rfl ?_); refine wpList_build_zero rfl 72 rfl (cellsOf .u64 zst) built25 ?_)
    | ((with_reducible refine gate_store (t := 72) (p := 3) rfl ?_); refine Mem.store (l' := zst) M3.out rfl 72 (.tmp 3) (.tmp 6) rfl rfl rfl info_st rfl ?_))
  have N1 := Aside0.mk (Mem.row M1.out (g' := w.heap.size + 2) (by omega) (cellsOf .u64 zst))
  have N2 := Aside0.mk (Mem.row M2.out (g' := w.heap.size + 2) (by omega) (cellsOf .u64 zst))
  have N3 := Aside0.mk (Mem.put M3.out zst)
  have NB := Aside0.mk (below_setRow HB.out (g := w.heap.size + 2) (by omega) (cellsOf .u64 zst))
  clear M1 M2 M3 HB
  go_loopg [4] 5 (fun kq i w' => ∃ j : Nat, j + kq = 5 ∧ i = .int .i64 j ∧ Aside0 (Mem .u64 w' w.heap.size 72 l) ∧ Aside0 (Mem .u64 w' (w.heap.size + 1) 72 zst) ∧ Aside0 (Mem .u64 w' (w.heap.size + 2) 72 (rmoveTo l (5 * j))) ∧ Aside0 (Below w.heap.size w w'))
  case atStart => exact ⟨0, by omega, rfl, N1, N2, N3, NB⟩
  case round =>
    clear N1 N2 N3 NB
    obtain ⟨x, hx5, rfl, M1, M2, M3, HB⟩ := hrel
    cases gk with
    | zero =>
      obtain rfl : x = 5 := by omega
      have M3 : Aside0 (Mem .u64 _ (w.heap.size + 2) 72 (rmoveTo l 25)) := M3
      have HU := Aside0.mk (rmoveTo_length l 25)
      obtain ⟨p, hp⟩ : ∃ z, z = rmoveTo l 25 := ⟨_, rfl⟩
      rw [← hp] at M3 HU
      have HV := Aside0.mk hp
      clear hp hx5
      go_wp2_with (first
        | ((with_reducible refine gate_dst (N := 35) rfl ?_); refine Mem.load M3.out rfl 72 (.tmp 3) rfl rfl Try.underlying72 (by rw [HU.out]; exact info_st) ?_)
        | ((with_reducible refine gate_store (t := 72) (p := 2) rfl ?_); refine Mem.store (l' := p) M2.out rfl 72 (.tmp 2) (.tmp 35) rfl rfl rfl (by rw [HU.out]; exact info_st) (by rw [HU.out, zst_length]) ?_))
      refine bodyPost_ret (v := .agg (cellsOf .u64 (p))) (results_cell_row rfl _ _ _ _ _ _ _ rfl (Mem.put M2.out (p)) Try.underlying72 rfl (by rw [cellsOf_size, HU.out]; exact info_st)) rfl ⟨by rw [HV.out], below_setRow HB.out (by omega) _⟩
    | succ k1 =>
      have hxl : x < 5 := by omega
      have HX := Aside0.mk hx5
      clear hx5
      go_wp2
      go_loopg [5] 5 (fun kq i w' => ∃ j : Nat, j + kq = 5 ∧ i = .int .i64 j ∧ Aside0 (Mem .u64 w' w.heap.size 72 l) ∧ Aside0 (Mem .u64 w' (w.heap.size + 1) 72 zst) ∧ Aside0 (Mem .u64 w' (w.heap.size + 2) 72 (rmoveTo l (5 * x + j))) ∧ Aside0 (Below w.heap.size w w'))
      case atStart => exact ⟨0, by omega, rfl, M1, M2, M3, HB⟩
      case round =>
        clear M1 M2 M3 HB
        obtain ⟨y, hy5, rfl, M1, M2, M3, HB⟩ := hrel
        cases gk with
        | zero =>
          obtain rfl : y = 5 := by omega
          go_wp2
          go_roundg k1
          case measure => omega
          case rel => exact ⟨x + 1, by have := HX.out; omega, by go_num, M1, M2, ⟨by rw [show 5 * (x + 1) = 5 * x + 5 from by omega]; exact M3.out⟩, HB⟩
        | succ k2 =>
          have hyl : y < 5 := by omega
          have HY := Aside0.mk hy5
          clear hy5
          have hv : rmoveTo l (5 * x + (y + 1)) = (rmoveTo l (5 * x + y)).set (y + 5 * ((2 * x + 3 * y) % 5)) (rotI (l.getD (x + 5 * y) 0) (turnN x y)) := by
            show (rmoveTo l (5 * x + y)).set ((5 * x + y) % 5 + 5 * ((2 * ((5 * x + y) / 5) + 3 * ((5 * x + y) % 5)) % 5)) (rotI (l.getD ((5 * x + y) / 5 + 5 * ((5 * x + y) % 5)) 0) (turnN ((5 * x + y) / 5) ((5 * x + y) % 5))) = _
            rw [show (5 * x + y) / 5 = x by omega, show (5 * x + y) % 5 = y by omega]
          have HV := Aside0.mk hv
          obtain ⟨x2, hx2⟩ : ∃ q : Nat, q = 2 * x := ⟨_, rfl⟩
          obtain ⟨y3, hy3⟩ : ∃ q : Nat, q = 3 * y := ⟨_, rfl⟩
          obtain ⟨s, hs⟩ : ∃ q : Nat, q = x2 + y3 := ⟨_, rfl⟩
          obtain ⟨t, ht⟩ : ∃ q : Nat, q = s % 5 := ⟨_, rfl⟩
          obtain ⟨t5, ht5⟩ : ∃ q : Nat, q = 5 * t := ⟨_, rfl⟩
          obtain ⟨d, hd⟩ : ∃ q : Nat, q = y + t5 := ⟨_, rfl⟩
          obtain ⟨y5, hy5⟩ : ∃ q : Nat, q = 5 * y := ⟨_, rfl⟩
          obtain ⟨c, hc⟩ : ∃ q : Nat, q = x + y5 := ⟨_, rfl⟩
          have hd' : y + 5 * ((2 * x + 3 * y) % 5) = d := by rw [hd, ht5, ht, hs, hx2, hy3]
          have hc' : x + 5 * y = c := by rw [hc, hy5]
          rw [hd', hc'] at HV
          clear hd' hc' hv
          have f1 : IntKind.i64.wrap (2 * (x : Int)) = (x2 : Int) := by rw [IntKind.wrap_i64]; omega
          have f2 : IntKind.i64.wrap (3 * (y : Int)) = (y3 : Int) := by rw [IntKind.wrap_i64]; omega
          have f3 : IntKind.i64.wrap ((x2 : Int) + (y3 : Int)) = (s : Int) := by rw [IntKind.wrap_i64]; omega
          have f4 : Int.tmod (s : Int) 5 = (t : Int) := by rw [Int.tmod_eq_emod_of_nonneg (by omega)]; omega
          have f5 : IntKind.i64.wrap (5 * (t : Int)) = (t5 : Int) := by rw [IntKind.wrap_i64]; omega
          have f6 : IntKind.i64.wrap ((y : Int) + (t5 : Int)) = (d : Int) := by rw [IntKind.wrap_i64]; omega
          have f7 : IntKind.i64.wrap (5 * (y : Int)) = (y5 : Int) := by rw [IntKind.wrap_i64]; omega
          have f8 : IntKind.i64.wrap ((x : Int) + (y5 : Int)) = (c : Int) := by rw [IntKind.wrap_i64]; omega
          have ld : d < 25 := by omega
          have lc : c < 25 := by omega
          have gd : (d : Int) < 25 := by omega
          have gc : (c : Int) < 25 := by omega
          clear hx2 hy3 hs ht ht5 hd hy5 hc
          have hx := M1.out.cell c (by rw [HL.out]; exact lc)
          have hf := M3.out.free d
          have hx3 := M3.out.cell d (by rw [rmoveTo_length]; exact ld)
          have C2 := Aside0.mk (rturn_c x y hxl hyl)
          have C3 := Aside0.mk (rrot_c (l.getD c 0) (turnN x y) (words_getD hw c))
          generalize rotI (l.getD c 0) (turnN x y) = R at *
          generalize l.getD c 0 = z at *
          generalize turnN x y = tn at *
          go_wp2
          refine start_ (n := 21) (S := fun w' => w'.cell? ⟨w.heap.size, c, none⟩ = some (.int .u64 z)) (ds := [20]) #[false, false, false, false, false, false, false, false, false, false, false, false, false, false, false, false, false, false, false, false, false] (by kernel_rfl) rfl rfl (hx) (fun hHeld => ?_)
          refine pure_ (i := 0) (N := some 15) (v := ?_) (a' := ?_) #[true, false, false, false, false, false, false, false, false, false, false, false, false, false, false, false, false, false, false, false, false] rfl rfl (by kernel_rfl) (fun _ _ _ h => h) (Or.inl ⟨by rfl, ?_⟩) ?_ ?_
          rotate_left
          · intro w'
            go_simp
            with_reducible rfl
          rotate_left
          · simp only [Act.put, List.setIfInBounds_toArray, List.set_cons_zero, List.set_cons_succ, i64_w, i32_w]
            rfl
          refine pure_ (i := 1) (N := some 16) (v := ?_) (a' := ?_) #[true, true, false, false, false, false, false, false, false, false, false, false, false, false, false, false, false, false, false, false, false] rfl rfl (by kernel_rfl) (fun _ _ _ h => h) (Or.inl ⟨by rfl, ?_⟩) ?_ ?_
          rotate_left
          · intro w'
            go_simp
            with_reducible rfl
          rotate_left
          · simp only [Act.put, List.setIfInBounds_toArray, List.set_cons_zero, List.set_cons_succ, i64_w, i32_w]
            rfl
          refine pure_ (i := 2) (N := some 17) (v := ?_) (a' := ?_) #[true, true, true, false, false, false, false, false, false, false, false, false, false, false, false, false, false, false, false, false, false] rfl rfl (by kernel_rfl) (fun _ _ _ h => h) (Or.inl ⟨by rfl, ?_⟩) ?_ ?_
          rotate_left
          · intro w'
            go_simp
            with_reducible rfl
          rotate_left
          · simp only [Act.put, List.setIfInBounds_toArray, List.set_cons_zero, List.set_cons_succ, i64_w, i32_w]
            rfl
          refine pure_ (i := 3) (N := some 18) (v := ?_) (a' := ?_) #[true, true, true, true, false, false, false, false, false, false, false, false, false, false, false, false, false, false, false, false, false] rfl rfl (by kernel_rfl) (fun _ _ _ h => h) (Or.inl ⟨by rfl, ?_⟩) ?_ ?_
          rotate_left
          · intro w'
            go_simp
            with_reducible rfl
          rotate_left
          · simp only [Act.put, List.setIfInBounds_toArray, List.set_cons_zero, List.set_cons_succ, i64_w, i32_w]
            rfl
          refine pure_ (i := 4) (N := some 19) (v := ?_) (a' := ?_) #[true, true, true, true, true, false, false, false, false, false, false, false, false, false, false, false, false, false, false, false, false] rfl rfl (by kernel_rfl) (fun _ _ _ h => h) (Or.inl ⟨by rfl, ?_⟩) ?_ ?_
          rotate_left
          · intro w'
            go_simp
            with_reducible rfl
          rotate_left
          · simp only [Act.put, List.setIfInBounds_toArray, List.set_cons_zero, List.set_cons_succ, i64_w, i32_w]
            rfl
          refine pure_ (i := 5) (N := some 20) (v := ?_) (a' := ?_) #[true, true, true, true, true, true, false, false, false, false, false, false, false, false, false, false, false, false, false, false, false] rfl rfl (by kernel_rfl) (fun _ _ _ h => h) (Or.inl ⟨by rfl, ?_⟩) ?_ ?_
          rotate_left
          · intro w'
            go_simp
            with_reducible rfl
          rotate_left
          · simp only [Act.put, List.setIfInBounds_toArray, List.set_cons_zero, List.set_cons_succ, i64_w, i32_w]
            rfl
          refine pure_ (i := 6) (N := some 21) (v := ?_) (a' := ?_) #[true, true, true, true, true, true, true, false, false, false, false, false, false, false, false, false, false, false, false, false, false] rfl rfl (by kernel_rfl) (fun _ _ _ h => h) (Or.inl ⟨by rfl, ?_⟩) ?_ ?_
          rotate_left
          · intro w'
            go_simp
            with_reducible rfl
          rotate_left
          · simp only [Act.put, List.setIfInBounds_toArray, List.set_cons_zero, List.set_cons_succ, i64_w, i32_w]
            rfl
          refine pure_ (i := 7) (N := some 22) (v := ?_) (a' := ?_) #[true, true, true, true, true, true, true, true, false, false, false, false, false, false, false, false, false, false, false, false, false] rfl rfl (by kernel_rfl) (fun _ _ _ h => h) (Or.inl ⟨by rfl, ?_⟩) ?_ ?_
          rotate_left
          · intro w'
            go_simp
            with_reducible rfl
          rotate_left
          · simp only [Act.put, List.setIfInBounds_toArray, List.set_cons_zero, List.set_cons_succ, i64_w, i32_w]
            rfl
          refine pure_ (i := 8) (N := some 23) (v := ?_) (a' := ?_) #[true, true, true, true, true, true, true, true, true, false, false, false, false, false, false, false, false, false, false, false, false] rfl rfl (by kernel_rfl) (fun _ _ _ h => h) (Or.inl ⟨by rfl, ?_⟩) ?_ ?_
          rotate_left
          · intro w'
            go_simp
            with_reducible rfl
          rotate_left
          · simp only [Act.put, List.setIfInBounds_toArray, List.set_cons_zero, List.set_cons_succ, i64_w, i32_w]
            rfl
          refine pure_ (i := 9) (N := some 24) (v := ?_) (a' := ?_) #[true, true, true, true, true, true, true, true, true, true, false, false, false, false, false, false, false, false, false, false, false] rfl rfl (by kernel_rfl) (fun _ _ _ h => h) (Or.inl ⟨by rfl, ?_⟩) ?_ ?_
          rotate_left
          · intro w'
            go_simp
            with_reducible rfl
          rotate_left
          · simp only [Act.put, List.setIfInBounds_toArray, List.set_cons_zero, List.set_cons_succ, i64_w, i32_w]
            rfl
          refine pure_ (i := 10) (N := some 25) (v := ?_) (a' := ?_) #[true, true, true, true, true, true, true, true, true, true, true, false, false, false, false, false, false, false, false, false, false] rfl rfl (by kernel_rfl) (fun _ _ _ h => h) (Or.inl ⟨by rfl, ?_⟩) ?_ ?_
          rotate_left
          · intro w'
            go_simp
            with_reducible rfl
          rotate_left
          · simp only [Act.put, List.setIfInBounds_toArray, List.set_cons_zero, List.set_cons_succ, i64_w, i32_w]
            rfl
          refine pure_ (i := 11) (N := some 26) (v := ?_) (a' := ?_) #[true, true, true, true, true, true, true, true, true, true, true, true, false, false, false, false, false, false, false, false, false] rfl rfl (by kernel_rfl) (fun _ _ _ h => h) (Or.inl ⟨by rfl, ?_⟩) ?_ ?_
          rotate_left
          · intro w'
            go_simp
            with_reducible rfl
          rotate_left
          · simp only [Act.put, List.setIfInBounds_toArray, List.set_cons_zero, List.set_cons_succ, i64_w, i32_w]
            rfl
          refine pure_ (i := 12) (N := some 27) (v := ?_) (a' := ?_) #[true, true, true, true, true, true, true, true, true, true, true, true, true, false, false, false, false, false, false, false, false] rfl rfl (by kernel_rfl) (fun _ _ _ h => h) (Or.inl ⟨by rfl, ?_⟩) ?_ ?_
          rotate_left
          · intro w'
            go_simp
            with_reducible rfl
          rotate_left
          · simp only [Act.put, List.setIfInBounds_toArray, List.set_cons_zero, List.set_cons_succ, i64_w, i32_w]
            rfl
          refine pure_ (i := 13) (N := some 28) (v := ?_) (a' := ?_) #[true, true, true, true, true, true, true, true, true, true, true, true, true, true, false, false, false, false, false, false, false] rfl rfl (by kernel_rfl) (fun _ _ _ h => h) (Or.inl ⟨by rfl, ?_⟩) ?_ ?_
          rotate_left
          · intro w'
            go_simp
            with_reducible rfl
          rotate_left
          · simp only [Act.put, List.setIfInBounds_toArray, List.set_cons_zero, List.set_cons_succ, i64_w, i32_w]
            rfl
          refine pure_ (i := 15) (N := some 30) (v := ?_) (a' := ?_) #[true, true, true, true, true, true, true, true, true, true, true, true, true, true, false, true, false, false, false, false, false] rfl rfl (by kernel_rfl) (fun _ _ _ h => h) (Or.inl ⟨by rfl, ?_⟩) ?_ ?_
          rotate_left
          · intro w'
            go_simp
            with_reducible rfl
          rotate_left
          · simp only [Act.put, List.setIfInBounds_toArray, List.set_cons_zero, List.set_cons_succ, i64_w, i32_w]
            rfl
          refine pure_ (i := 16) (N := some 31) (v := ?_) (a' := ?_) #[true, true, true, true, true, true, true, true, true, true, true, true, true, true, false, true, true, false, false, false, false] rfl rfl (by kernel_rfl) (fun _ _ _ h => h) (Or.inl ⟨by rfl, ?_⟩) ?_ ?_
          rotate_left
          · intro w'
            go_simp
            with_reducible rfl
          rotate_left
          · simp only [Act.put, List.setIfInBounds_toArray, List.set_cons_zero, List.set_cons_succ, i64_w, i32_w]
            rfl
          refine take_ (i := 14) (N := some 29) (v := ?_) (a' := ?_) #[true, true, true, true, true, true, true, true, true, true, true, true, true, true, true, true, true, false, false, false, false] rfl rfl (by kernel_rfl) (fun _ _ _ h => h) (Or.inl ⟨by rfl, ?_⟩) hHeld ?_ ?_
          rotate_left
          · intro w' s0
            go_simp
            with_reducible rfl
          rotate_left
          · simp only [Act.put, List.setIfInBounds_toArray, List.set_cons_zero, List.set_cons_succ, i64_w, i32_w]
            rfl
          refine one_ (i := 17) (N := some 32) #[true, true, true, true, true, true, true, true, true, true, true, true, true, true, true, true, true, true, false, false, false] rfl rfl (by kernel_rfl) (by decide) (fun K hK => ?_)
          refine goes_ Try.func124 (by kernel_rfl) rfl #[.int .i64 x, .int .i64 y] (by rfl) rfl rfl (by simp only [List.map_toArray, List.map_cons, List.map_nil]; rfl) ?_
          with_reducible refine (C2.out.q _).mono ?_
          rintro e w3 ⟨rfl, ⟨⟨n2, rfl⟩⟩⟩
          refine ⟨_, rfl, ?_⟩
          refine hK.out _ _ (hHeld) (fun hHeld => ?_)
          clear hK K
          refine norm_ (a' := ?_) ?_ ?_
          rotate_left
          · show Act.put _ (some 32) _ = _
            simp only [Act.put, List.setIfInBounds_toArray, List.set_cons_zero, List.set_cons_succ, i64_w, i32_w]
            rfl
          refine one_ (i := 18) (N := some 33) #[true, true, true, true, true, true, true, true, true, true, true, true, true, true, true, true, true, true, true, false, false] rfl rfl (by kernel_rfl) (by decide) (fun K hK => ?_)
          refine goes_ Try.func123 (by kernel_rfl) rfl #[.int .u64 z, .int .i64 tn] (by rfl) rfl rfl (by simp only [List.map_toArray, List.map_cons, List.map_nil]; rfl) ?_
          with_reducible refine (C3.out.q _).mono ?_
          rintro e w3 ⟨rfl, ⟨⟨n3, rfl⟩⟩⟩
          refine ⟨_, rfl, ?_⟩
          refine hK.out _ _ (hHeld) (fun hHeld => ?_)
          clear hK K
          refine norm_ (a' := ?_) ?_ ?_
          rotate_left
          · show Act.put _ (some 33) _ = _
            simp only [Act.put, List.setIfInBounds_toArray, List.set_cons_zero, List.set_cons_succ, i64_w, i32_w]
            rfl
          refine pure_ (i := 19) (N := some 34) (v := ?_) (a' := ?_) #[true, true, true, true, true, true, true, true, true, true, true, true, true, true, true, true, true, true, true, true, false] rfl rfl (by kernel_rfl) (fun _ _ _ h => h) (Or.inl ⟨by rfl, ?_⟩) ?_ ?_
          rotate_left
          · intro w'
            go_simp
            with_reducible rfl
          rotate_left
          · simp only [Act.put, List.setIfInBounds_toArray, List.set_cons_zero, List.set_cons_succ, i64_w, i32_w]
            rfl
          refine last_ (i := 20) (N := none) #[true, true, true, true, true, true, true, true, true, true, true, true, true, true, true, true, true, true, true, true, true] rfl rfl (by kernel_rfl) (by decide) (fun K hK => ?_)
          refine skip_ (w1 := ?_) (by rfl) rfl ?_ ?_
          rotate_left
          · go_simp
            rfl
          refine hK.out _ _ ?_
          clear hK K
          refine done_ (by kernel_rfl) ?_
          clear f1 f2 f3 f4 f5 f6 f7 f8
          go_wp2
          go_roundg k2
          case measure => omega
          case rel => exact ⟨y + 1, by have := HY.out; omega, by go_num, ⟨Mem.other (Mem.drewN M1.out _) (g' := w.heap.size + 2) (by omega) _ _⟩, ⟨Mem.other (Mem.drewN M2.out _) (g' := w.heap.size + 2) (by omega) _ _⟩, ⟨by rw [HV.out]; exact Mem.set (Mem.drewN M3.out _) _ _⟩, ⟨below_set (pw_below_drewN HB.out _) (by omega)⟩⟩
set_option linter.unusedVariables false
set_option linter.unusedSimpArgs false
set_option maxHeartbeats 4000000 in
set_option maxRecDepth 100000 in
theorem rpermute_c (l : List Int) (hl : l.length = 25) (hw : Words l) : GivesB 61 #[arrV .u64 l] (arrV .u64 (permTo l 24)) := by
  intro w
  rw [arrV_eq]
  rw [arrV_eq]
  have HL := Aside0.mk hl
  have M1 := Aside0.mk (Mem.alloc (Mem.new .u64 w 72 l) (.cells (cellsOf .u64 zst) 72))
  have M2 := Aside0.mk (Mem.new2 .u64 w (.cells (cellsOf .u64 l) 72) 72 zst)
  have HB := Aside0.mk (below_alloc (below_alloc (Below.refl w.heap.size w) (.cells (cellsOf .u64 l) 72)) (.cells (cellsOf .u64 zst) 72))
  obtain ⟨cl, hcl⟩ : ∃ cs, cs = cellsOf .u64 l := ⟨_, rfl⟩
  rw [← hcl] at M1 M2 HB ⊢
  have HCl := Aside0.mk hcl
  clear hl hcl
  go_enter Try.func61, Try.ntmps61
  go_wp2
  go_loopg [3] 24 (fun kq i w' => ∃ j : Nat, j + kq = 24 ∧ i = .int .i64 j ∧ Aside0 (Mem .u64 w' w.heap.size 72 (permTo l j)) ∧ Aside0 (Mem .u64 w' (w.heap.size + 1) 72 zst) ∧ Aside0 (Below w.heap.size w w'))
  case atStart => exact ⟨0, by omega, rfl, M1, M2, HB⟩
  case round =>
    clear M1 M2 HB
    obtain ⟨j, hj, rfl, M1, M2, HB⟩ := hrel
    cases gk with
    | zero =>
      obtain rfl : j = 24 := by omega
      have HP := Aside0.mk (permTo_length l HL.out 24)
      obtain ⟨p, hp⟩ : ∃ z, z = permTo l 24 := ⟨_, rfl⟩
      rw [← hp] at M1 HP
      have HV := Aside0.mk hp
      clear hp hj
      go_wp2_with (first
        | ((with_reducible refine gate_dst (N := 18) rfl ?_); refine Mem.load M1.out rfl 72 (.tmp 1) rfl rfl Try.underlying72 (by rw [HP.out]; exact info_st) ?_)
        | ((with_reducible refine gate_store (t := 72) (p := 2) rfl ?_); refine Mem.store (l' := p) M2.out rfl 72 (.tmp 2) (.tmp 18) rfl rfl rfl (by rw [HP.out]; exact info_st) (by rw [HP.out, zst_length]) ?_))
      refine bodyPost_ret (v := .agg (cellsOf .u64 (p))) (results_cell_row rfl _ _ _ _ _ _ _ rfl (Mem.put M2.out (p)) Try.underlying72 rfl (by rw [cellsOf_size, HP.out]; exact info_st)) rfl ⟨by rw [HV.out], below_setRow HB.out (by omega) _⟩
    | succ k1 =>
      have hlt : j < 24 := by omega
      have HJ := Aside0.mk hj
      clear hj
      have hP := permTo_length l HL.out j
      have hW := permTo_words l hw j (by omega)
      have C4 := Aside0.mk (rmark_c j hlt)
      have HV := Aside0.mk (show permTo l (j + 1) = (mixL (permTo l j)).set 0 (Go.bits .xor .u64 ((mixL (permTo l j)).getD 0 0) (markN j)) from rfl)
      obtain ⟨p', hp'⟩ : ∃ z, z = permTo l (j + 1) := ⟨_, rfl⟩
      rw [← hp'] at HV
      have HV' := Aside0.mk hp'
      clear hp'
      generalize permTo l j = p at *
      have C1 := Aside0.mk (cc (rtheta_c p hP hW))
      have C2 := Aside0.mk (cc (rmove_c (thetaL p) (thetaL_length _) (thetaL_words _ hW hP)))
      have C3 := Aside0.mk (cc (rchi_c (moveL (thetaL p)) (moveL_length _) (moveL_words _)))
      rw [show chiL (moveL (thetaL p)) = mixL p from rfl] at C3
      have HM := Aside0.mk (mixL_length p)
      have HP := Aside0.mk hP
      generalize mixL p = m at *
      generalize moveL (thetaL p) = m2 at *
      generalize thetaL p = m1 at *
      generalize hmk : markN j = mk at *
      clear hP hW hmk
      go_wp2_with (first
        | ((with_reducible refine gate_dst (N := 8) rfl ?_); refine Mem.load M1.out rfl 72 (.tmp 1) rfl rfl Try.underlying72 (by rw [HP.out]; exact info_st) ?_)
        | (go_at_call 86; (with_reducible refine (C1.out.q _).mono ?_); rintro e w1 ⟨rfl, hb1⟩; have M1 := Aside0.mk (Mem.below M1.out hb1); have M2 := Aside0.mk (Mem.below M2.out hb1); have HB := Aside0.mk (below_step HB.out hb1))
        | (go_at_call 85; (with_reducible refine (C2.out.q _).mono ?_); rintro e w2 ⟨rfl, hb2⟩; have M1 := Aside0.mk (Mem.below M1.out hb2); have M2 := Aside0.mk (Mem.below M2.out hb2); have HB := Aside0.mk (below_step HB.out hb2))
        | (go_at_call 84; (with_reducible refine (C3.out.q _).mono ?_); rintro e w3 ⟨rfl, hb3⟩; have M1 := Aside0.mk (Mem.below M1.out hb3); have M2 := Aside0.mk (Mem.below M2.out hb3); have HB := Aside0.mk (below_step HB.out hb3))
        | ((with_reducible refine gate_store (t := 72) (p := 1) rfl ?_); refine Mem.store (l' := m) M1.out rfl 72 (.tmp 1) (.tmp 11) rfl rfl rfl (by rw [HM.out]; exact info_st) (by rw [HM.out, HP.out]) ?_))
      have N1 := Aside0.mk (Mem.put M1.out m)
      have N2 := Aside0.mk (Mem.row M2.out (g' := w.heap.size) (by omega) (cellsOf .u64 m))
      have NB := Aside0.mk (below_setRow HB.out (g := w.heap.size) (Nat.le_refl _) (cellsOf .u64 m))
      have hx := N1.out.cell 0 (by rw [HM.out]; decide)
      have hf := N1.out.free 0
      generalize hmx' : m.getD 0 0 = x at *
      have hmx := Aside0.mk hmx'
      clear hmx'
      refine start_ (n := 7) (S := fun w' => w'.cell? ⟨w.heap.size, 0, none⟩ = some (.int .u64 x)) (ds := [6]) #[false, false, false, false, false, false, false] (by kernel_rfl) rfl rfl (hx) (fun hHeld => ?_)
      refine pure_ (i := 0) (N := some 12) (v := ?_) (a' := ?_) #[true, false, false, false, false, false, false] rfl rfl (by kernel_rfl) (fun _ _ _ h => h) (Or.inl ⟨by rfl, ?_⟩) ?_ ?_
      rotate_left
      · intro w'
        go_simp
        with_reducible rfl
      rotate_left
      · simp only [Act.put, List.setIfInBounds_toArray, List.set_cons_zero, List.set_cons_succ, i64_w, i32_w]
        rfl
      refine pure_ (i := 2) (N := some 14) (v := ?_) (a' := ?_) #[true, false, true, false, false, false, false] rfl rfl (by kernel_rfl) (fun _ _ _ h => h) (Or.inl ⟨by rfl, ?_⟩) ?_ ?_
      rotate_left
      · intro w'
        go_simp
        with_reducible rfl
      rotate_left
      · simp only [Act.put, List.setIfInBounds_toArray, List.set_cons_zero, List.set_cons_succ, i64_w, i32_w]
        rfl
      refine take_ (i := 1) (N := some 13) (v := ?_) (a' := ?_) #[true, true, true, false, false, false, false] rfl rfl (by kernel_rfl) (fun _ _ _ h => h) (Or.inl ⟨by rfl, ?_⟩) hHeld ?_ ?_
      rotate_left
      · intro w' s0
        go_simp
        with_reducible rfl
      rotate_left
      · simp only [Act.put, List.setIfInBounds_toArray, List.set_cons_zero, List.set_cons_succ, i64_w, i32_w]
        rfl
      refine one_ (i := 3) (N := some 15) #[true, true, true, true, false, false, false] rfl rfl (by kernel_rfl) (by decide) (fun K hK => ?_)
      refine goes_ Try.func87 (by kernel_rfl) rfl #[.int .i64 j] (by rfl) rfl rfl (by simp only [List.map_toArray, List.map_cons, List.map_nil]; rfl) ?_
      with_reducible refine (C4.out.q _).mono ?_
      rintro e w4 ⟨rfl, hb4⟩
      refine ⟨_, rfl, ?_⟩
      have hx4 := (Mem.below (Mem.drew N1.out) hb4).cell 0 (by rw [HM.out]; decide)
      have hf4 := (Mem.below (Mem.drew N1.out) hb4).free 0
      rw [hmx.out] at hx4
      refine hK.out _ _ (hx4) (fun hHeld => ?_)
      clear hK K
      refine norm_ (a' := ?_) ?_ ?_
      rotate_left
      · show Act.put _ (some 15) _ = _
        simp only [Act.put, List.setIfInBounds_toArray, List.set_cons_zero, List.set_cons_succ, i64_w, i32_w]
        rfl
      refine pure_ (i := 4) (N := some 16) (v := ?_) (a' := ?_) #[true, true, true, true, true, false, false] rfl rfl (by kernel_rfl) (fun _ _ _ h => h) (Or.inl ⟨by rfl, ?_⟩) ?_ ?_
      rotate_left
      · intro w'
        go_simp
        with_reducible rfl
      rotate_left
      · simp only [Act.put, List.setIfInBounds_toArray, List.set_cons_zero, List.set_cons_succ, i64_w, i32_w]
        rfl
      refine pure_ (i := 5) (N := some 17) (v := ?_) (a' := ?_) #[true, true, true, true, true, true, false] rfl rfl (by kernel_rfl) (fun _ _ _ h => h) (Or.inl ⟨by rfl, ?_⟩) ?_ ?_
      rotate_left
      · intro w'
        go_simp
        with_reducible rfl
      rotate_left
      · simp only [Act.put, List.setIfInBounds_toArray, List.set_cons_zero, List.set_cons_succ, i64_w, i32_w]
        rfl
      refine last_ (i := 6) (N := none) #[true, true, true, true, true, true, true] rfl rfl (by kernel_rfl) (by decide) (fun K hK => ?_)
      refine skip_ (w1 := ?_) (by rfl) rfl ?_ ?_
      rotate_left
      · go_simp
        rfl
      refine hK.out _ _ ?_
      clear hK K
      refine done_ (by kernel_rfl) ?_
      go_wp2
      go_roundg k1
      case measure => omega
      case rel => exact ⟨j + 1, by have := HJ.out; omega, by go_num, ⟨by rw [← HV'.out, HV.out]; exact Mem.set (Mem.below (Mem.drew N1.out) hb4) _ _⟩, ⟨Mem.other (Mem.below (Mem.drew N2.out) hb4) (by omega) _ _⟩, ⟨below_set (below_step (below_drew NB.out) hb4) (Nat.le_refl _)⟩⟩
end Go.Proofs.Ythijjpiddelefaa.Keccak
namespace Go.Proofs.Ythijjpiddelefaa.SWord
open Go.RowKit Go.Proofs.Ythijjpiddelefaa.PKec Go.Proofs.YthijjpiddelefaaW.PrintWords Go.Proofs.YthijjpiddelefaaW.PrintLast Go.Proofs.YthijjpiddelefaaW.PrintMore Byte OctMath Store
set_option linter.unusedVariables false
theorem shr_u64 (x : BitVec 64) (m : Nat) (hm : m ≤ 64) : shr .u64 (I64 x) (m : Int) = I64 (x >>> m) := by
  unfold shr I64
  have : min ((m : Int).toNat) IntKind.u64.bits = m := by
    show min ((m : Int).toNat) 64 = m
    omega
  rw [this, BitVec.toNat_ushiftRight, Nat.shiftRight_eq_div_pow, Int.natCast_ediv]
  simp
/-! ### Store -/
def ints (l : List Nat) : List Int := l.map fun x : Nat => (x : Int)
theorem ints_length (l : List Nat) : (ints l).length = l.length := by simp [ints]
theorem stL_dg (x : BitVec 64) (m : Nat) (hm : m ≤ 8) : stL (I64 x) m = ints (dg m x.toNat) := by
  refine List.ext_getElem? fun i => ?_
  rcases Nat.lt_or_ge i m with hi | hi
  · rw [stL_get _ _ _ hi]
    unfold ints
    rw [List.getElem?_map, dg_get m _ i hi, shr_u64 x _ (by omega)]
    unfold I64
    rw [BitVec.toNat_ushiftRight, Nat.shiftRight_eq_div_pow, Nat.pow_mul]
    simp
  · rw [List.getElem?_eq_none (by rw [stL_length]; exact hi), List.getElem?_eq_none (by rw [ints_length, dg_length]; exact hi)]
theorem RStore_l0 (n : Int) : ∀ d k i (y : Nat) (l : List Int), i + d = min n.toNat 8 → l.length = i → y < 18446744073709551616 → d < k → visorref01_Store.l0 k (y : Int) n l (i : Int) = some (l ++ ints (dg d y)) := by
  intro d
  induction d with
  | zero =>
    intro k i y l hi hl hy hk
    obtain ⟨k, rfl⟩ : ∃ m, k = m + 1 := ⟨k - 1, by omega⟩
    simp only [visorref01_Store.l0]
    by_cases h : (i : Int) < n
    · rw [if_pos h, if_neg (by omega)]; simp [dg, ints]
    · rw [if_neg h]; simp [dg, ints]
  | succ d ih =>
    intro k i y l hi hl hy hk
    obtain ⟨k, rfl⟩ : ∃ m, k = m + 1 := ⟨k - 1, by omega⟩
    simp only [visorref01_Store.l0]
    rw [if_pos (by omega), if_pos (by omega), if_pos (by omega)]
    have e1 : IntKind.u64.wrap (Int.tdiv (y : Int) 256) = ((y / 256 : Nat) : Int) := by
      rw [Int.tdiv_eq_ediv_of_nonneg (by omega), wrap_u64]; omega
    have e2 : (Int.tmod (y : Int) 256) % 256 = ((y % 256 : Nat) : Int) := by
      rw [Int.tmod_eq_emod_of_nonneg (by omega)]; omega
    rw [e1, e2, show wrap64 ((i : Int) + 1) = ((i + 1 : Nat) : Int) by unfold wrap64; omega, ih k (i + 1) _ _ (by omega) (by simp; omega) (by omega) (by omega)]
    simp [dg, ints]
theorem RStore_eq (x : BitVec 64) (n : Int) (k : Nat) (hk : 9 ≤ k) : visorref01_Store.f k (I64 x) n = some (ints (dg (min n.toNat 8) x.toNat)) := by
  unfold visorref01_Store.f
  have := RStore_l0 n (min n.toNat 8) k 0 x.toNat [] (by omega) rfl x.isLt (by omega)
  rw [List.nil_append] at this
  exact this
/-- Bytes, as whole numbers. -/
def Bytes (l : List Int) : Prop := ∀ x ∈ l, 0 ≤ x ∧ x < 256
theorem bytes_of {l : List Int} (h : ∀ x ∈ l, (Lit.int .u8 x).wf = true) : Bytes l := fun x hx => wf_u8 (h x hx)
theorem Bytes.rd {l : List Int} (h : Bytes l) (i : Int) : 0 ≤ rd l i ∧ rd l i < 256 := by
  unfold Go.Proofs.YthijjpiddelefaaW.PrintWords.rd
  rw [List.getD_eq_getElem?_getD]
  cases e : l[i.toNat]? with
  | none => simp
  | some x => exact h x (List.mem_of_getElem? e)
theorem Bytes.set {l : List Int} (h : Bytes l) (i : Nat) (x : Int) (h0 : 0 ≤ x) (h1 : x < 256) : Bytes (l.set i x) := by
  intro y hy
  rcases List.mem_or_eq_of_mem_set hy with h' | h'
  · exact h y h'
  · omega

/-! ### Load -/
/-- A byte; 0, if it is not there. -/
def B (l : List Int) (p : Int) : Nat := if 0 ≤ p ∧ p < l.length then (rd l p).toNat else 0
theorem B_lt {l : List Int} (h : Bytes l) (p : Int) : B l p < 256 := by
  unfold B; split
  · have := h.rd p; omega
  · decide
def bs (l : List Int) (at_ : Int) : Nat → Nat → List Nat
  | _, 0 => []
  | i, d + 1 => B l (at_ + i) :: bs l at_ (i + 1) d
theorem bs_length (l : List Int) (at_ : Int) : ∀ d i, (bs l at_ i d).length = d
  | 0, _ => rfl
  | d + 1, i => by simp [bs, bs_length l at_ d]
theorem bs_lt {l : List Int} (h : Bytes l) (at_ : Int) : ∀ d i, ∀ x ∈ bs l at_ i d, x < 256
  | 0, _, x, hx => by simp [bs] at hx
  | d + 1, i, x, hx => by
    simp only [bs, List.mem_cons] at hx
    rcases hx with rfl | hx
    · exact B_lt h _
    · exact bs_lt h at_ d (i + 1) x hx
theorem At_eq {l : List Int} (h : Bytes l) (p : Int) : visorref01_At.f l p = some ((B l p : Nat) : Int) := by
  unfold visorref01_At.f B
  have := h.rd p
  by_cases h0 : p < 0
  · rw [if_pos h0, if_neg (by omega)]; rfl
  · rw [if_neg h0]
    by_cases h1 : p ≥ l.length
    · rw [if_pos h1, if_neg (by omega)]; rfl
    · rw [if_neg h1, if_pos (by omega), if_pos (by omega), if_pos (by omega)]
      congr 1; omega
theorem or_nat (x b i : Nat) (hx : x < 2 ^ i) (hb : 2 ^ i * b < 18446744073709551616) (hi : i < 64) : Go.bits .or .u64 (x : Int) ((2 ^ i * b : Nat) : Int) = ((x + 2 ^ i * b : Nat) : Int) := by
  have hp : 2 ^ i < 2 ^ 64 := Nat.pow_lt_pow_right (by decide) hi
  have hk : ∀ n : Int, 0 ≤ n → n < 2 ^ 64 → IntKind.u64.wrap n = n := fun n h0 h1 => by rw [wrap_u64]; omega
  rw [(bits_nat .u64 64 (by decide) hk x _ (by omega) hb).2, Nat.or_comm, ← Nat.two_pow_add_eq_or_of_lt hx, Nat.add_comm]
theorem Load_l0 {l : List Int} (h : Bytes l) (hl : l.length ≤ 140737488351232) (at_ : Int) (h0 : -9 < at_) (h1 : at_ < l.length) : ∀ (d k i x : Nat), i + d = 8 → x < 2 ^ (8 * i) → d < k →
    octet_Load.l0 k l at_ ((x : Nat) : Int) (i : Int) = some ((x + 2 ^ (8 * i) * num (bs l at_ i d) : Nat) : Int) := by
  intro d
  induction d with
  | zero =>
    intro k i x hi hx hk
    obtain ⟨k, rfl⟩ : ∃ m, k = m + 1 := ⟨k - 1, by omega⟩
    simp only [octet_Load.l0]
    rw [if_neg (by omega)]; simp [bs, num]
  | succ d ih =>
    intro k i x hi hx hk
    obtain ⟨k, rfl⟩ : ∃ m, k = m + 1 := ⟨k - 1, by omega⟩
    simp only [octet_Load.l0, bs, num]
    have ep : wrap64 (at_ + (i : Int)) = at_ + i := by unfold wrap64; omega
    have ei : wrap64 ((i : Int) + 1) = ((i + 1 : Nat) : Int) := by unfold wrap64; omega
    have e8 : wrap64 (8 * (i : Int)) = ((8 * i : Nat) : Int) := by unfold wrap64; omega
    rw [if_pos (by omega), ep, ei, e8]
    have hp : 2 ^ (8 * (i + 1)) = 2 ^ (8 * i) * 256 := by rw [Nat.mul_add, Nat.pow_add]
    have hB := B_lt h (at_ + i)
    have key : ∀ b, b < 256 → x + 2 ^ (8 * i) * b < 2 ^ (8 * (i + 1)) := fun b hb => by
      rw [hp]
      calc x + 2 ^ (8 * i) * b < 2 ^ (8 * i) + 2 ^ (8 * i) * b := by omega
        _ = 2 ^ (8 * i) * (b + 1) := by rw [Nat.mul_succ]; omega
        _ ≤ 2 ^ (8 * i) * 256 := Nat.mul_le_mul_left _ (by omega)
    have fin : ∀ N b : Nat, x + 2 ^ (8 * i) * b + 2 ^ (8 * (i + 1)) * N = x + 2 ^ (8 * i) * (b + 256 * N) := fun N b => by
      rw [hp, Nat.mul_add, Nat.mul_assoc, Nat.add_assoc]
    by_cases c : 0 ≤ at_ + (i : Int) ∧ at_ + (i : Int) < l.length
    · rw [if_pos (show at_ + (i : Int) ≥ 0 by omega), if_pos c.2, if_pos c.1, if_pos (by omega)]
      have hb : (rd l (at_ + i)) = ((B l (at_ + i) : Nat) : Int) := by
        unfold B; rw [if_pos c]; have := h.rd (at_ + i); omega
      have hle : 2 ^ (8 * (i + 1)) ≤ 2 ^ 64 := Nat.pow_le_pow_right (by decide) (by omega)
      have hk1 := key (B l (at_ + i)) hB
      have es : shl .u64 (IntKind.u64.wrap (rd l (at_ + i))) ((8 * i : Nat) : Int) = ((2 ^ (8 * i) * B l (at_ + i) : Nat) : Int) := by
        rw [hb, wrap_u64_nat _ (by omega)]
        unfold shl
        have : min (((8 * i : Nat) : Int).toNat) IntKind.u64.bits = 8 * i := by
          show min (((8 * i : Nat) : Int).toNat) 64 = 8 * i
          omega
        rw [this, show ((B l (at_ + i) : Nat) : Int) * 2 ^ (8 * i) = ((2 ^ (8 * i) * B l (at_ + i) : Nat) : Int) by rw [Nat.mul_comm (2 ^ (8 * i))]; simp]
        exact wrap_u64_nat _ (by omega)
      rw [es, or_nat x (B l (at_ + i)) (8 * i) hx (by omega) (by omega), ih k (i + 1) _ (by omega) hk1 (by omega), fin]
    · have hb : B l (at_ + i) = 0 := by unfold B; rw [if_neg c]
      have hk1 := key 0 (by decide)
      rw [Nat.mul_zero, Nat.add_zero] at hk1
      have f0 := fin (num (bs l at_ (i + 1) d)) 0
      rw [Nat.mul_zero, Nat.add_zero] at f0
      rw [hb, ← f0, ← ih k (i + 1) x (by omega) hk1 (by omega)]
      by_cases c1 : at_ + (i : Int) ≥ 0
      · rw [if_pos c1, if_neg (by omega)]
      · rw [if_neg c1]
theorem RLoad_l0 {l : List Int} (h : Bytes l) (hl : l.length ≤ 140737488351232) (at_ : Int) (h0 : -9 < at_) (h1 : at_ < l.length) : ∀ (d k : Nat), d ≤ 8 → d < k →
    visorref01_Load.l0 k l at_ ((num (bs l at_ d (8 - d)) : Nat) : Int) ((d : Int) - 1) = some ((num (bs l at_ 0 8) : Nat) : Int) := by
  intro d
  induction d with
  | zero =>
    intro k hd hk
    obtain ⟨k, rfl⟩ : ∃ m, k = m + 1 := ⟨k - 1, by omega⟩
    simp only [visorref01_Load.l0]
    rw [if_neg (by omega)]
  | succ d ih =>
    intro k hd hk
    obtain ⟨k, rfl⟩ : ∃ m, k = m + 1 := ⟨k - 1, by omega⟩
    simp only [visorref01_Load.l0]
    have e1 : ((d + 1 : Nat) : Int) - 1 = (d : Int) := by omega
    have ep : wrap64 (at_ + (d : Int)) = at_ + d := by unfold wrap64; omega
    have ei : wrap64 ((d : Int) - 1) = (d : Int) - 1 := by unfold wrap64; omega
    rw [e1, if_pos (by omega), ep, ei, At_eq h]
    simp only [Option.bind_some]
    have hB := B_lt h (at_ + d)
    have e2 : bs l at_ d (8 - d) = B l (at_ + d) :: bs l at_ (d + 1) (8 - (d + 1)) := by
      rw [show 8 - d = (8 - (d + 1)) + 1 by omega]; rfl
    have hn := num_lt _ (bs_lt h at_ (8 - d) d)
    rw [bs_length] at hn
    have hle : 256 ^ (8 - d) ≤ 256 ^ 8 := Nat.pow_le_pow_right (by decide) (by omega)
    have e3 : IntKind.u64.wrap (IntKind.u64.wrap (((num (bs l at_ (d + 1) (8 - (d + 1))) : Nat) : Int) * 256) + IntKind.u64.wrap ((B l (at_ + d) : Nat) : Int)) = ((num (bs l at_ d (8 - d)) : Nat) : Int) := by
      rw [e2] at hn ⊢
      simp only [num] at hn ⊢
      rw [wrap_u64, wrap_u64, wrap_u64]
      omega
    rw [e3]
    exact ih k (by omega) (by omega)
/-- The word that stands somewhere. -/
def loadV (l : List Int) (at_ : Int) : Nat := if at_ ≤ -8 ∨ (l.length : Int) ≤ at_ then 0 else num (bs l at_ 0 8)
theorem Load_eq {l : List Int} (h : Bytes l) (hl : l.length ≤ 140737488351232) (at_ : Int) (k : Nat) (hk : 12 ≤ k) : octet_Load.f k l at_ = some ((loadV l at_ : Nat) : Int) := by
  obtain ⟨k, rfl⟩ : ∃ m, k = m + 1 := ⟨k - 1, by omega⟩
  unfold octet_Load.f loadV
  simp only [octet_Load.j0]
  by_cases c : at_ ≤ -8
  · rw [if_pos c, if_pos trivial, if_pos (Or.inl c)]; rfl
  · rw [if_neg c]
    by_cases c1 : (l.length : Int) ≤ at_
    · rw [if_pos (decide_eq_true (show at_ ≥ l.length by omega)), if_pos (Or.inr c1)]; rfl
    · rw [if_neg (by simp; omega), if_neg (by omega)]
      have := Load_l0 h hl at_ (by omega) (by omega) 8 k 0 0 rfl (by decide) (by omega)
      simpa using this
theorem bs_zero (l : List Int) : ∀ d i, i + d ≤ 8 → num (bs l (-8) i d) = 0
  | 0, _, _ => rfl
  | d + 1, i, h => by
    simp only [bs, num, bs_zero l d (i + 1) (by omega)]
    unfold B; rw [if_neg (by omega)]
theorem RLoad_eq {l : List Int} (h : Bytes l) (hl : l.length ≤ 140737488351232) (at_ : Int) (k : Nat) (hk : 12 ≤ k) : visorref01_Load.f k l at_ = some ((loadV l at_ : Nat) : Int) := by
  obtain ⟨k, rfl⟩ : ∃ m, k = m + 1 := ⟨k - 1, by omega⟩
  unfold visorref01_Load.f loadV
  simp only [visorref01_Load.j0]
  by_cases c : at_ < -8
  · rw [if_pos c, if_pos trivial, if_pos (Or.inl (by omega))]; rfl
  · rw [if_neg c]
    by_cases c1 : (l.length : Int) ≤ at_
    · rw [if_pos (decide_eq_true (show at_ ≥ l.length by omega)), if_pos (Or.inr c1)]; rfl
    · rw [if_neg (by simp; omega)]
      have := RLoad_l0 h hl at_ (by omega) (by omega) 8 k (by omega) (by omega)
      refine this.trans ?_
      by_cases c2 : at_ = -8
      · subst c2; rw [if_pos (Or.inl (by omega)), bs_zero l 8 0 (by decide)]
      · rw [if_neg (by omega)]

end Go.Proofs.Ythijjpiddelefaa.SWord
namespace Go.Proofs.Ythijjpiddelefaa.SpMath
open Go.RowKit Go.Proofs.Ythijjpiddelefaa.PKec Go.Proofs.YthijjpiddelefaaW.PrintWords Go.Proofs.YthijjpiddelefaaW.PrintLast Go.Proofs.YthijjpiddelefaaW.PrintMore Byte OctMath Store SWord Keccak CodeMath Mem RotC KecT
set_option linter.unusedVariables false
/-! ### what is filled in -/
def padZ (x : List Int) (rate : Nat) : List Int := x ++ List.replicate (padN x.length rate) 0
def lastX (x : List Int) : List Int := x.set (x.length - 1) (Go.bits .xor .u8 (x.getD (x.length - 1) 0) 128)
def fillL (m : List Int) (rate : Nat) (mark : Int) : List Int := lastX (padZ (m ++ [mark]) rate)
theorem lastX_length (x : List Int) : (lastX x).length = x.length := by simp [lastX]
theorem xor8_b (x y : Int) (hx : 0 ≤ x ∧ x < 256) (hy : 0 ≤ y ∧ y < 256) : 0 ≤ Go.bits .xor .u8 x y ∧ Go.bits .xor .u8 x y < 256 := by
  obtain ⟨a, rfl⟩ := I8_of x hx.1 hx.2
  obtain ⟨b, rfl⟩ := I8_of y hy.1 hy.2
  rw [xor8]
  exact ⟨I8_lo _, I8_hi _⟩
theorem IsB.set {l : List Int} (h : IsB l) (i : Nat) (x : Int) (hx : 0 ≤ x ∧ x < 256) : IsB (l.set i x) := fun y hy => by
  rcases List.mem_or_eq_of_mem_set hy with h' | h'
  · exact h y h'
  · rw [h']; exact hx
theorem padZ_length (x : List Int) (rate : Nat) : (padZ x rate).length = x.length + padN x.length rate := by simp [padZ]
theorem blocks_eq (n rate : Nat) (h : 0 < rate) : n + 1 + padN (n + 1) rate = (n / rate + 1) * rate := by
  have h1 := padN_mod (n + 1) rate h
  have h2 := padN_lt (n + 1) rate h
  have hd := Nat.div_add_mod n rate
  have hm := Nat.mod_lt n h
  obtain ⟨q, hq⟩ : ∃ q, n + 1 + padN (n + 1) rate = rate * q := ⟨_, (Nat.mul_div_cancel' (Nat.dvd_of_mod_eq_zero h1)).symm⟩
  obtain ⟨d, hd2⟩ : ∃ d, d = n / rate := ⟨_, rfl⟩
  rw [hq, Nat.mul_comm]
  congr 1
  rw [← hd2] at hd ⊢
  have l1 : rate * d < rate * q := by omega
  have l2 : rate * q < rate * (d + 2) := by rw [Nat.mul_add]; omega
  have := Nat.lt_of_mul_lt_mul_left l1
  have := Nat.lt_of_mul_lt_mul_left l2
  omega
theorem fillL_length (m : List Int) (rate : Nat) (mark : Int) (h : 0 < rate) : (fillL m rate mark).length = (m.length / rate + 1) * rate := by
  unfold fillL
  rw [lastX_length, padZ_length, List.length_append, List.length_singleton, blocks_eq _ _ h]
theorem fillL_b (m : List Int) (rate : Nat) (mark : Int) (hm : IsB m) (hk : 0 ≤ mark ∧ mark < 256) : IsB (fillL m rate mark) := by
  have hb : IsB (padZ (m ++ [mark]) rate) := IsB.append (IsB.append hm (IsB.cons hk.1 hk.2 IsB.nil)) (IsB.zeros _)
  exact IsB.set hb _ _ (xor8_b _ _ (IsB.getD hb _) ⟨by decide, by decide⟩)
theorem rfill_l0 (w : Nat) (hw : 0 < w) : ∀ d (x : List Int), padN x.length w = d → 0 < x.length → x.length + d < 140737488355328 → Ev (fun k => visorref15_Fill.l0 k (w : Int) x) (lastX (x ++ List.replicate d 0)) := by
  intro d
  induction d with
  | zero =>
    intro x hd hx hl
    refine Ev.step (f := fun k => some (lastX x)) (fun k => ?_) ⟨0, fun _ _ => by simp⟩
    simp only [visorref15_Fill.l0]
    have h0 : x.length % w = 0 := by
      unfold padN at hd
      have := Nat.mod_lt x.length hw
      split at hd
      · assumption
      · omega
    rw [if_neg (by omega), if_pos (by omega), w64 (by omega) (by omega), if_pos (by omega), if_pos (by omega)]
    unfold lastX rd
    rw [show ((x.length : Int) - 1).toNat = x.length - 1 by omega]
  | succ d ih =>
    intro x hd hx hl
    have hlt := Nat.mod_lt x.length hw
    have h0 : x.length % w ≠ 0 ∧ w - x.length % w = d + 1 := by
      unfold padN at hd
      split at hd
      · omega
      · exact ⟨by assumption, hd⟩
    refine Ev.step (f := fun k => visorref15_Fill.l0 k (w : Int) (x ++ [0])) (fun k => ?_) ?_
    · simp only [visorref15_Fill.l0]
      rw [if_neg (by omega), if_neg (by omega), if_pos (by omega)]
    · have hn : padN (x ++ [0]).length w = d := by
        have e : (x ++ [0]).length = x.length + 1 := by simp
        rw [e]
        unfold padN
        have hdm := Nat.div_add_mod x.length w
        rcases Nat.eq_zero_or_pos d with hz | hz
        · have : (x.length + 1) % w = 0 := by
            have e3 : x.length + 1 = w * (x.length / w + 1) := by rw [Nat.mul_add]; omega
            rw [e3, Nat.mul_mod_right]
          rw [if_pos this]; omega
        · have : (x.length + 1) % w = x.length % w + 1 := by
            have e3 : x.length + 1 = (x.length % w + 1) + w * (x.length / w) := by omega
            rw [e3, Nat.add_mul_mod_self_left, Nat.mod_eq_of_lt (by omega)]
          rw [this, if_neg (by omega)]; omega
      have := ih (x ++ [0]) hn (by simp) (by simp; omega)
      rw [List.append_assoc] at this
      exact this
theorem rfill_ev (m : List Int) (rate : Nat) (mark : Int) (h : 0 < rate) (h2 : rate ≤ 1000) (hm : m.length ≤ 1099511627776) : Ev (fun k => visorref15_Fill.f k m (rate : Int) mark) (fillL m rate mark) := by
  have hp := padN_lt (m ++ [mark]).length rate h
  refine Ev.congr (f := fun k => visorref15_Fill.l0 k (rate : Int) (m ++ [mark])) (fun k => ?_) (rfill_l0 rate h _ _ rfl (by simp) (by rw [List.length_append, List.length_singleton] at hp ⊢; omega))
  unfold visorref15_Fill.f
  simp only [Option.bind_some, List.length_nil, Nat.zero_add, List.nil_append]
  rw [if_pos (by omega), if_pos (by omega)]
/-! ### a state that takes, and tells -/
theorem loadV_word {l : List Int} (h : IsB l) (p : Int) : IsWord ((loadV l p : Nat) : Int) := by
  unfold loadV
  split
  · exact ⟨by decide, by decide⟩
  · have := num_lt (bs l p 0 8) (bs_lt h p 8 0)
    rw [bs_length] at this
    exact ⟨by omega, by omega⟩
/-- The first words of a state, with those that stand at off. -/
def xorTo (a l : List Int) (off : Nat) : Nat → List Int
  | 0 => a
  | k + 1 => (xorTo a l off k).set k (Go.bits .xor .u64 ((xorTo a l off k).getD k 0) ((loadV l ((off + 8 * k : Nat) : Int) : Nat) : Int))
theorem xorTo_length (a l : List Int) (off : Nat) : ∀ k, (xorTo a l off k).length = a.length
  | 0 => rfl
  | k + 1 => by rw [xorTo, List.length_set, xorTo_length]
theorem xorTo_words (a l : List Int) (off : Nat) (ha : Words a) (hl : IsB l) : ∀ k, Words (xorTo a l off k)
  | 0 => ha
  | k + 1 => (xorTo_words a l off ha hl k).set _ _ (xor_word _ _ (words_getD (xorTo_words a l off ha hl k) _) (loadV_word hl _))
def absorb (l : List Int) (rate : Nat) : Nat → List Int
  | 0 => zst
  | j + 1 => permTo (xorTo (absorb l rate j) l (rate * j) (rate / 8)) 24
theorem zst_words : Words zst := fun x hx => by
  have : x = 0 := by
    have h : x ∈ List.replicate 25 (0 : Int) := hx
    exact (List.mem_replicate.1 h).2
  rw [this]; exact ⟨by decide, by decide⟩
theorem absorb_length (l : List Int) (rate : Nat) : ∀ j, (absorb l rate j).length = 25
  | 0 => zst_length
  | j + 1 => by rw [absorb]; exact permTo_length _ (by rw [xorTo_length, absorb_length l rate j]) 24
theorem absorb_words (l : List Int) (rate : Nat) (hl : IsB l) : ∀ j, Words (absorb l rate j)
  | 0 => zst_words
  | j + 1 => permTo_words _ (xorTo_words _ _ _ (absorb_words l rate hl j) hl _) 24 (by decide)
def sq (a : List Int) : Nat → List Int
  | 0 => a
  | j + 1 => permTo (sq a j) 24
theorem sq_length (a : List Int) (h : a.length = 25) : ∀ j, (sq a j).length = 25
  | 0 => h
  | j + 1 => permTo_length _ (sq_length a h j) 24
theorem sq_words (a : List Int) (h : Words a) : ∀ j, Words (sq a j)
  | 0 => h
  | j + 1 => permTo_words _ (sq_words a h j) 24 (by decide)
def told (a : List Int) : Nat → List Int
  | 0 => []
  | k + 1 => told a k ++ stL (a.getD k 0) 8
theorem told_length (a : List Int) : ∀ k, (told a k).length = 8 * k
  | 0 => rfl
  | k + 1 => by rw [told, List.length_append, told_length a k, stL_length]; omega
def outL (a : List Int) (q : Nat) : Nat → List Int
  | 0 => []
  | j + 1 => outL a q j ++ told (sq a j) q
theorem outL_length (a : List Int) (q : Nat) : ∀ j, (outL a q j).length = 8 * q * j
  | 0 => rfl
  | j + 1 => by rw [outL, List.length_append, outL_length a q j, told_length, Nat.mul_add]; omega
theorem outL_take (a : List Int) (q : Nat) (n : Nat) : ∀ i j, n ≤ 8 * q * i → i ≤ j → (outL a q j).take n = (outL a q i).take n := by
  intro i j hi hij
  obtain ⟨d, rfl⟩ : ∃ d, j = i + d := ⟨j - i, by omega⟩
  clear hij
  induction d with
  | zero => rfl
  | succ d ih =>
    rw [← Nat.add_assoc, outL, List.take_append_of_le_length, ih]
    rw [outL_length]
    exact Nat.le_trans hi (Nat.mul_le_mul (Nat.le_refl _) (by omega))
/-- How often is told, for n bytes. -/
def turnsN (n rate : Nat) : Nat := (n + rate - 1) / rate
theorem turns_ge (n rate : Nat) (h : 0 < rate) : n ≤ rate * turnsN n rate := by
  unfold turnsN
  have h1 := Nat.div_add_mod (n + rate - 1) rate
  have h2 := Nat.mod_lt (n + rate - 1) h
  omega
theorem turns_lt (n rate j : Nat) (h : 0 < rate) (hj : j < turnsN n rate) : rate * j < n := by
  unfold turnsN at hj
  have h1 := Nat.div_add_mod (n + rate - 1) rate
  have h3 : rate * (j + 1) ≤ rate * ((n + rate - 1) / rate) := Nat.mul_le_mul (Nat.le_refl _) hj
  rw [Nat.mul_add] at h3
  omega
def sumL (m : List Int) (rate : Nat) (mark : Int) (n : Nat) : List Int := (outL (absorb (fillL m rate mark) rate (m.length / rate + 1)) (rate / 8) (turnsN n rate)).take n
end Go.Proofs.Ythijjpiddelefaa.SpMath
