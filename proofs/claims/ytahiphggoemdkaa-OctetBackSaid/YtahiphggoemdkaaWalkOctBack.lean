/-
  The walk of OctetBack: what is stored is loaded, what is rotated comes back, doubling is linear: for any word, any int, and two rows of 16 bytes.
-/
import Derived.Test.YtahiphggoemdkaaOctEval2
import Derived.Test.YtahiphggoemdkaaSl
import Derived.Test.YtahiphggoemdkaaArr
namespace Go.Proofs.Ytahiphggoemdkaa.OctBack
open Go.RowKit Go.Proofs.Ytahiphggoemdkaa.POct Go.Proofs.YtahiphggoemdkaaW.PrintWords Go.Proofs.YtahiphggoemdkaaW.PrintLast Go.Proofs.YtahiphggoemdkaaW.PrintMore Byte OctMath OctEval Octet Store Sl Arr Gives
/-! ### doubling is linear -/
/-- Bytes as bit vectors. -/
def bl (l : List (BitVec 8)) : List Int := l.map I8
theorem bl_of {l : List Int} (h : Bytes l) : ∃ b : List (BitVec 8), l = bl b := by
  induction l with
  | nil => exact ⟨[], rfl⟩
  | cons x l ih =>
    obtain ⟨b, rfl⟩ := ih (fun y hy => h y (List.mem_cons_of_mem _ hy))
    obtain ⟨a, rfl⟩ := I8_of x (h x (List.mem_cons_self ..)).1 (h x (List.mem_cons_self ..)).2
    exact ⟨a :: b, rfl⟩
theorem bl_length (l : List (BitVec 8)) : (bl l).length = l.length := by simp [bl]
theorem bl_bytes (l : List (BitVec 8)) : Bytes (bl l) := by
  intro x hx
  obtain ⟨a, _, rfl⟩ := List.mem_map.1 hx
  exact ⟨I8_lo a, I8_hi a⟩
theorem xor_bl (a b : List (BitVec 8)) : xorL (bl a) (bl b) = bl (List.zipWith (· ^^^ ·) a b) := by
  unfold xorL bl
  rw [List.map_zipWith, List.zipWith_map]
  congr 1
  funext x y
  exact xor8 x y
theorem bl_getD (l : List (BitVec 8)) (i : Nat) : (bl l).getD i 0 = I8 (l.getD i 0#8) := by
  unfold bl
  rw [List.getD_eq_getElem?_getD, List.getElem?_map, List.getD_eq_getElem?_getD]
  cases l[i]? <;> rfl
/-- A doubled byte, and the byte behind it. -/
def dB (x y : BitVec 8) : BitVec 8 := (x <<< 1) ^^^ (y >>> 7)
theorem dB_eq : ∀ x : BitVec 8, ∀ y : BitVec 1, I8 (x <<< 1) + (y.toNat : Int) = I8 ((x <<< 1) ^^^ y.setWidth 8) := by decide +kernel
theorem top_eq : ∀ y : BitVec 8, y >>> 7 = (BitVec.ofBool y.msb).setWidth 8 ∧ I8 y / 128 = ((BitVec.ofBool y.msb).toNat : Int) := by decide +kernel
theorem dbB_bl (l : List (BitVec 8)) (i : Nat) : dbB (bl l) i = I8 (dB (l.getD i 0#8) (if i < 15 then l.getD (i + 1) 0#8 else 0#8)) := by
  unfold dbB dB
  rw [bl_getD, bl_getD, twice8]
  by_cases h : i < 15
  · rw [if_pos h, if_pos h, (top_eq _).2, dB_eq, (top_eq _).1]
  · rw [if_neg h, if_neg h, Int.add_zero]
    simp
def dBs (l : List (BitVec 8)) (i : Nat) : BitVec 8 := dB (l.getD i 0#8) (if i < 15 then l.getD (i + 1) 0#8 else 0#8) ^^^ (if i = 15 ∧ (l.getD 0 0#8).msb then 135#8 else 0#8)
theorem msb_top (y : BitVec 8) : I8 y / 128 = 1 ↔ y.msb = true := by
  rw [(top_eq y).2]
  cases y.msb <;> simp
theorem dbl_bl (l : List (BitVec 8)) : dbl (bl l) = bl ((List.range 16).map (dBs l)) := by
  refine List.ext_getElem? fun i => ?_
  rcases Nat.lt_or_ge i 16 with hi | hi
  · have hr : (bl ((List.range 16).map (dBs l)))[i]? = some (I8 (dBs l i)) := by simp [bl, hi]
    rw [hr]
    have hd := dbB_bl l i
    unfold dbl dBs
    obtain ⟨X, hX⟩ : ∃ X, X = dB (l.getD i 0#8) (if i < 15 then l.getD (i + 1) 0#8 else 0#8) := ⟨_, rfl⟩
    rw [← hX] at hd ⊢
    clear hX
    rw [bl_getD]
    by_cases hm : (l.getD 0 0#8).msb = true
    · rw [if_pos ((msb_top _).2 hm), List.getElem?_set, dbL_length]
      by_cases h15 : i = 15
      · subst h15
        rw [if_pos rfl, if_pos (by decide), if_pos ⟨rfl, hm⟩, hd, show (135 : Int) = I8 135#8 from rfl, xor8]
      · rw [if_neg (by omega), dbL_get _ _ hi, if_neg (fun h => h15 h.1), BitVec.xor_zero, hd]
    · rw [if_neg (fun h => hm ((msb_top _).1 h)), dbL_get _ _ hi, if_neg (fun h => hm h.2), BitVec.xor_zero, hd]
  · rw [List.getElem?_eq_none (l := bl _) (by simp [bl]; omega), List.getElem?_eq_none]
    unfold dbl
    split <;> simp [dbL_length] <;> omega
theorem zget (a b : List (BitVec 8)) (h : a.length = b.length) (i : Nat) : (List.zipWith (· ^^^ ·) a b).getD i 0#8 = a.getD i 0#8 ^^^ b.getD i 0#8 := by
  simp only [List.getD_eq_getElem?_getD, List.getElem?_zipWith]
  rcases Nat.lt_or_ge i a.length with hi | hi
  · rw [List.getElem?_eq_getElem hi, List.getElem?_eq_getElem (by omega)]; rfl
  · rw [List.getElem?_eq_none hi, List.getElem?_eq_none (by omega)]; rfl
theorem dB_xor (x y x' y' : BitVec 8) : dB (x ^^^ x') (y ^^^ y') = dB x y ^^^ dB x' y' := by
  unfold dB
  rw [BitVec.shiftLeft_xor_distrib, BitVec.ushiftRight_xor_distrib]
  ac_rfl
theorem dbl_xor (a b : List (BitVec 8)) (h : a.length = b.length) : dbl (xorL (bl a) (bl b)) = xorL (dbl (bl a)) (dbl (bl b)) := by
  rw [xor_bl, dbl_bl, dbl_bl, dbl_bl, xor_bl, List.zipWith_map]
  congr 1
  rw [List.zipWith_self]
  refine List.map_congr_left fun i _ => ?_
  unfold dBs
  rw [zget a b h, zget a b h, zget a b h, BitVec.msb_xor]
  have e1 : dB (a.getD i 0#8 ^^^ b.getD i 0#8) (if i < 15 then a.getD (i + 1) 0#8 ^^^ b.getD (i + 1) 0#8 else 0#8) = dB (a.getD i 0#8) (if i < 15 then a.getD (i + 1) 0#8 else 0#8) ^^^ dB (b.getD i 0#8) (if i < 15 then b.getD (i + 1) 0#8 else 0#8) := by
    rw [← dB_xor]
    by_cases hi : i < 15
    · simp only [if_pos hi]
    · simp only [if_neg hi, BitVec.xor_zero]
  rw [e1]
  generalize dB (a.getD i 0#8) _ = p
  generalize dB (b.getD i 0#8) _ = q
  by_cases h15 : i = 15
  · cases (a.getD 0 0#8).msb <;> cases (b.getD 0 0#8).msb <;> simp [h15]
    · ac_rfl
    · ac_rfl
    · rw [BitVec.xor_comm p 135#8, BitVec.xor_comm q 135#8, BitVec.xor_assoc, ← BitVec.xor_assoc p, BitVec.xor_comm p 135#8, BitVec.xor_assoc 135#8 p q, ← BitVec.xor_assoc 135#8 135#8, BitVec.xor_self, BitVec.zero_xor]
  · simp [h15]
theorem xor_back (a b : List (BitVec 8)) (h : a.length = b.length) : xorL (xorL (bl a) (bl b)) (bl b) = bl a := by
  rw [xor_bl, xor_bl]
  congr 1
  refine List.ext_getElem? fun i => ?_
  simp only [List.getElem?_zipWith]
  rcases Nat.lt_or_ge i a.length with hi | hi
  · rw [List.getElem?_eq_getElem hi, List.getElem?_eq_getElem (show i < b.length by omega)]
    simp [BitVec.xor_assoc]
  · rw [List.getElem?_eq_none hi, List.getElem?_eq_none (by omega)]
theorem load_store (x : BitVec 64) : loadV (ints (dg 8 x.toNat)) 0 = x.toNat := by
  unfold loadV
  rw [if_neg (by rw [ints_length, dg_length]; omega)]
  have key : ∀ d i, i + d ≤ 8 → bs (ints (dg 8 x.toNat)) 0 i d = ((dg 8 x.toNat).drop i).take d := by
    intro d
    induction d with
    | zero => intro i _; simp [bs]
    | succ d ih =>
      intro i hi
      have hlt : i < (dg 8 x.toNat).length := by rw [dg_length]; omega
      rw [List.drop_eq_getElem_cons hlt, List.take_succ_cons, ← ih (i + 1) (by omega)]
      simp only [bs]
      congr 1
      have hg := dg_get 8 x.toNat i (by omega)
      rw [List.getElem?_eq_getElem hlt] at hg
      unfold B rd ints
      rw [if_pos (by simp [dg_length]; omega), List.getD_eq_getElem?_getD, List.getElem?_map, show (0 + (i : Int)).toNat = i by omega, List.getElem?_eq_getElem hlt]
      simp
  rw [key 8 0 (by decide), List.drop_zero, List.take_of_length_le (by rw [dg_length]; decide), num_dg 8 _ x.isLt]

/-! ### the contracts -/
theorem xor_s {w : World} {va vb : Value} {a b : List Int} (ha : Sl .u8 w va a) (hb : Sl .u8 w vb b) (hl : a.length ≤ 140737488351232) :
    Calls Try.prog 14 #[va, vb] w fun e w' => ∃ v, e = .returned v ∧ Sl .u8 w' v (xorL a b) ∧ Below w.heap.size w w' := by
  obtain ⟨A, c, rfl, hc, hC⟩ := ha
  obtain ⟨A', c', rfl, hc', hC'⟩ := hb
  refine (octet_Xor.calls A c a A' c' b (xorL a b) w hC hc hC' hc' (Xor_eq a b hl)).mono ?_
  rintro e w' ⟨v, rfl, hR, hb⟩
  exact ⟨v, rfl, Sl.of_R hR, hb⟩
theorem dbl_s {w : World} {va : Value} {a : List Int} (ha : Sl .u8 w va a) (hB : Bytes a) (hl : a.length = 16) :
    Calls Try.prog 16 #[va] w fun e w' => ∃ v, e = .returned v ∧ Sl .u8 w' v (dbl a) ∧ Below w.heap.size w w' := by
  obtain ⟨A, c, rfl, hc, hC⟩ := ha
  refine (octet_Double.calls 20 A c a (dbl a) w hC hc (by rw [Double_eq a hB 20 (by decide), if_pos hl])).mono ?_
  rintro e w' ⟨v, rfl, hR, hb⟩
  exact ⟨v, rfl, Sl.of_R hR, hb⟩
theorem same_s {w : World} {va vb : Value} {a : List Int} (ha : Sl .u8 w va a) (hb : Sl .u8 w vb a) :
    Calls Try.prog 17 #[va, vb] w fun e w' => e = .returned (.bool true) ∧ Drawn0 w w' := by
  obtain ⟨A, c, rfl, hc, hC⟩ := ha
  obtain ⟨A', c', rfl, hc', hC'⟩ := hb
  exact visorref01_Same.calls A c a A' c' a true w hC hc hC' hc' (Same_refl a)
theorem store_s (x : BitVec 64) (w : World) : Calls Try.prog 25 #[.int .u64 (I64 x), .int .i64 8] w fun e w' => ∃ A c, e = .returned (.slice A 8 c) ∧ Sl .u8 w' (.slice A 8 c) (ints (dg 8 x.toNat)) ∧ Below w.heap.size w w' := by
  refine (octet_Store.calls (I64 x) 8 _ w (Store_eq x 8)).mono ?_
  rintro e w' ⟨v, rfl, hR, hb⟩
  have hS := Sl.of_R hR
  obtain ⟨A, c, rfl, hc, hC⟩ := id hS
  have hl : (ints (dg (min (8 : Int).toNat 8) x.toNat)).length = 8 := by rw [ints_length, dg_length]; rfl
  rw [hl] at hS ⊢
  exact ⟨A, c, rfl, hS, hb⟩
theorem load_s (x : BitVec 64) {w : World} {v : Value} (h : Sl .u8 w v (ints (dg 8 x.toNat))) : Calls Try.prog 23 #[v, .int .i64 0] w fun e w' => e = .returned (.int .u64 (I64 x)) ∧ Drawn0 w w' := by
  obtain ⟨A, c, rfl, hc, hC⟩ := h
  refine octet_Load.calls 20 A c _ 0 (I64 x) w hC hc ?_
  have hB : Bytes (ints (dg 8 x.toNat)) := by
    intro y hy
    obtain ⟨n, hn, rfl⟩ := List.mem_map.1 hy
    obtain ⟨i, hi, rfl⟩ := List.getElem_of_mem hn
    rw [dg_length] at hi
    have := dg_get 8 x.toNat i hi
    rw [List.getElem?_eq_getElem (by rw [dg_length]; exact hi)] at this
    rw [Option.some.inj this]
    omega
  rw [Load_eq hB (by rw [ints_length, dg_length]; decide) 0 20 (by decide), load_store]; rfl
theorem rot_s (x : BitVec 64) (k : Int) : Gives 27 #[.int .u64 (I64 x), .int .i64 k] (.int .u64 (I64 (rot x (m64 k)))) := fun w => octet_Rot.calls _ _ _ w (Rot_eq x k)
theorem awake_s : GivesB 22 #[] (.bool true) := fun w => visorlaw01_awake.calls 20 _ w (awake_eq 20 (by decide))

set_option maxHeartbeats 4000000 in
set_option maxRecDepth 100000 in
theorem back (x : BitVec 64) (k : Int) (a b : List (BitVec 8)) (ha : a.length = 16) (hb : b.length = 16) (w : World) :
    Calls Try.prog 5 #[.int .u64 (I64 x), .int .i64 k, arrV .u8 (bl a), arrV .u8 (bl b)] w fun e w' => e = .returned (.bool true) ∧ Below w.heap.size w w' := by
  have HB := Aside0.mk (Below.refl w.heap.size w)
  have r1 := rot_s x k
  unfold arrV
  obtain ⟨ca, hca⟩ : ∃ ca, ca = ((bl a).map (Value.int .u8)).toArray := ⟨_, rfl⟩
  obtain ⟨cb, hcb⟩ : ∃ cb, cb = ((bl b).map (Value.int .u8)).toArray := ⟨_, rfl⟩
  rw [← hca, ← hcb]
  have HCA := Aside0.mk hca
  have HCB := Aside0.mk hcb
  clear hca hcb
  have r2 := rot_s (rot x (m64 k)) (wrap64 (-(Int.tmod k 64)))
  have e2 : rot (rot x (m64 k)) (m64 (wrap64 (-(Int.tmod k 64)))) = x := by
    rw [rot_rot _ _ _ (m64_lt _) (m64_lt _)]
    have : (m64 k + m64 (wrap64 (-(Int.tmod k 64)))) % 64 = 0 := by
      have tm := tmod_nat k 64
      have tm' : (0 ≤ k → Int.tmod k 64 = k % 64) ∧ (k < 0 → k % 64 = 0 → Int.tmod k 64 = 0) ∧ (k < 0 → k % 64 ≠ 0 → Int.tmod k 64 = k % 64 - 64) := tm
      clear tm
      generalize Int.tmod k 64 = t at *
      unfold m64 wrap64; omega
    rw [this, rot_zero]
  rw [e2] at r2
  have r3 := rot_s x 64
  rw [show m64 64 = 0 from rfl, rot_zero] at r3
  clear e2
  have st := store_s x
  have ld : ∀ (w : World) (v : Value), Sl .u8 w v (ints (dg 8 x.toNat)) → Calls Try.prog 23 #[v, .int .i64 0] w fun e w' => e = .returned (.int .u64 (I64 x)) ∧ Drawn0 w w' := fun w v h => load_s x h
  generalize ints (dg 8 x.toNat) = sl at *
  generalize I64 (rot x (m64 k)) = Y at *
  generalize I64 x = X at *
  have ST := Aside0.mk st
  have LD := Aside0.mk ld
  clear st ld
  have SA : Aside0 (Sl .u8 ((w.alloc (Obj.cells ca 33)).alloc (Obj.cells cb 33)) (.slice (some ⟨w.heap.size, 0, none⟩) 16 16) (bl a)) := ⟨by
    have := Sl.of_cells (k := .u8) (w := (w.alloc (Obj.cells ca 33)).alloc (Obj.cells cb 33)) (ad := ⟨w.heap.size, 0, none⟩) (c := 16) (l := bl a) (by rw [bl_length, ha]; decide) (by rw [bl_length, ha]; decide) (fun j x hj => by
      have e1 : (⟨w.heap.size, 0, none⟩ : Addr).add j = ⟨w.heap.size, j, none⟩ := add_plain _ _
      rw [e1, World.cell?_alloc_lt _ _ _ (by simp), HCA.out]
      simp [hj])
    rw [bl_length, ha] at this
    exact this⟩
  have SB : Aside0 (Sl .u8 ((w.alloc (Obj.cells ca 33)).alloc (Obj.cells cb 33)) (.slice (some ⟨w.heap.size + 1, 0, none⟩) 16 16) (bl b)) := ⟨by
    have := Sl.of_cells (k := .u8) (w := (w.alloc (Obj.cells ca 33)).alloc (Obj.cells cb 33)) (ad := ⟨w.heap.size + 1, 0, none⟩) (c := 16) (l := bl b) (by rw [bl_length, hb]; decide) (by rw [bl_length, hb]; decide) (fun j x hj => by
      have e1 : (⟨w.heap.size + 1, 0, none⟩ : Addr).add j = ⟨w.heap.size + 1, j, none⟩ := add_plain _ _
      have hg : ((w.alloc (Obj.cells ca 33)).alloc (Obj.cells cb 33)).heap[w.heap.size + 1]? = some (Obj.cells cb 33) := by
        show ((w.heap.push (Obj.cells ca 33)).push (Obj.cells cb 33))[w.heap.size + 1]? = _
        have hs : (w.heap.push (Obj.cells ca 33)).size = w.heap.size + 1 := Array.size_push ..
        rw [← hs, Array.getElem?_push_size]
      rw [e1, cell_of_row _ _ _ _ _ _ hg, HCB.out]
      simp [hj])
    rw [bl_length, hb] at this
    exact this⟩
  clear HCA HCB
  have HB2 := Aside0.mk (below_alloc (below_alloc HB.out (Obj.cells ca 33)) (Obj.cells cb 33))
  clear HB
  have HB := HB2
  clear HB2
  go_enter Try.func5, Try.ntmps5
  go_wp2_with fail
  refine (ST.out _).mono ?_
  rintro e w1 ⟨A, c, rfl, hS, hb_⟩
  have SS := Aside0.mk hS
  clear hS
  (try (have n_ := Aside0.mk (Sl.below SA.out hb_); clear SA; have SA := n_; clear n_)); (try (have n_ := Aside0.mk (Sl.below SB.out hb_); clear SB; have SB := n_; clear n_))
  have n0_ := Aside0.mk (below_then HB.out (below_size HB.out) hb_)
  clear HB hb_
  have HB := n0_
  clear n0_
  go_wp2_with (first | (go_at_call 23; (with_reducible refine (LD.out _ _ SS.out).mono ?_); rintro e w' ⟨rfl, ⟨nd, rfl⟩⟩) | (go_at_call 27; (first | (with_reducible refine (r1.q _).mono ?_) | (with_reducible refine (r2.q _).mono ?_) | (with_reducible refine (r3.q _).mono ?_)); rintro e w' ⟨rfl, ⟨nd, rfl⟩⟩))
  clear ST LD SS r1 r2 r3
  generalize hW : World.drewN w1 _ = W1
  have hb_ : Below w1.heap.size w1 W1 := by rw [← hW]; exact pw_below_drewN (Below.refl _ _) _
  (try (have n_ := Aside0.mk (Sl.below SA.out hb_); clear SA; have SA := n_; clear n_)); (try (have n_ := Aside0.mk (Sl.below SB.out hb_); clear SB; have SB := n_; clear n_))
  have n0_ := Aside0.mk (below_then HB.out (below_size HB.out) hb_); clear HB hb_; have HB := n0_; clear n0_
  clear hW
  have hb_ : Below W1.heap.size W1 W1.drew := below_drew (Below.refl _ _)
  (try (have n_ := Aside0.mk (Sl.below SA.out hb_); clear SA; have SA := n_; clear n_)); (try (have n_ := Aside0.mk (Sl.below SB.out hb_); clear SB; have SB := n_; clear n_)); (try (have n_ := Aside0.mk (Sl.below SC.out hb_); clear SC; have SC := n_; clear n_)); (try (have n_ := Aside0.mk (Sl.below S1.out hb_); clear S1; have S1 := n_; clear n_)); (try (have n_ := Aside0.mk (Sl.below S2.out hb_); clear S2; have S2 := n_; clear n_)); (try (have n_ := Aside0.mk (Sl.below S3.out hb_); clear S3; have S3 := n_; clear n_)); (try (have n_ := Aside0.mk (Sl.below S4.out hb_); clear S4; have S4 := n_; clear n_)); (try (have n_ := Aside0.mk (Sl.below S5.out hb_); clear S5; have S5 := n_; clear n_))
  have n0_ := Aside0.mk (below_then HB.out (below_size HB.out) hb_); clear HB hb_; have HB := n0_; clear n0_
  have hla : (bl a).length ≤ 140737488351232 := by rw [bl_length, ha]; decide
  have HLA := Aside0.mk hla
  clear hla
  go_region_held3 (fun _ => True) (trivial) (first
    | (go_at_call 14; (with_reducible refine (xor_s SA.out SB.out HLA.out).mono ?_); rintro e w2_ ⟨v_, rfl, hS_, hb_⟩; (try (have n_ := Aside0.mk (Sl.below SA.out hb_); clear SA; have SA := n_; clear n_)); (try (have n_ := Aside0.mk (Sl.below SB.out hb_); clear SB; have SB := n_; clear n_)); (try (have n_ := Aside0.mk (Sl.below S1.out hb_); clear S1; have S1 := n_; clear n_)); (try (have n_ := Aside0.mk (Sl.below S2.out hb_); clear S2; have S2 := n_; clear n_)); (try (have n_ := Aside0.mk (Sl.below S3.out hb_); clear S3; have S3 := n_; clear n_)); (try (have n_ := Aside0.mk (Sl.below S4.out hb_); clear S4; have S4 := n_; clear n_)); (try (have n_ := Aside0.mk (Sl.below S5.out hb_); clear S5; have S5 := n_; clear n_)); have SC := Aside0.mk hS_; clear hS_; have n0_ := Aside0.mk (below_then HB.out (below_size HB.out) hb_); clear HB hb_; have HB := n0_; clear n0_))
  go_wp2_with fail
  (try (have n_ := Aside0.mk (Sl.drew SA.out); clear SA; have SA := n_; clear n_)); (try (have n_ := Aside0.mk (Sl.drew SB.out); clear SB; have SB := n_; clear n_)); (try (have n_ := Aside0.mk (Sl.drew SC.out); clear SC; have SC := n_; clear n_)); (try (have n_ := Aside0.mk (Sl.drew S1.out); clear S1; have S1 := n_; clear n_)); (try (have n_ := Aside0.mk (Sl.drew S2.out); clear S2; have S2 := n_; clear n_)); (try (have n_ := Aside0.mk (Sl.drew S3.out); clear S3; have S3 := n_; clear n_)); (try (have n_ := Aside0.mk (Sl.drew S4.out); clear S4; have S4 := n_; clear n_)); (try (have n_ := Aside0.mk (Sl.drew S5.out); clear S5; have S5 := n_; clear n_))
  have n0_ := Aside0.mk (below_drew HB.out); clear HB; have HB := n0_; clear n0_
  have hlc : (xorL (bl a) (bl b)).length = 16 := by rw [xor_bl, bl_length]; simp; omega
  have hld : (dbl (bl a)).length = 16 := by rw [dbl_bl, bl_length]; simp
  have hbc : Bytes (xorL (bl a) (bl b)) := by rw [xor_bl]; exact bl_bytes _
  have D1 := Aside0.mk hlc
  have D2 := Aside0.mk hld
  have D3 := Aside0.mk hbc
  have D4 := Aside0.mk (dbl_xor a b (by omega))
  have D5 := Aside0.mk (xor_back a b (by omega))
  have DA := Aside0.mk (show (bl a).length = 16 by rw [bl_length, ha])
  have DB := Aside0.mk (show (bl b).length = 16 by rw [bl_length, hb])
  clear hlc hld hbc ha hb
  go_region_held3 (fun _ => True) (trivial) (first
    | (go_at_call 16; (first | ((with_reducible refine (dbl_s SC.out D3.out D1.out).mono ?_); rintro e w2_ ⟨v_, rfl, hS_, hb_⟩; (try (have n_ := Aside0.mk (Sl.below SA.out hb_); clear SA; have SA := n_; clear n_)); (try (have n_ := Aside0.mk (Sl.below SB.out hb_); clear SB; have SB := n_; clear n_)); (try (have n_ := Aside0.mk (Sl.below SC.out hb_); clear SC; have SC := n_; clear n_)); (try (have n_ := Aside0.mk (Sl.below S2.out hb_); clear S2; have S2 := n_; clear n_)); (try (have n_ := Aside0.mk (Sl.below S3.out hb_); clear S3; have S3 := n_; clear n_)); (try (have n_ := Aside0.mk (Sl.below S4.out hb_); clear S4; have S4 := n_; clear n_)); (try (have n_ := Aside0.mk (Sl.below S5.out hb_); clear S5; have S5 := n_; clear n_)); have S1 := Aside0.mk hS_; clear hS_; have n0_ := Aside0.mk (below_then HB.out (below_size HB.out) hb_); clear HB hb_; have HB := n0_; clear n0_) | ((with_reducible refine (dbl_s SA.out (bl_bytes a) DA.out).mono ?_); rintro e w2_ ⟨v_, rfl, hS_, hb_⟩; (try (have n_ := Aside0.mk (Sl.below SA.out hb_); clear SA; have SA := n_; clear n_)); (try (have n_ := Aside0.mk (Sl.below SB.out hb_); clear SB; have SB := n_; clear n_)); (try (have n_ := Aside0.mk (Sl.below SC.out hb_); clear SC; have SC := n_; clear n_)); (try (have n_ := Aside0.mk (Sl.below S1.out hb_); clear S1; have S1 := n_; clear n_)); (try (have n_ := Aside0.mk (Sl.below S3.out hb_); clear S3; have S3 := n_; clear n_)); (try (have n_ := Aside0.mk (Sl.below S4.out hb_); clear S4; have S4 := n_; clear n_)); (try (have n_ := Aside0.mk (Sl.below S5.out hb_); clear S5; have S5 := n_; clear n_)); have S2 := Aside0.mk hS_; clear hS_; have n0_ := Aside0.mk (below_then HB.out (below_size HB.out) hb_); clear HB hb_; have HB := n0_; clear n0_) | ((with_reducible refine (dbl_s SB.out (bl_bytes b) DB.out).mono ?_); rintro e w2_ ⟨v_, rfl, hS_, hb_⟩; (try (have n_ := Aside0.mk (Sl.below SA.out hb_); clear SA; have SA := n_; clear n_)); (try (have n_ := Aside0.mk (Sl.below SB.out hb_); clear SB; have SB := n_; clear n_)); (try (have n_ := Aside0.mk (Sl.below SC.out hb_); clear SC; have SC := n_; clear n_)); (try (have n_ := Aside0.mk (Sl.below S1.out hb_); clear S1; have S1 := n_; clear n_)); (try (have n_ := Aside0.mk (Sl.below S2.out hb_); clear S2; have S2 := n_; clear n_)); (try (have n_ := Aside0.mk (Sl.below S4.out hb_); clear S4; have S4 := n_; clear n_)); (try (have n_ := Aside0.mk (Sl.below S5.out hb_); clear S5; have S5 := n_; clear n_)); have S3 := Aside0.mk hS_; clear hS_; have n0_ := Aside0.mk (below_then HB.out (below_size HB.out) hb_); clear HB hb_; have HB := n0_; clear n0_)))
    | (go_at_call 14; (first | ((with_reducible refine (xor_s S2.out S3.out (by rw [D2.out]; decide)).mono ?_); rintro e w2_ ⟨v_, rfl, hS_, hb_⟩; (try (have n_ := Aside0.mk (Sl.below SA.out hb_); clear SA; have SA := n_; clear n_)); (try (have n_ := Aside0.mk (Sl.below SB.out hb_); clear SB; have SB := n_; clear n_)); (try (have n_ := Aside0.mk (Sl.below SC.out hb_); clear SC; have SC := n_; clear n_)); (try (have n_ := Aside0.mk (Sl.below S1.out hb_); clear S1; have S1 := n_; clear n_)); (try (have n_ := Aside0.mk (Sl.below S2.out hb_); clear S2; have S2 := n_; clear n_)); (try (have n_ := Aside0.mk (Sl.below S3.out hb_); clear S3; have S3 := n_; clear n_)); (try (have n_ := Aside0.mk (Sl.below S5.out hb_); clear S5; have S5 := n_; clear n_)); have S4 := Aside0.mk hS_; clear hS_; have n0_ := Aside0.mk (below_then HB.out (below_size HB.out) hb_); clear HB hb_; have HB := n0_; clear n0_) | ((with_reducible refine (xor_s SC.out SB.out (by rw [D1.out]; decide)).mono ?_); rintro e w2_ ⟨v_, rfl, hS_, hb_⟩; (try (have n_ := Aside0.mk (Sl.below SA.out hb_); clear SA; have SA := n_; clear n_)); (try (have n_ := Aside0.mk (Sl.below SB.out hb_); clear SB; have SB := n_; clear n_)); (try (have n_ := Aside0.mk (Sl.below SC.out hb_); clear SC; have SC := n_; clear n_)); (try (have n_ := Aside0.mk (Sl.below S1.out hb_); clear S1; have S1 := n_; clear n_)); (try (have n_ := Aside0.mk (Sl.below S2.out hb_); clear S2; have S2 := n_; clear n_)); (try (have n_ := Aside0.mk (Sl.below S3.out hb_); clear S3; have S3 := n_; clear n_)); (try (have n_ := Aside0.mk (Sl.below S4.out hb_); clear S4; have S4 := n_; clear n_)); have S5 := Aside0.mk hS_; clear hS_; have n0_ := Aside0.mk (below_then HB.out (below_size HB.out) hb_); clear HB hb_; have HB := n0_; clear n0_)))
    | (go_at_call 17; (first | (with_reducible refine (same_s S1.out (by rw [D4.out]; exact S4.out)).mono ?_) | (with_reducible refine (same_s S5.out (by rw [D5.out]; exact SA.out)).mono ?_)); rintro e w2_ ⟨rfl, hd_⟩; have hb_ := hd_.below; clear hd_; (try (have n_ := Aside0.mk (Sl.below SA.out hb_); clear SA; have SA := n_; clear n_)); (try (have n_ := Aside0.mk (Sl.below SB.out hb_); clear SB; have SB := n_; clear n_)); (try (have n_ := Aside0.mk (Sl.below SC.out hb_); clear SC; have SC := n_; clear n_)); (try (have n_ := Aside0.mk (Sl.below S1.out hb_); clear S1; have S1 := n_; clear n_)); (try (have n_ := Aside0.mk (Sl.below S2.out hb_); clear S2; have S2 := n_; clear n_)); (try (have n_ := Aside0.mk (Sl.below S3.out hb_); clear S3; have S3 := n_; clear n_)); (try (have n_ := Aside0.mk (Sl.below S4.out hb_); clear S4; have S4 := n_; clear n_)); (try (have n_ := Aside0.mk (Sl.below S5.out hb_); clear S5; have S5 := n_; clear n_)); have n0_ := Aside0.mk (below_then HB.out (below_size HB.out) hb_); clear HB hb_; have HB := n0_; clear n0_)
    | (go_at_call 22; (with_reducible refine (awake_s.q _).mono ?_); rintro e w2_ ⟨rfl, hb_⟩; (try (have n_ := Aside0.mk (Sl.below SA.out hb_); clear SA; have SA := n_; clear n_)); (try (have n_ := Aside0.mk (Sl.below SB.out hb_); clear SB; have SB := n_; clear n_)); (try (have n_ := Aside0.mk (Sl.below SC.out hb_); clear SC; have SC := n_; clear n_)); (try (have n_ := Aside0.mk (Sl.below S1.out hb_); clear S1; have S1 := n_; clear n_)); (try (have n_ := Aside0.mk (Sl.below S2.out hb_); clear S2; have S2 := n_; clear n_)); (try (have n_ := Aside0.mk (Sl.below S3.out hb_); clear S3; have S3 := n_; clear n_)); (try (have n_ := Aside0.mk (Sl.below S4.out hb_); clear S4; have S4 := n_; clear n_)); (try (have n_ := Aside0.mk (Sl.below S5.out hb_); clear S5; have S5 := n_; clear n_)); have n0_ := Aside0.mk (below_then HB.out (below_size HB.out) hb_); clear HB hb_; have HB := n0_; clear n0_))
  go_wp2
  go_ret
  exact ⟨rfl, HB.out⟩
theorem back_walk (x k : Int) (a b : List Int) (w : World) (wx : (Lit.int .u64 x).wf = true) (_ : (Lit.int .i64 k).wf = true) (na : a.length = 16) (wa : ∀ x ∈ a, (Lit.int .u8 x).wf = true) (nb : b.length = 16) (wb : ∀ x ∈ b, (Lit.int .u8 x).wf = true) :
    Calls Try.prog 5 #[.int .u64 x, .int .i64 k, arrV .u8 a, arrV .u8 b] w fun e w' => e = .returned (.bool true) ∧ Below w.heap.size w w' := by
  obtain ⟨y, rfl⟩ := word_of wx
  obtain ⟨a', rfl⟩ := bl_of (bytes_of wa)
  obtain ⟨b', rfl⟩ := bl_of (bytes_of wb)
  exact back y k a' b' (by rw [← bl_length, na]) (by rw [← bl_length, nb]) w
end Go.Proofs.Ytahiphggoemdkaa.OctBack
