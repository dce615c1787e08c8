/-
  A tape of masks, walked: what each of its functions does to it.
-/
import Derived.Test.YtahiphggoemdkaaSlices
import Derived.Test.YtahiphggoemdkaaCopy
import Derived.Test.YtahiphggoemdkaaGives
import Derived.Test.YtahiphggoemdkaaMem
import Derived.Laws.LoneSync
import Derived.Laws.Cover3
namespace Go.Proofs.Ytahiphggoemdkaa.Tape
open Go.RowKit Go.Proofs.YtahiphggoemdkaaW.PrintWords Go.Proofs.YtahiphggoemdkaaW.PrintLast Go.Proofs.YtahiphggoemdkaaW.PrintMore Sl Gives
set_option linter.unusedVariables false
set_option linter.unusedSimpArgs false
set_option maxHeartbeats 4000000
set_option maxRecDepth 100000
/-! ### sync/atomic -/
theorem aload_c (g i : Nat) (x : Int) (w : World) (hc : w.cell? ⟨g, i, none⟩ = some (.int .i64 x)) : Calls Try.prog 74 #[.pointer (some ⟨g, i, none⟩)] w fun e w' => e = .returned (.int .i64 x) ∧ w' = w := by
  have hd := run_call_load (P := Try.prog) Try.func77 (by kernel_rfl) rfl (by kernel_rfl) .i64 (by kernel_rfl) hc
  go_enter Try.func74, Try.ntmps74
  go_wp2
  go_ret
  exact ⟨rfl, rfl⟩
theorem aadd_c (g i : Nat) (x y s : Int) (w : World) (hc : w.cell? ⟨g, i, none⟩ = some (.int .i64 x)) (hz : w.frozen? ⟨g, i, none⟩ = false) (hs : wrap64 (x + y) = s) : Calls Try.prog 73 #[.pointer (some ⟨g, i, none⟩), .int .i64 y] w fun e w' => e = .returned (.int .i64 s) ∧ w' = w.setCell ⟨g, i, none⟩ (.int .i64 s) := by
  have hd := run_call_add (P := Try.prog) (y := y) (s := s) Try.func76 (by kernel_rfl) rfl (by kernel_rfl) .i64 (by kernel_rfl) hc hz (by rw [← hs]; simp [go_sem, wrap64, IntKind.wrap_i64])
  go_enter Try.func73, Try.ntmps73
  go_wp2
  go_ret
  exact ⟨rfl, rfl⟩
theorem astore_c (g i : Nat) (x y : Int) (w : World) (hc : w.cell? ⟨g, i, none⟩ = some (.int .i64 x)) (hz : w.frozen? ⟨g, i, none⟩ = false) : Calls Try.prog 75 #[.pointer (some ⟨g, i, none⟩), .int .i64 y] w fun e w' => e = .returned (.tuple #[]) ∧ w' = w.setCell ⟨g, i, none⟩ (.int .i64 y) := by
  have hd := run_call_store (P := Try.prog) (k := .i64) (y := y) Try.func78 (by kernel_rfl) rfl (by kernel_rfl) (by kernel_rfl) hc hz
  go_enter Try.func75, Try.ntmps75
  go_wp2
  exact bodyPost_end (results_none rfl _ _ _) rfl ⟨rfl, rfl⟩
/-! ### slices.Clone -/
theorem eql_nil {t e : TypeId} (h : Try.prog.underlying t = some (.slice e)) (a : Option Addr) (l c : Nat) (w : World) : (binOp .eql t (.slice a l c) (.slice none 0 0)).run Try.prog w = .ok (.bool a.isNone) w := by
  simp only [binOp]
  simp [Go.run_equal_slice_nil w t e a l c h]
theorem info_u64 : (Try.prog.info? 27).map (fun i => (i.zero, i.size, i.bytes)) = some (some (.int .u64 0), 1, 8) := by kernel_rfl
theorem clone_c (v : Value) (zs : List Int) (w : World) (h : Sl .u64 w v zs) (hl : zs.length * 8 ≤ 140737488351232) : Calls Try.prog 72 #[v] w fun e w' => ∃ v', e = .returned v' ∧ Sl .u64 w' v' zs ∧ Below w.heap.size w w' := by
  obtain ⟨A, c, rfl, hc, hC⟩ := h
  have HC := Aside0.mk hC
  have HB := Aside0.mk (Below.refl w.heap.size w)
  have hn := eql_nil Try.underlying47 A zs.length c w
  cases A with
  | none =>
    have hz : zs = [] := by
      obtain ⟨h1, h2, h3⟩ := hC
      rcases Nat.eq_zero_or_pos zs.length with h | h
      · exact List.eq_nil_of_length_eq_zero h
      · obtain ⟨ad, had, _⟩ := h3 h
        cases had
    subst hz
    clear hC
    simp only [Option.isNone_none, List.length_nil] at hn
    go_enter Try.func72, Try.ntmps72
    go_wp2
    go_ret
    exact ⟨_, rfl, ⟨none, 0, rfl, Nat.le_refl _, HC.out⟩, Below.refl _ _⟩
  | some ad =>
    clear hC
    have HL := Aside0.mk hl
    clear hl
    simp only [Option.isNone_some] at hn
    go_enter Try.func72, Try.ntmps72
    go_wp2_with (first
      | ((with_reducible refine gate_dst (N := 5) rfl ?_); refine Kd.R_lit (Kd.int .u64) _ 27 ?hg (N := 5) ?hd (xs := ([] : List Int)) (inner := []) (ok := fun _ => True) (okp := fun _ => True) ?hr ?hp (fun _ hk => hk) trivial (Below.refl _ _) (Nat.le_refl _) (by simp) ?_; (case hd => rfl); (case hg => rfl); (case hr => first | (go_simp; done) | (go_simp; rfl)); (case hp => exact (Reps.none _ _)); intro v1 w3 ho4 hb hg_ hnew_; clear hg_ hnew_; have HO := Aside0.mk (Kd.R_lower ho4 (below_size HB.out)); have HB := Aside0.mk (below_step HB.out hb); clear hb ho4)
      | ((with_reducible refine gate_builtin (b := .append) (xs := #[.tmp 5, .tmp 6]) rfl ?_); at_builtin; refine Kd.R_append_rows (Kd.int .u64) (w0 := w) w.heap.size rfl (.tmp 5) (.tmp 6) 47 27 (.int .u64 0) 8 rfl Try.underlying47 info_u64 rfl (by decide) (by omega) v1 [] zs _ _ _ (fun _ => True) (fun _ => False) rfl rfl HO.out ?aR (fun _ _ h => h) (fun _ h => h.elim) (fun _ _ => trivial) HB.out (below_size HB.out) ?aL ?_; (case aR => exact Kd.C_below HC.out HB.out); (case aL => have := HL.out; simp only [List.length_nil]; omega); intro v2 w5 ho hb hg hat; have HB := Aside0.mk hb; have HO2 := Aside0.mk ho; clear HO ho hb hg hat; obtain ⟨Ao6, co6, eo6⟩ := Kd.R_slice HO2.out; subst eo6))
    go_ret
    exact ⟨_, rfl, Sl.of_R HO2.out, HB.out⟩
/-! ### the tape in memory -/
/-- Block g is a tape: its words, how many are drawn, how many may be. -/
def At (w : World) (g : Nat) (v : Value) (u f : Int) : Prop := w.heap[g]? = some (.cells #[v, .int .i64 u, .int .i64 f] 74 (0, 0))
variable {w : World} {g : Nat} {v : Value} {u f : Int}
theorem At.lt (h : At w g v u f) : g < w.heap.size := (Array.getElem?_eq_some_iff.1 h).1
theorem At.c0 (h : At w g v u f) : w.cell? ⟨g, 0, none⟩ = some v := by rw [cell_of_row w g 0 _ _ _ h]; rfl
theorem At.c1 (h : At w g v u f) : w.cell? ⟨g, 1, none⟩ = some (.int .i64 u) := by rw [cell_of_row w g 1 _ _ _ h]; rfl
theorem At.c2 (h : At w g v u f) : w.cell? ⟨g, 2, none⟩ = some (.int .i64 f) := by rw [cell_of_row w g 2 _ _ _ h]; rfl
theorem At.free (h : At w g v u f) (i : Nat) : w.frozen? ⟨g, i, none⟩ = false := by
  unfold World.frozen?
  rw [h]
  simp
theorem At.set1 (h : At w g v u f) (x : Int) : At (w.setCell ⟨g, 1, none⟩ (.int .i64 x)) g v x f := by
  have hlt := h.lt
  unfold At at h ⊢
  rw [Array.getElem?_eq_getElem hlt] at h
  have h0 := Option.some.inj h
  show (w.heap.modify g _)[g]? = _
  rw [Array.getElem?_modify, if_pos rfl, Array.getElem?_eq_getElem hlt, h0]
  simp
theorem At.set2 (h : At w g v u f) (x : Int) : At (w.setCell ⟨g, 2, none⟩ (.int .i64 x)) g v u x := by
  have hlt := h.lt
  unfold At at h ⊢
  rw [Array.getElem?_eq_getElem hlt] at h
  have h0 := Option.some.inj h
  show (w.heap.modify g _)[g]? = _
  rw [Array.getElem?_modify, if_pos rfl, Array.getElem?_eq_getElem hlt, h0]
  simp
theorem At.below (h : At w g v u f) {w' : World} (hb : Below w.heap.size w w') : At w' g v u f := (hb.block g h.lt).trans h
theorem At.drewN (h : At w g v u f) (n : Nat) : At (w.drewN n) g v u f := h.below (pw_below_drewN (Below.refl _ _) n)
theorem At.drew (h : At w g v u f) : At w.drew g v u f := h
theorem At.new (w : World) (v : Value) (u f : Int) : At (w.alloc (.cells #[v, .int .i64 u, .int .i64 f] 74)) w.heap.size v u f := by
  show (w.heap.push _)[w.heap.size]? = _
  rw [Array.getElem?_push_size]
/-- Only block g is another one. -/
def Ch (g : Nat) (w w' : World) : Prop := w.grownBy w' (some g)
theorem Ch.below {w' : World} {B : Nat} {w0 : World} (h : Ch g w w') (hb : Below B w0 w) (hB : B ≤ w.heap.size) (hg : B ≤ g) : Below B w0 w' := pw_below_grown hb (some g) hB h (fun k hk => by cases hk; exact hg)
theorem Ch.refl (w : World) : Ch g w w := ⟨rfl, rfl, rfl, Nat.le_refl _, fun _ _ _ => rfl⟩
theorem Ch.trans {a b c : World} (h : Ch g a b) (k : Ch g b c) : Ch g a c := ⟨k.os.trans h.os, k.tape.trans h.tape, k.output.trans h.output, Nat.le_trans h.size k.size, fun i hi hne => (k.block i (Nat.lt_of_lt_of_le hi h.size) hne).trans (h.block i hi hne)⟩
theorem Ch.set (w : World) (i : Nat) (x : Value) : Ch g w (w.setCell ⟨g, i, none⟩ x) := ⟨rfl, rfl, rfl, by rw [Mem.setCell_size]; exact Nat.le_refl _, fun k hk hne => by
  show (w.heap.modify g _)[k]? = _
  rw [Array.getElem?_modify, if_neg (fun h => hne (by rw [h]))]⟩
theorem Ch.drewN (w : World) (n : Nat) : Ch g w (w.drewN n) := grown_of_below (pw_below_drewN (Below.refl _ _) n) _
theorem Ch.of_below {w' : World} (h : Below w.heap.size w w') : Ch g w w' := grown_of_below h _
theorem Ch.cell {w' : World} (h : Ch g w w') {a : Addr} {x : Value} (hc : w.cell? a = some x) (hne : a.block ≠ g) : w'.cell? a = some x := by
  rw [← hc]
  exact World.cell?_of_block (h.block _ (World.block_lt_of_cell? w a hc) (fun e => hne (Option.some.inj e)))
/-- A row of words that lies elsewhere. -/
def Away (v : Value) (g : Nat) : Prop := ∀ ad n c, v = .slice (some ad) n c → 0 < n → ad.block ≠ g
theorem Sl_keep {k : IntKind} {w' : World} {l : List Int} (h : Sl k w v l) (ha : Away v g) (hc : Ch g w w') : Sl k w' v l := by
  obtain ⟨A, c, rfl, hle, hC⟩ := h
  rcases Nat.eq_zero_or_pos l.length with h0 | h0
  · exact ⟨A, c, rfl, hle, ⟨hC.1, hC.2.1, fun hp => absurd hp (by omega)⟩⟩
  · have hm : l.length ≤ 9223372036854775807 := hC.2.1
    obtain ⟨ad, c', hv, hx⟩ := Sl.cell (k := k) (w := w) (v := .slice A l.length c) (l := l) ⟨A, c, rfl, hle, hC⟩ 0 h0
    injection hv with e1 e2 e3
    subst e1; subst e3
    refine Sl.of_cells hle hm fun j x hj => ?_
    have hlt := (List.getElem?_eq_some_iff.1 hj).1
    obtain ⟨ad', c'', hv', hx'⟩ := Sl.cell (k := k) (w := w) (v := .slice (some ad) l.length c) (l := l) ⟨some ad, c, rfl, hle, hC⟩ j hlt
    injection hv' with e1 e2 e3
    injection e1 with e1
    subst e1; subst e3
    rw [List.getD_eq_getElem?_getD, hj] at hx'
    have hb : (ad.add j).block = ad.block := by unfold Addr.add; split <;> rfl
    exact hc.cell hx' (by rw [hb]; exact ha ad _ _ rfl h0)
theorem Sl_away {k : IntKind} {l : List Int} (h : Sl k w v l) (hg : w.heap.size ≤ g) : Away v g := by
  intro ad n c hv hn
  obtain ⟨A, c', rfl, hle, hC⟩ := h
  injection hv with e1 e2 e3
  subst e1
  have h0 : 0 < l.length := by omega
  obtain ⟨ad', c'', hv', hx'⟩ := Sl.cell (k := k) (w := w) (v := .slice (some ad) l.length c') (l := l) ⟨some ad, c', rfl, hle, hC⟩ 0 h0
  injection hv' with e1 e2 e3
  injection e1 with e1
  subst e1
  have hb : (ad.add 0).block = ad.block := by unfold Addr.add; split <;> rfl
  have := World.block_lt_of_cell? w _ hx'
  rw [hb] at this
  omega
/-! ### the tape's functions -/
theorem new_c (v : Value) (zs : List Int) (w : World) (h : Sl .u64 w v zs) (hl : zs.length * 8 ≤ 140737488351232) : Calls Try.prog 58 #[v] w fun e w' => ∃ v' g, e = .returned (.pointer (some ⟨g, 0, none⟩)) ∧ w.heap.size ≤ g ∧ At w' g v' 0 0 ∧ Sl .u64 w' v' zs ∧ Away v' g ∧ Below w.heap.size w w' := by
  have C1 := Aside0.mk (fun w h => clone_c v zs w h hl)
  have HS := Aside0.mk h
  clear h
  go_enter Try.func58, Try.ntmps58
  go_wp2_with (first
    | (go_at_call 72; (with_reducible refine (C1.out _ HS.out).mono ?_); rintro e w1 ⟨v', rfl, ⟨A', c', rfl, hle, hC⟩, hb⟩))
  have hs : Sl .u64 w1 (.slice A' zs.length c') zs := ⟨A', c', rfl, hle, hC⟩
  go_ret
  exact ⟨_, w1.heap.size, rfl, hb.size, At.new w1 _ 0 0, hs.alloc _, Sl_away hs (Nat.le_refl _), below_alloc hb _⟩
theorem used_c (h : At w g v u f) : Calls Try.prog 64 #[.pointer (some ⟨g, 0, none⟩)] w fun e w' => e = .returned (.int .i64 u) ∧ w' = w := by
  have C1 := Aside0.mk (aload_c g 1 u w h.c1)
  go_enter Try.func64, Try.ntmps64
  go_wp2_with (first
    | (go_at_call 74; (with_reducible refine C1.out.mono ?_); rintro e w1 ⟨rfl, rfl⟩))
  go_ret
  exact ⟨rfl, rfl⟩
theorem allowed_c (h : At w g v u f) : Calls Try.prog 61 #[.pointer (some ⟨g, 0, none⟩)] w fun e w' => e = .returned (.int .i64 f) ∧ w' = w := by
  have hc := h.c2
  go_enter Try.func61, Try.ntmps61
  go_wp2
  go_ret
  exact ⟨rfl, rfl⟩
theorem left_c {A : Option Addr} {n c : Nat} {u : Nat} (h : At w g (.slice A n c) u f) (hu : u ≤ n) (hn : n ≤ 140737488351232) : Calls Try.prog 60 #[.pointer (some ⟨g, 0, none⟩)] w fun e w' => e = .returned (.int .i64 ((n - u : Nat) : Int)) ∧ Drawn0 w w' := by
  have C1 := Aside0.mk (fun w (h : At w g (.slice A n c) u f) => used_c h)
  have HS := Aside0.mk h
  have hc := h.c0
  have hs : IntKind.i64.wrap ((n : Int) - (u : Int)) = ((n - u : Nat) : Int) := by rw [IntKind.wrap_i64]; omega
  clear h
  go_enter Try.func60, Try.ntmps60
  go_wp2
  refine start_ (n := 9) (S := fun w' => w'.cell? ⟨g, 0, none⟩ = some (.slice A n c)) (ds := []) #[false, false, false, false, false, false, false, false, false] (by kernel_rfl) rfl rfl (hc) (fun hHeld => ?_)
  refine pure_ (i := 0) (N := some 5) (v := ?_) (a' := ?_) #[true, false, false, false, false, false, false, false, false] rfl rfl (by kernel_rfl) (fun _ _ _ h => h) (Or.inl ⟨by rfl, ?_⟩) ?_ ?_
  rotate_left
  · intro w'
    go_simp
    with_reducible rfl
  rotate_left
  · simp only [Act.put, List.setIfInBounds_toArray, List.set_cons_zero, List.set_cons_succ, i64_w, i32_w]
    rfl
  refine pure_ (i := 1) (N := some 6) (v := ?_) (a' := ?_) #[true, true, false, false, false, false, false, false, false] rfl rfl (by kernel_rfl) (fun _ _ _ h => h) (Or.inl ⟨by rfl, ?_⟩) ?_ ?_
  rotate_left
  · intro w'
    go_simp
    with_reducible rfl
  rotate_left
  · simp only [Act.put, List.setIfInBounds_toArray, List.set_cons_zero, List.set_cons_succ, i64_w, i32_w]
    rfl
  refine pure_ (i := 2) (N := some 7) (v := ?_) (a' := ?_) #[true, true, true, false, false, false, false, false, false] rfl rfl (by kernel_rfl) (fun _ _ _ h => h) (Or.inl ⟨by rfl, ?_⟩) ?_ ?_
  rotate_left
  · intro w'
    go_simp
    with_reducible rfl
  rotate_left
  · simp only [Act.put, List.setIfInBounds_toArray, List.set_cons_zero, List.set_cons_succ, i64_w, i32_w]
    rfl
  refine pure_ (i := 5) (N := some 10) (v := ?_) (a' := ?_) #[true, true, true, false, false, true, false, false, false] rfl rfl (by kernel_rfl) (fun _ _ _ h => h) (Or.inl ⟨by rfl, ?_⟩) ?_ ?_
  rotate_left
  · intro w'
    go_simp
    with_reducible rfl
  rotate_left
  · simp only [Act.put, List.setIfInBounds_toArray, List.set_cons_zero, List.set_cons_succ, i64_w, i32_w]
    rfl
  refine take_ (i := 3) (N := some 8) (v := ?_) (a' := ?_) #[true, true, true, true, false, true, false, false, false] rfl rfl (by kernel_rfl) (fun _ _ _ h => h) (Or.inl ⟨by rfl, ?_⟩) hHeld ?_ ?_
  rotate_left
  · intro w' s0
    go_simp
    with_reducible rfl
  rotate_left
  · simp only [Act.put, List.setIfInBounds_toArray, List.set_cons_zero, List.set_cons_succ, i64_w, i32_w]
    rfl
  refine pure_ (i := 4) (N := some 9) (v := ?_) (a' := ?_) #[true, true, true, true, true, true, false, false, false] rfl rfl (by kernel_rfl) (fun _ _ _ h => h) (Or.inl ⟨by rfl, ?_⟩) ?_ ?_
  rotate_left
  · intro w'
    go_simp
    with_reducible rfl
  rotate_left
  · simp only [Act.put, List.setIfInBounds_toArray, List.set_cons_zero, List.set_cons_succ, i64_w, i32_w]
    rfl
  refine one_ (i := 6) (N := some 11) #[true, true, true, true, true, true, true, false, false] rfl rfl (by kernel_rfl) (by decide) (fun K hK => ?_)
  refine goes_ Try.func64 (by kernel_rfl) rfl #[.pointer (some ⟨g, 0, none⟩)] (by rfl) rfl rfl (by simp only [List.map_toArray, List.map_cons, List.map_nil]; rfl) ?_
  with_reducible refine ((C1.out _ (At.drew HS.out))).mono ?_
  rintro e w3 ⟨rfl, rfl⟩
  refine ⟨_, rfl, ?_⟩
  refine hK.out _ _ (hHeld) (fun hHeld => ?_)
  clear hK K
  refine norm_ (a' := ?_) ?_ ?_
  rotate_left
  · show Act.put _ (some 11) _ = _
    simp only [Act.put, List.setIfInBounds_toArray, List.set_cons_zero, List.set_cons_succ, i64_w, i32_w]
    rfl
  refine pure_ (i := 7) (N := some 12) (v := ?_) (a' := ?_) #[true, true, true, true, true, true, true, true, false] rfl rfl (by kernel_rfl) (fun _ _ _ h => h) (Or.inl ⟨by rfl, ?_⟩) ?_ ?_
  rotate_left
  · intro w'
    go_simp
    with_reducible rfl
  rotate_left
  · simp only [Act.put, List.setIfInBounds_toArray, List.set_cons_zero, List.set_cons_succ, i64_w, i32_w]
    rfl
  refine pure_ (i := 8) (N := some 2) (v := ?_) (a' := ?_) #[true, true, true, true, true, true, true, true, true] rfl rfl (by kernel_rfl) (fun _ _ _ h => h) (Or.inl ⟨by rfl, ?_⟩) ?_ ?_
  rotate_left
  · intro w'
    go_simp
    with_reducible rfl
  rotate_left
  · simp only [Act.put, List.setIfInBounds_toArray, List.set_cons_zero, List.set_cons_succ, i64_w, i32_w]
    rfl
  refine done_ (by kernel_rfl) ?_
  go_wp2
  go_ret
  exact ⟨rfl, ⟨1, rfl⟩⟩
theorem reserve_c {A : Option Addr} {n c : Nat} {u : Nat} (k : Int) (h : At w g (.slice A n c) u f) (hu : u ≤ n) (hn : n ≤ 140737488351232) : Calls Try.prog 59 #[.pointer (some ⟨g, 0, none⟩), .int .i64 k] w fun e w' => e = .returned (.int .i64 (if k < 0 then 1 else if k > ((n - u : Nat) : Int) then 2 else 0)) ∧ Ch g w w' ∧ At w' g (.slice A n c) u (if k < 0 then f else if k > ((n - u : Nat) : Int) then f else k) := by
  have C1 := Aside0.mk (left_c h hu hn)
  have HS := Aside0.mk h
  have hc := h.c2
  have hf := h.free 2
  clear h
  by_cases h1 : k < 0
  · simp only [h1, if_true]
    go_enter Try.func59, Try.ntmps59
    go_wp2
    go_ret
    exact ⟨rfl, Ch.refl _, HS.out⟩
  · by_cases h2 : k > ((n - u : Nat) : Int)
    · simp only [h1, h2, if_true, if_false]
      go_enter Try.func59, Try.ntmps59
      go_wp2_with (first
        | (go_at_call 60; (with_reducible refine C1.out.mono ?_); rintro e w1 ⟨rfl, ⟨n1, rfl⟩⟩))
      go_ret
      exact ⟨rfl, Ch.drewN _ _, At.drewN HS.out _⟩
    · simp only [h1, h2, if_false]
      go_enter Try.func59, Try.ntmps59
      go_wp2_with (first
        | (go_at_call 60; (with_reducible refine C1.out.mono ?_); rintro e w1 ⟨rfl, ⟨n1, rfl⟩⟩))
      go_ret
      exact ⟨rfl, Ch.trans (Ch.drewN _ _) (Ch.set _ _ _), At.set2 (At.drewN HS.out _) _⟩
theorem draw_no {A : Option Addr} {n c : Nat} {u : Nat} (h : At w g (.slice A n c) u f) (hu : u ≤ n) (hn : n ≤ 140737488351232) (hno : f < 1 ∨ n ≤ u) : Calls Try.prog 63 #[.pointer (some ⟨g, 0, none⟩)] w fun e w' => e = .returned (.tuple #[.int .u64 0, .bool false]) ∧ Drawn0 w w' := by
  have C1 := Aside0.mk (left_c h hu hn)
  have HS := Aside0.mk h
  have hc := h.c2
  clear h
  by_cases h1 : f < 1
  · clear hno
    go_enter Try.func63, Try.ntmps63
    go_wp2
    exact bodyPost_ret (results_tmp2 rfl _ _ _) rfl ⟨rfl, Drawn0.refl _⟩
  · have h2 : ((n - u : Nat) : Int) < 1 := by omega
    have h1' : decide (f < 1) = false := decide_eq_false h1
    clear hno h1
    go_enter Try.func63, Try.ntmps63
    go_wp2_with (first
      | (go_at_call 60; (with_reducible refine C1.out.mono ?_); rintro e w1 ⟨rfl, ⟨n1, rfl⟩⟩))
    exact bodyPost_ret (results_tmp2 rfl _ _ _) rfl ⟨rfl, ⟨n1, rfl⟩⟩
theorem draw_yes {ad : Addr} {n c : Nat} {u : Nat} {x : Int} (h : At w g (.slice (some ad) n c) u f) (hu : u < n) (hn : n ≤ 140737488351232) (hf1 : 1 ≤ f) (hf2 : f ≤ 140737488355328) (hx : w.cell? (ad.add u) = some (.int .u64 x)) (ha : ad.block ≠ g) : Calls Try.prog 63 #[.pointer (some ⟨g, 0, none⟩)] w fun e w' => e = .returned (.tuple #[.int .u64 x, .bool true]) ∧ Ch g w w' ∧ At w' g (.slice (some ad) n c) ((u + 1 : Nat) : Int) (f - 1) := by
  have C1 := Aside0.mk (left_c h (Nat.le_of_lt hu) hn)
  have C2 := Aside0.mk (fun w (h : At w g (.slice (some ad) n c) (u : Int) (f - 1)) => aadd_c g 1 (u : Int) 1 ((u + 1 : Nat) : Int) w h.c1 (h.free 1) (by unfold wrap64; omega))
  have HS := Aside0.mk h
  have hc := h.c2
  have hfr := h.free 2
  have h1' : decide (f < 1) = false := decide_eq_false (by omega)
  have h2' : decide (((n - u : Nat) : Int) < 1) = false := decide_eq_false (by omega)
  have hw1 : IntKind.i64.wrap (f - 1) = f - 1 := by rw [IntKind.wrap_i64]; omega
  have hb : (ad.add u).block = ad.block := by unfold Addr.add; split <;> rfl
  have HA := Aside0.mk ha
  have HBL := Aside0.mk hb
  have HX := Aside0.mk hx
  have hun : (u : Int) < (n : Int) := by omega
  have hu0 : (0 : Int) ≤ (u : Int) := by omega
  have hwu : wrap64 (u : Int) = (u : Int) := by unfold wrap64; omega
  clear h hn hf1 hf2 ha hb hx
  go_enter Try.func63, Try.ntmps63
  go_wp2_with (first
    | (go_at_call 60; (with_reducible refine C1.out.mono ?_); rintro e w1 ⟨rfl, ⟨n1, rfl⟩⟩))
  have HT := Aside0.mk (At.set2 (At.drewN HS.out n1) (f - 1))
  have hT0 := HT.out.c0
  have hTx := Ch.cell (Ch.set (g := g) (w.drewN n1) 2 (.int .i64 (f - 1))) (a := ad.add u) (x := .int .u64 x) HX.out (by rw [HBL.out]; exact HA.out)
  clear C1 hc hfr h1' h2' hw1
  refine start_ (n := 13) (S := fun w' => w'.cell? ⟨g, 0, none⟩ = some (.slice (some ad) n c) ∧ w'.cell? (ad.add u) = some (.int .u64 x)) (ds := []) #[false, false, false, false, false, false, false, false, false, false, false, false, false] (by kernel_rfl) rfl rfl ⟨hT0, hTx⟩ (fun hHeld => ?_)
  refine pure_ (i := 0) (N := some 25) (v := ?_) (a' := ?_) #[true, false, false, false, false, false, false, false, false, false, false, false, false] rfl rfl (by kernel_rfl) (fun _ _ _ h => h) (Or.inl ⟨by rfl, ?_⟩) ?_ ?_
  rotate_left
  · intro w'
    go_simp
    with_reducible rfl
  rotate_left
  · simp only [Act.put, List.setIfInBounds_toArray, List.set_cons_zero, List.set_cons_succ, i64_w, i32_w]
    rfl
  refine pure_ (i := 1) (N := some 26) (v := ?_) (a' := ?_) #[true, true, false, false, false, false, false, false, false, false, false, false, false] rfl rfl (by kernel_rfl) (fun _ _ _ h => h) (Or.inl ⟨by rfl, ?_⟩) ?_ ?_
  rotate_left
  · intro w'
    go_simp
    with_reducible rfl
  rotate_left
  · simp only [Act.put, List.setIfInBounds_toArray, List.set_cons_zero, List.set_cons_succ, i64_w, i32_w]
    rfl
  refine pure_ (i := 2) (N := some 27) (v := ?_) (a' := ?_) #[true, true, true, false, false, false, false, false, false, false, false, false, false] rfl rfl (by kernel_rfl) (fun _ _ _ h => h) (Or.inl ⟨by rfl, ?_⟩) ?_ ?_
  rotate_left
  · intro w'
    go_simp
    with_reducible rfl
  rotate_left
  · simp only [Act.put, List.setIfInBounds_toArray, List.set_cons_zero, List.set_cons_succ, i64_w, i32_w]
    rfl
  refine pure_ (i := 4) (N := some 29) (v := ?_) (a' := ?_) #[true, true, true, false, true, false, false, false, false, false, false, false, false] rfl rfl (by kernel_rfl) (fun _ _ _ h => h) (Or.inl ⟨by rfl, ?_⟩) ?_ ?_
  rotate_left
  · intro w'
    go_simp
    with_reducible rfl
  rotate_left
  · simp only [Act.put, List.setIfInBounds_toArray, List.set_cons_zero, List.set_cons_succ, i64_w, i32_w]
    rfl
  refine pure_ (i := 5) (N := some 30) (v := ?_) (a' := ?_) #[true, true, true, false, true, true, false, false, false, false, false, false, false] rfl rfl (by kernel_rfl) (fun _ _ _ h => h) (Or.inl ⟨by rfl, ?_⟩) ?_ ?_
  rotate_left
  · intro w'
    go_simp
    with_reducible rfl
  rotate_left
  · simp only [Act.put, List.setIfInBounds_toArray, List.set_cons_zero, List.set_cons_succ, i64_w, i32_w]
    rfl
  refine pure_ (i := 6) (N := some 31) (v := ?_) (a' := ?_) #[true, true, true, false, true, true, true, false, false, false, false, false, false] rfl rfl (by kernel_rfl) (fun _ _ _ h => h) (Or.inl ⟨by rfl, ?_⟩) ?_ ?_
  rotate_left
  · intro w'
    go_simp
    with_reducible rfl
  rotate_left
  · simp only [Act.put, List.setIfInBounds_toArray, List.set_cons_zero, List.set_cons_succ, i64_w, i32_w]
    rfl
  refine take_ (i := 3) (N := some 28) (v := ?_) (a' := ?_) #[true, true, true, true, true, true, true, false, false, false, false, false, false] rfl rfl (by kernel_rfl) (fun _ _ _ h => h) (Or.inl ⟨by rfl, ?_⟩) hHeld ?_ ?_
  rotate_left
  · rintro w' ⟨s0, s1⟩
    go_simp
    with_reducible rfl
  rotate_left
  · simp only [Act.put, List.setIfInBounds_toArray, List.set_cons_zero, List.set_cons_succ, i64_w, i32_w]
    rfl
  refine one_ (i := 7) (N := some 32) #[true, true, true, true, true, true, true, true, false, false, false, false, false] rfl rfl (by kernel_rfl) (by decide) (fun K hK => ?_)
  refine goes_ Try.func73 (by kernel_rfl) rfl #[.pointer (some ⟨g, 1, none⟩), .int .i64 1] (by rfl) rfl rfl (by simp only [List.map_toArray, List.map_cons, List.map_nil]; rfl) ?_
  with_reducible refine ((C2.out _ (At.drew HT.out))).mono ?_
  rintro e w3 ⟨rfl, rfl⟩
  refine ⟨_, rfl, ?_⟩
  refine hK.out _ _ ⟨(At.set1 (At.drew HT.out) _).c0, (Ch.cell (Ch.set _ 1 _) hHeld.2 (by rw [HBL.out]; exact HA.out))⟩ (fun hHeld => ?_)
  clear hK K
  refine norm_ (a' := ?_) ?_ ?_
  rotate_left
  · show Act.put _ (some 32) _ = _
    simp only [Act.put, List.setIfInBounds_toArray, List.set_cons_zero, List.set_cons_succ, i64_w, i32_w]
    rfl
  refine pure_ (i := 8) (N := some 33) (v := ?_) (a' := ?_) #[true, true, true, true, true, true, true, true, true, false, false, false, false] rfl rfl (by kernel_rfl) (fun _ _ _ h => h) (Or.inl ⟨by rfl, ?_⟩) ?_ ?_
  rotate_left
  · intro w'
    go_simp
    with_reducible rfl
  rotate_left
  · simp only [Act.put, List.setIfInBounds_toArray, List.set_cons_zero, List.set_cons_succ, i64_w, i32_w]
    rfl
  refine pure_ (i := 9) (N := some 34) (v := ?_) (a' := ?_) #[true, true, true, true, true, true, true, true, true, true, false, false, false] rfl rfl (by kernel_rfl) (fun _ _ _ h => h) (Or.inl ⟨by rfl, ?_⟩) ?_ ?_
  rotate_left
  · intro w'
    go_simp
    with_reducible rfl
  rotate_left
  · simp only [Act.put, List.setIfInBounds_toArray, List.set_cons_zero, List.set_cons_succ, i64_w, i32_w]
    rfl
  refine take_ (i := 10) (N := some 35) (v := ?_) (a' := ?_) #[true, true, true, true, true, true, true, true, true, true, true, false, false] rfl rfl (by kernel_rfl) (fun _ _ _ h => h) (Or.inl ⟨by rfl, ?_⟩) hHeld ?_ ?_
  rotate_left
  · rintro w' ⟨s0, s1⟩
    go_simp
    with_reducible rfl
  rotate_left
  · simp only [Act.put, List.setIfInBounds_toArray, List.set_cons_zero, List.set_cons_succ, i64_w, i32_w]
    rfl
  refine pure_ (i := 11) (N := some 2) (v := ?_) (a' := ?_) #[true, true, true, true, true, true, true, true, true, true, true, true, false] rfl rfl (by kernel_rfl) (fun _ _ _ h => h) (Or.inl ⟨by rfl, ?_⟩) ?_ ?_
  rotate_left
  · intro w'
    go_simp
    with_reducible rfl
  rotate_left
  · simp only [Act.put, List.setIfInBounds_toArray, List.set_cons_zero, List.set_cons_succ, i64_w, i32_w]
    rfl
  refine pure_ (i := 12) (N := some 3) (v := ?_) (a' := ?_) #[true, true, true, true, true, true, true, true, true, true, true, true, true] rfl rfl (by kernel_rfl) (fun _ _ _ h => h) (Or.inl ⟨by rfl, ?_⟩) ?_ ?_
  rotate_left
  · intro w'
    go_simp
    with_reducible rfl
  rotate_left
  · simp only [Act.put, List.setIfInBounds_toArray, List.set_cons_zero, List.set_cons_succ, i64_w, i32_w]
    rfl
  refine done_ (by kernel_rfl) ?_
  go_wp2
  exact bodyPost_ret (results_tmp2 rfl _ _ _) rfl ⟨rfl, Ch.trans (Ch.drewN _ n1) (Ch.trans (Ch.set _ 2 _) (Ch.trans (Ch.drewN _ 1) (Ch.set _ 1 _))), At.set1 (At.drew HT.out) _⟩
end Go.Proofs.Ytahiphggoemdkaa.Tape
