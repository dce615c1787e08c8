/-
  Kernel and Pow of mat, walked.
-/
import Derived.Test.YtdbcgjclnfhdfaaMatI
namespace Go.Proofs.Ytdbcgjclnfhdfaa.Mat
open Go.RowKit Go.Proofs.YtdbcgjclnfhdfaaW.PrintWords Go.Proofs.YtdbcgjclnfhdfaaW.PrintLast Go.Proofs.YtdbcgjclnfhdfaaW.PrintMore Byte Sl Arr Mem Gives ArrEq
set_option linter.unusedVariables false
set_option linter.unusedSimpArgs false
set_option maxHeartbeats 4000000
set_option maxRecDepth 100000
theorem iinfo_u8 : (Try.prog.info? 5).map (fun i => (i.zero, i.size, i.bytes)) = some (some (.int .u8 0), 1, 1) := by kernel_rfl
/-- The bytes below x that are turned into 0. -/
def kerTo (f : Rows) (x : Nat) : List Int := ((List.range x).filter fun n => app f (byt n) == 0#8).map fun n : Nat => (n : Int)
theorem kerTo_next (f : Rows) (x : Nat) : kerTo f (x + 1) = kerTo f x ++ (if app f (byt x) == 0#8 then [(x : Int)] else []) := by
  unfold kerTo
  rw [List.range_succ, List.filter_append, List.map_append]
  congr 1
  cases h : app f (byt x) == 0#8 <;> simp [h]
theorem kerTo_len (f : Rows) (x : Nat) : (kerTo f x).length = cnt (fun n => app f (byt n) == 0#8) x := by
  induction x with
  | zero => rfl
  | succ x ih =>
    rw [kerTo_next, List.length_append, ih, cnt]
    cases app f (byt x) == 0#8 <;> rfl
theorem one_sl (w : World) (x : Int) : Sl .u8 (w.alloc (.cells #[.int .u8 x] 5)) (.slice (some ⟨w.heap.size, 0, none⟩) 1 1) [x] :=
  Sl.of_cells (k := .u8) (ad := ⟨w.heap.size, 0, none⟩) (c := 1) (l := [x]) (Nat.le_refl 1) (by show 1 ≤ 9223372036854775807; decide) (fun j y hj => by
    rcases j with _ | j
    · injection hj with hj
      subst hj
      rw [Addr.add_zero', cell_of_row _ w.heap.size 0 #[.int .u8 x] 5 _ (by show (w.heap.push _)[w.heap.size]? = _; rw [Array.getElem?_push_size])]; rfl
    · simp at hj)
theorem lit_run {o : Oper} {a : Act} {w : World} {y : Operand} {x : Int} (ho : o.op = .buildSlice 36 1 #[(0, y)]) (hy : a.eval y = .int .u8 x) : (execOp a.eval o).run Try.prog w = .ok (.value (.slice (some ⟨w.heap.size, 0, none⟩) [x].length [x].length)) (w.alloc (.cells [Value.int .u8 x].toArray 5)) := by
  unfold execOp
  rw [ho]
  simp only [List.map_toArray, List.map_cons, List.map_nil, hy]
  go_simp
theorem kernel_c (f : Rows) (w : World) : Calls Try.prog 26 #[matV f] w fun e w' => ∃ v, e = .returned v ∧ Sl .u8 w' v (kerTo f 256) ∧ Below w.heap.size w w' := by
  rw [matV_eq]
  have M0 := Aside0.mk (Mem.new .u8 w 23 (cells8 f))
  have B0 := Aside0.mk (below_alloc (Below.refl w.heap.size w) (.cells (cellsOf .u8 (cells8 f)) 23))
  obtain ⟨wA, hA⟩ : ∃ wA, wA = w.alloc (.cells (cellsOf .u8 (cells8 f)) 23) := ⟨_, rfl⟩
  have HA := Aside0.mk hA
  rw [← hA] at M0 B0
  have B1 := Aside0.mk (Below.refl wA.heap.size wA)
  have HO := Aside0.mk (Kd.R_nil (Kd.int .u8) 5 wA wA.heap.size (fun _ => True))
  rw [hA] at B1 HO
  have K0 := Aside0.mk (show kerTo f 0 = [] from rfl)
  clear hA
  go_enter Try.func26, Try.ntmps26
  go_wp2
  go_loopg [3, 5] 256 (fun kq v xv w' => ∃ x : Nat, x + kq = 256 ∧ xv = .int .i64 x ∧ Aside0 (Kd.R (Kd.int .u8) 5 w' wA.heap.size (fun _ => True) v (kerTo f x)) ∧ Aside0 (Below wA.heap.size wA w'))
  case atStart => exact ⟨0, by omega, rfl, by rw [K0.out, HA.out]; exact HO, by rw [HA.out]; exact B1⟩
  case round =>
    clear HO B1 K0
    obtain ⟨x, hx, rfl, HO, B1⟩ := hrel
    cases gk with
    | zero =>
      obtain rfl : x = 256 := by omega
      go_wp2
      go_ret
      exact ⟨_, rfl, Sl.of_R HO.out, below_step B0.out B1.out⟩
    | succ k1 =>
      have hxl : x < 256 := by omega
      have HX := Aside0.mk hx
      clear hx
      have hx1 : (x : Int) < 256 := by omega
      have hx3 : (0 : Int) ≤ (x : Int) := by omega
      have hw := wrap_u8_nat x hxl
      have HC := Aside0.mk (app_c f (byt x))
      rw [matV_eq, byt_I8 x hxl] at HC
      have M1 := Aside0.mk (Mem.below M0.out B1.out)
      have HL := Aside0.mk (kerTo_len f x)
      have HL2 := Aside0.mk (cnt_bound (fun n => app f (byt n) == 0#8) x)
      have hg : wA.heap.size = w.heap.size + 1 := by rw [HA.out]; exact Array.size_push ..
      cases e : app f (byt x) == 0#8 with
      | true =>
        have HE := Aside0.mk (kerTo_next f x)
        rw [e, if_pos rfl] at HE
        have e2 : app f (byt x) = 0#8 := by simpa using e
        rw [e2, show I8 0#8 = 0 from rfl] at HC
        clear e e2
        go_wp2_with (first
          | ((with_reducible refine gate_dst (N := 8) rfl ?_); refine Mem.load M1.out rfl 23 (.tmp 1) rfl rfl Try.underlying23 (by rw [cells8_length]; exact info_mat) ?_)
          | (go_at_call 12; (with_reducible refine (HC.out.q _).mono ?_); rintro e w1 ⟨rfl, hb1⟩; have HO := Aside0.mk (Kd.R_below HO.out hb1); have B1 := Aside0.mk (below_step B1.out hb1); clear hb1)
          | ((with_reducible refine gate_dst (N := 16) rfl ?_); refine Kd.R_lit (Kd.int .u8) (w0 := wA) wA.heap.size 5 ?hg (N := 16) ?hd (xs := [(x : Int)]) (inner := [.int .u8 x]) (ok := fun _ => True) (okp := fun _ => True) ?hr ?hp (fun _ hk => hk) trivial B1.out (below_size B1.out) (by show 1 ≤ 9223372036854775807; decide) ?_; (case hd => rfl); (case hg => rfl); (case hr => exact lit_run rfl rfl); (case hp => exact (Reps.one rfl (Reps.none _ _))); intro v16 w3 ho4 hb hg_ hnew_; have HO := Aside0.mk (Kd.R_below HO.out (Below.grown (Below.refl _ _) hg_ (Nat.le_refl _) (fun k hk => by cases hk))); have B1 := Aside0.mk hb; have HC2 := Aside0.mk (Sl.of_R ho4); clear hg_ hnew_ hb ho4; obtain ⟨A16, c16, rfl, h16, C16⟩ := HC2.out)
          | ((with_reducible refine gate_builtin (b := .append) (xs := #[.tmp 13, .tmp 16]) rfl ?_); at_builtin; refine Kd.R_append_rows (Kd.int .u8) (w0 := wA) wA.heap.size rfl (.tmp 13) (.tmp 16) 36 5 (.int .u8 0) 1 rfl Try.underlying36 iinfo_u8 rfl (by decide) (by decide) _ (kerTo f x) [(x : Int)] _ _ _ (fun _ => True) (fun _ => False) rfl rfl HO.out ?aR (fun _ _ h => h) (fun _ h => h.elim) (fun _ _ => trivial) B1.out (below_size B1.out) ?aL ?_; (case aR => exact C16); (case aL => have h1 := HL.out; have h2 := HL2.out; simp only [List.length_cons, List.length_nil]; omega); intro v2 w5 ho hb hg_ hat; have HO := Aside0.mk ho; have B1 := Aside0.mk hb; clear ho hb hg_ hat))
        go_roundg k1
        case measure => omega
        case rel => exact ⟨x + 1, by have := HX.out; omega, by go_num, by rw [HE.out]; exact HO, B1⟩
      | false =>
        have HE := Aside0.mk (kerTo_next f x)
        rw [e, if_neg (by decide), List.append_nil] at HE
        have e2 : (I8 (app f (byt x)) == 0) = false := by
          rw [beq_eq_false_iff_ne] at e ⊢
          exact fun h => e (I8_inj h)
        clear e
        obtain ⟨y, hy⟩ : ∃ y, y = app f (byt x) := ⟨_, rfl⟩
        rw [← hy] at HC e2
        clear hy
        go_wp2_with (first
          | ((with_reducible refine gate_dst (N := 8) rfl ?_); refine Mem.load M1.out rfl 23 (.tmp 1) rfl rfl Try.underlying23 (by rw [cells8_length]; exact info_mat) ?_)
          | (go_at_call 12; (with_reducible refine (HC.out.q _).mono ?_); rintro e w1 ⟨rfl, hb1⟩; have HO := Aside0.mk (Kd.R_below HO.out hb1); have B1 := Aside0.mk (below_step B1.out hb1)))
        go_roundg k1
        case measure => omega
        case rel => exact ⟨x + 1, by have := HX.out; omega, by go_num, by rw [HE.out]; exact HO, B1⟩
def iter (F : BitVec 8 → BitVec 8) : Nat → BitVec 8 → BitVec 8
  | 0, x => x
  | n + 1, x => F (iter F n x)
theorem iter_comm (F : BitVec 8 → BitVec 8) : ∀ n x, iter F n (F x) = F (iter F n x)
  | 0, _ => rfl
  | n + 1, x => by rw [iter, iter_comm F n x, iter]
theorem iter_twice (F : BitVec 8 → BitVec 8) : ∀ n x, iter (fun y => F (F y)) n x = iter F (2 * n) x
  | 0, _ => rfl
  | n + 1, x => by
    rw [iter, iter_twice F n x, show 2 * (n + 1) = 2 * n + 1 + 1 by omega, iter, iter]
theorem iter_congr {F G : BitVec 8 → BitVec 8} (h : ∀ x, F x = G x) : ∀ n x, iter F n x = iter G n x
  | 0, _ => rfl
  | n + 1, x => by rw [iter, iter, iter_congr h n x, h]
theorem pow_odd {f o m : Rows} {n k : Nat} (h : ∀ x, app o (iter (app m) n x) = iter (app f) k x) (hn : n % 2 = 1) (x : BitVec 8) : app (mulF o m) (iter (app (mulF m m)) (n / 2) x) = iter (app f) k x := by
  rw [mul_app, iter_congr (mul_app m m), iter_twice, ← h, show n = 2 * (n / 2) + 1 by omega, iter, show 2 * ((2 * (n / 2) + 1) / 2) = 2 * (n / 2) by omega]
theorem pow_even {f o m : Rows} {n k : Nat} (h : ∀ x, app o (iter (app m) n x) = iter (app f) k x) (hn : n % 2 = 0) (x : BitVec 8) : app o (iter (app (mulF m m)) (n / 2) x) = iter (app f) k x := by
  rw [iter_congr (mul_app m m), iter_twice, ← h, show 2 * (n / 2) = n by omega]
theorem pow_neg (f : Rows) (n : Int) (hn : n < 0) : GivesB 27 #[matV f, .int .i64 n] (matV zrow) := by
  intro w
  rw [matV_eq, matV_eq]
  have M1 := Aside0.mk (Mem.alloc (Mem.new .u8 w 23 (cells8 f)) (.cells (cellsOf .u8 (cells8 zrow)) 23))
  have M2 := Aside0.mk (Mem.new2 .u8 w (.cells (cellsOf .u8 (cells8 f)) 23) 23 (cells8 zrow))
  have HB := Aside0.mk (below_alloc (below_alloc (Below.refl w.heap.size w) (.cells (cellsOf .u8 (cells8 f)) 23)) (.cells (cellsOf .u8 (cells8 zrow)) 23))
  go_enter Try.func27, Try.ntmps27
  go_wp2_with (first
    | ((with_reducible refine gate_dst (N := 8) rfl ?_); refine wpList_build_zero rfl 23 rfl _ built8 ?_)
    | ((with_reducible refine gate_store (t := 23) (p := 4) rfl ?_); refine Mem.store (l' := cells8 zrow) M2.out rfl 23 (.tmp 4) (.tmp 8) rfl rfl rfl (by rw [cells8_length]; exact info_mat) (by simp only [cells8_length]) ?_))
  refine bodyPost_ret (v := .agg (cellsOf .u8 (cells8 (zrow)))) (results_cell_row rfl _ _ _ _ _ _ _ rfl (Mem.put M2.out (cells8 (zrow))) Try.underlying23 rfl (by rw [cellsOf_size, cells8_length]; exact info_mat)) rfl ⟨rfl, below_setRow HB.out (by omega) _⟩
theorem pow_c (f : Rows) (k : Nat) (hk : k < 1000) (w : World) : Calls Try.prog 27 #[matV f, .int .i64 k] w fun e w' => ∃ g, e = .returned (matV g) ∧ (∀ x, app g x = iter (app f) k x) ∧ Below w.heap.size w w' := by
  rw [matV_eq]
  have M1 := Aside0.mk (Mem.alloc (Mem.new .u8 w 23 (cells8 f)) (.cells (cellsOf .u8 (cells8 zrow)) 23))
  have M2 := Aside0.mk (Mem.new2 .u8 w (.cells (cellsOf .u8 (cells8 f)) 23) 23 (cells8 zrow))
  have HB := Aside0.mk (below_alloc (below_alloc (Below.refl w.heap.size w) (.cells (cellsOf .u8 (cells8 f)) 23)) (.cells (cellsOf .u8 (cells8 zrow)) 23))
  have HC := Aside0.mk one_c
  rw [matV_eq] at HC
  have hk0 : (0 : Int) ≤ (k : Int) := by omega
  go_enter Try.func27, Try.ntmps27
  go_wp2_with (first
    | (go_at_call 17; (with_reducible refine (HC.out.q _).mono ?_); rintro e w1 ⟨rfl, hb1⟩; have M1 := Aside0.mk (Mem.below M1.out hb1); have M2 := Aside0.mk (Mem.below M2.out hb1); have HB := Aside0.mk (below_step HB.out hb1); have N1 := Aside0.mk (Mem.alloc M1.out (.cells (cellsOf .u8 (cells8 zrow)) 23)); have N2 := Aside0.mk (Mem.alloc M2.out (.cells (cellsOf .u8 (cells8 zrow)) 23)); have N5 := Aside0.mk (Mem.new .u8 w1 23 (cells8 zrow)); have NB := Aside0.mk (below_alloc HB.out (.cells (cellsOf .u8 (cells8 zrow)) 23)); have hg5 := M2.out.lt; have HS := Aside0.mk HB.out.size)
    | ((with_reducible refine gate_store (t := 23) (p := 5) rfl ?_); refine Mem.store (l' := cells8 oneF) N5.out rfl 23 (.tmp 5) (.tmp 9) rfl rfl rfl (by rw [cells8_length]; exact info_mat) (by simp only [cells8_length]) ?_))
  have P1 := Aside0.mk (Mem.row N1.out (g' := w1.heap.size) (by omega) (cellsOf .u8 (cells8 oneF)))
  have P2 := Aside0.mk (Mem.row N2.out (g' := w1.heap.size) (by omega) (cellsOf .u8 (cells8 oneF)))
  have P5 := Aside0.mk (Mem.put N5.out (cells8 oneF))
  have PB := Aside0.mk (below_setRow NB.out (g := w1.heap.size) HS.out (cellsOf .u8 (cells8 oneF)))
  have HG := Aside0.mk hg5
  clear M1 M2 HB N1 N2 N5 NB hg5
  generalize hg : w1.heap.size = g5 at *
  clear hg
  dsimp only [Act.put]
  go_loopg [1] k (fun kq nv w' => ∃ (o m : Rows), kq ≤ k ∧ nv = .int .i64 kq ∧ Aside0 (∀ x, app o (iter (app m) kq x) = iter (app f) k x) ∧ Aside0 (Mem .u8 w' w.heap.size 23 (cells8 m)) ∧ Aside0 (Mem .u8 w' (w.heap.size + 1) 23 (cells8 zrow)) ∧ Aside0 (Mem .u8 w' g5 23 (cells8 o)) ∧ Aside0 (Below w.heap.size w w'))
  case atStart => exact ⟨oneF, f, Nat.le_refl _, rfl, ⟨fun x => by rw [one_app]⟩, P1, P2, P5, PB⟩
  case round =>
    clear P1 P2 P5 PB
    obtain ⟨o, m, hle, rfl, HI, M1, M2, M5, HB⟩ := hrel
    have hg5 := HG.out
    have hsz := HS.out
    cases gk with
    | zero =>
      go_wp2_with (first
        | ((with_reducible refine gate_dst (N := 23) rfl ?_); refine Mem.load M5.out rfl 23 (.tmp 5) rfl rfl Try.underlying23 (by rw [cells8_length]; exact info_mat) ?_)
        | ((with_reducible refine gate_store (t := 23) (p := 4) rfl ?_); refine Mem.store (l' := cells8 o) M2.out rfl 23 (.tmp 4) (.tmp 23) rfl rfl rfl (by rw [cells8_length]; exact info_mat) (by simp only [cells8_length]) ?_))
      refine bodyPost_ret (v := .agg (cellsOf .u8 (cells8 o))) (results_cell_row rfl _ _ _ _ _ _ _ rfl (Mem.put M2.out (cells8 o)) Try.underlying23 rfl (by rw [cellsOf_size, cells8_length]; exact info_mat)) rfl ?_
      exact ⟨o, rfl, HI.out, below_setRow HB.out (by omega) _⟩
    | succ n =>
      have hn0 : (0 : Int) < ((n + 1 : Nat) : Int) := by omega
      have ha := and_i64_one (n + 1) (by omega)
      have hd1 : ((n + 1 : Nat) : Int) / 2 = (((n + 1) / 2 : Nat) : Int) := by omega
      have HD := Aside0.mk (show (n + 1) / 2 < n + 1 by omega)
      have HC := Aside0.mk (mul_c o m)
      have HC2 := Aside0.mk (mul_c m m)
      rw [matV_eq, matV_eq, matV_eq] at HC
      rw [matV_eq, matV_eq] at HC2
      rcases Nat.mod_two_eq_zero_or_one (n + 1) with hp | hp
      · have HI2 := Aside0.mk (pow_even HI.out hp)
        rw [hp] at ha
        have ha1 : Go.bits .and .i64 ((n + 1 : Nat) : Int) 1 = 0 := ha
        clear ha hp HI
        generalize (n + 1) / 2 = q at *
        generalize hN : n + 1 = N at *
        clear hN
        have hdv : (N : Int) / 2 = (q : Int) := hd1
        generalize mulF m m = mm at *
        go_wp2_with (first
          | ((with_reducible refine gate_dst (N := 20) rfl ?_); refine Mem.load M1.out rfl 23 (.tmp 2) rfl rfl Try.underlying23 (by rw [cells8_length]; exact info_mat) ?_)
          | ((with_reducible refine gate_dst (N := 21) rfl ?_); refine Mem.load M1.out rfl 23 (.tmp 2) rfl rfl Try.underlying23 (by rw [cells8_length]; exact info_mat) ?_)
          | (go_at_call 13; (with_reducible refine (HC2.out.q _).mono ?_); rintro e w2 ⟨rfl, hb2⟩; have M1 := Aside0.mk (Mem.below M1.out hb2); have M2 := Aside0.mk (Mem.below M2.out hb2); have M5 := Aside0.mk (Mem.below M5.out hb2); have HB := Aside0.mk (below_step HB.out hb2))
          | ((with_reducible refine gate_store (t := 23) (p := 2) rfl ?_); refine Mem.store (l' := cells8 mm) M1.out rfl 23 (.tmp 2) (.tmp 22) rfl rfl rfl (by rw [cells8_length]; exact info_mat) (by simp only [cells8_length]) ?_))
        go_roundg q
        case measure => exact HD.out
        case rel => exact ⟨o, mm, by have := HD.out; omega, by go_num, HI2, ⟨Mem.put M1.out (cells8 mm)⟩, ⟨Mem.row M2.out (by omega) _⟩, ⟨Mem.row M5.out (by omega) _⟩, ⟨below_setRow HB.out (Nat.le_refl _) _⟩⟩
      · have HI2 := Aside0.mk (pow_odd HI.out hp)
        rw [hp] at ha
        have ha1 : Go.bits .and .i64 ((n + 1 : Nat) : Int) 1 = 1 := ha
        clear ha hp HI
        generalize (n + 1) / 2 = q at *
        generalize hN : n + 1 = N at *
        clear hN
        have hdv : (N : Int) / 2 = (q : Int) := hd1
        generalize mulF m m = mm at *
        generalize mulF o m = om at *
        go_wp2_with (first
          | ((with_reducible refine gate_dst (N := 17) rfl ?_); refine Mem.load M5.out rfl 23 (.tmp 5) rfl rfl Try.underlying23 (by rw [cells8_length]; exact info_mat) ?_)
          | ((with_reducible refine gate_dst (N := 18) rfl ?_); refine Mem.load M1.out rfl 23 (.tmp 2) rfl rfl Try.underlying23 (by rw [cells8_length]; exact info_mat) ?_)
          | ((with_reducible refine gate_dst (N := 20) rfl ?_); refine Mem.load M1.out rfl 23 (.tmp 2) rfl rfl Try.underlying23 (by rw [cells8_length]; exact info_mat) ?_)
          | ((with_reducible refine gate_dst (N := 21) rfl ?_); refine Mem.load M1.out rfl 23 (.tmp 2) rfl rfl Try.underlying23 (by rw [cells8_length]; exact info_mat) ?_)
          | (go_at_call 13; (with_reducible refine (HC.out.q _).mono ?_); rintro e w2 ⟨rfl, hb2⟩; have M1 := Aside0.mk (Mem.below M1.out hb2); have M2 := Aside0.mk (Mem.below M2.out hb2); have M5 := Aside0.mk (Mem.below M5.out hb2); have HB := Aside0.mk (below_step HB.out hb2))
          | ((with_reducible refine gate_store (t := 23) (p := 5) rfl ?_); refine Mem.store (l' := cells8 om) M5.out rfl 23 (.tmp 5) (.tmp 19) rfl rfl rfl (by rw [cells8_length]; exact info_mat) (by simp only [cells8_length]) ?_; have M1 := Aside0.mk (Mem.row M1.out (g' := g5) (by omega) (cellsOf .u8 (cells8 om))); have M2 := Aside0.mk (Mem.row M2.out (g' := g5) (by omega) (cellsOf .u8 (cells8 om))); have M5 := Aside0.mk (Mem.put M5.out (cells8 om)); have HB := Aside0.mk (below_setRow HB.out (g := g5) (by omega) (cellsOf .u8 (cells8 om))))
          | (go_at_call 13; (with_reducible refine (HC2.out.q _).mono ?_); rintro e w3 ⟨rfl, hb3⟩; have M1 := Aside0.mk (Mem.below M1.out hb3); have M2 := Aside0.mk (Mem.below M2.out hb3); have M5 := Aside0.mk (Mem.below M5.out hb3); have HB := Aside0.mk (below_step HB.out hb3))
          | ((with_reducible refine gate_store (t := 23) (p := 2) rfl ?_); refine Mem.store (l' := cells8 mm) M1.out rfl 23 (.tmp 2) (.tmp 22) rfl rfl rfl (by rw [cells8_length]; exact info_mat) (by simp only [cells8_length]) ?_))
        go_roundg q
        case measure => exact HD.out
        case rel => exact ⟨om, mm, by have := HD.out; omega, by go_num, HI2, ⟨Mem.put M1.out (cells8 mm)⟩, ⟨Mem.row M2.out (by omega) _⟩, ⟨Mem.row M5.out (by omega) _⟩, ⟨below_setRow HB.out (Nat.le_refl _) _⟩⟩
end Go.Proofs.Ytdbcgjclnfhdfaa.Mat
