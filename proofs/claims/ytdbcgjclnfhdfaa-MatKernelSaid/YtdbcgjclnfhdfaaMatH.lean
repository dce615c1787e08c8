/-
  The document's Told, Rank and Inv, walked.
-/
import Derived.Test.YtdbcgjclnfhdfaaMatG
namespace Go.Proofs.Ytdbcgjclnfhdfaa.Mat
open Go.RowKit Go.Proofs.YtdbcgjclnfhdfaaW.PrintWords Go.Proofs.YtdbcgjclnfhdfaaW.PrintLast Go.Proofs.YtdbcgjclnfhdfaaW.PrintMore Byte Sl Arr Mem Gives ArrEq
set_option linter.unusedVariables false
set_option linter.unusedSimpArgs false
set_option maxHeartbeats 4000000
set_option maxRecDepth 100000
/-! ### an array of bools in memory -/
def tab (g : Nat → Bool) : Array Value := ((List.range 256).map fun y => Value.bool (g y)).toArray
theorem tab_size (g : Nat → Bool) : (tab g).size = 256 := by simp [tab]
theorem tab_get (g : Nat → Bool) (i : Nat) (h : i < 256) : (tab g)[i]? = some (.bool (g i)) := by simp [tab, h]
theorem tab_set (g : Nat → Bool) (i : Nat) (h : i < 256) (b : Bool) : (tab g).setIfInBounds i (.bool b) = tab fun y => if y = i then b else g y := by
  refine Array.ext_getElem? fun k => ?_
  rw [Array.getElem?_setIfInBounds, tab_size]
  rcases Nat.lt_or_ge k 256 with hk | hk
  · rw [tab_get _ _ hk, tab_get _ _ hk]
    by_cases e : i = k
    · subst e; simp [h]
    · simp [e, Ne.symm e]
  · rw [Array.getElem?_eq_none (by rw [tab_size]; exact hk), Array.getElem?_eq_none (by rw [tab_size]; exact hk)]
    split <;> simp
    omega
theorem tab_one (g : Nat → Bool) : (tab g).all (·.oneCell') = true := by simp [tab, Value.oneCell']
theorem tab_congr {g h : Nat → Bool} (e : ∀ i, i < 256 → g i = h i) : tab g = tab h := by
  refine Array.ext_getElem? fun k => ?_
  rcases Nat.lt_or_ge k 256 with hk | hk
  · rw [tab_get _ _ hk, tab_get _ _ hk, e k hk]
  · rw [Array.getElem?_eq_none (by rw [tab_size]; exact hk), Array.getElem?_eq_none (by rw [tab_size]; exact hk)]
def Tab (w : World) (b : Nat) (g : Nat → Bool) : Prop := w.heap[b]? = some (.cells (tab g) 67 (0, 0))
variable {w : World} {b : Nat} {g : Nat → Bool}
theorem Tab.lt (h : Tab w b g) : b < w.heap.size := (Array.getElem?_eq_some_iff.1 h).1
theorem Tab.cell (h : Tab w b g) (i : Nat) (hi : i < 256) : w.cell? ⟨b, i, none⟩ = some (.bool (g i)) := by
  rw [cell_of_row w b i _ _ _ h, tab_get _ _ hi]
theorem Tab.free (h : Tab w b g) (i : Nat) : w.frozen? ⟨b, i, none⟩ = false := by
  unfold World.frozen?
  rw [h]
  simp
theorem Tab.new (w : World) (g : Nat → Bool) : Tab (w.alloc (.cells (tab g) 67)) w.heap.size g := by
  show (w.heap.push _)[w.heap.size]? = _
  rw [Array.getElem?_push_size]
theorem Tab.below (h : Tab w b g) {w' : World} (hb : Below w.heap.size w w') : Tab w' b g := (hb.block b h.lt).trans h
theorem Tab.alloc (h : Tab w b g) (o : Obj) : Tab (w.alloc o) b g := h.below (below_alloc (Below.refl _ _) o)
theorem Tab.drew (h : Tab w b g) : Tab w.drew b g := h
theorem Tab.put (h : Tab w b g) (g' : Nat → Bool) : Tab (w.setRow b (tab g')) b g' := setRow_heap w b _ _ _ _ h
theorem Tab.row (h : Tab w b g) {b' : Nat} (hne : b' ≠ b) (cs : Array Value) : Tab (w.setRow b' cs) b g := by
  unfold Tab at h ⊢
  rw [setRow_other w b' b cs (Ne.symm hne)]; exact h
theorem Tab.other (h : Tab w b g) {b' : Nat} (hne : b' ≠ b) (i : Nat) (v : Value) : Tab (w.setCell ⟨b', i, none⟩ v) b g := by
  unfold Tab at h ⊢
  show (w.heap.modify b' _)[b]? = _
  rw [Array.getElem?_modify, if_neg hne]; exact h
theorem Tab.set (h : Tab w b g) (i : Nat) (hi : i < 256) (v : Bool) : Tab (w.setCell ⟨b, i, none⟩ (.bool v)) b (fun y => if y = i then v else g y) := by
  have hlt := h.lt
  unfold Tab at h ⊢
  rw [Array.getElem?_eq_getElem hlt] at h
  have h0 := Option.some.inj h
  show (w.heap.modify b _)[b]? = _
  rw [Array.getElem?_modify, if_pos rfl, Array.getElem?_eq_getElem hlt, h0, ← tab_set g i hi v]
  rfl
theorem zero_tab : (Try.prog.info? 67).map (fun i => (i.zero, i.size)) = some (some (.agg (tab fun _ => false)), 256) := by kernel_rfl
theorem built_tab : Try.prog.built 67 [] = some (tab fun _ => false) := by kernel_rfl
theorem info_tab : (Try.prog.info? 67).map (·.size) = some 256 := by
  have := zero_tab
  cases h : Try.prog.info? 67 with
  | none => rw [h] at this; cases this
  | some i => rw [h] at this; injection this with this; injection this with _ h2; simp [h2]
theorem alloc_tab {ops : Array Oper} {rest : List Oper} {o : Oper} {a : Act} {w : World} {Q : Exit → Act → World → Prop} (N : Nat) (hN : w.heap.size = N) (hg : o.guard = none) (ho : o.op = .alloc 67)
    (h : wpList Try.prog ops Q rest (a.put o.dst (.pointer (some ⟨N, 0, none⟩))) (w.alloc (.cells (tab fun _ => false) 67))) : wpList Try.prog ops Q (o :: rest) a w := by
  subst hN
  refine wpList_plain hg fun K hK => ?_
  have hz := zero_tab
  cases hi : Try.prog.info? 67 with
  | none => rw [hi] at hz; cases hz
  | some i =>
    rw [hi] at hz
    injection hz with hz
    injection hz with h1 h2
    have hrun : (execOp a.eval o).run Try.prog w = .ok (.value (.pointer (some ⟨w.heap.size, 0, none⟩))) (w.alloc (.cells (tab fun _ => false) 67)) := by
      unfold execOp
      simp [ho, Instr.alloc, zeroValue, typeInfo, hi, h1, newVar, newRow, Value.cells]
    unfold Oper.wp
    rw [hrun, Oper.upon_value]
    exact hK _ _ h
theorem load_tab {ops : Array Oper} {rest : List Oper} {o : Oper} {a : Act} {w : World} {Q : Exit → Act → World → Prop} (h : Tab w b g) (hgd : o.guard = none) (x : Operand) (ho : o.op = .load 67 x) (hx : a.eval x = .pointer (some ⟨b, 0, none⟩))
    (hK : wpList Try.prog ops Q rest (a.put o.dst (.agg (tab g))) w) : wpList Try.prog ops Q (o :: rest) a w :=
  wpList_load_row hgd 67 x ho b hx 67 (tab g) (0, 0) _ h Try.underlying67 rfl (by rw [tab_size]; exact info_tab) hK
theorem store_tab {ops : Array Oper} {rest : List Oper} {o : Oper} {a : Act} {w : World} {Q : Exit → Act → World → Prop} {g' : Nat → Bool} (h : Tab w b g) (hgd : o.guard = none) (x y : Operand) (ho : o.op = .store 67 x y) (hx : a.eval x = .pointer (some ⟨b, 0, none⟩)) (hy : a.eval y = .agg (tab g'))
    (hK : wpList Try.prog ops Q rest (a.put o.dst undef) (w.setRow b (tab g'))) : wpList Try.prog ops Q (o :: rest) a w :=
  wpList_store_row hgd 67 x y ho b (tab g') hx hy 67 (tab g) h (by rw [tab_size]; exact info_tab) (by rw [tab_size, tab_size]) (tab_one g') hK
/-! ### which bytes are told -/
def seen (f : Rows) (x y : Nat) : Bool := (List.range x).any fun n => app f (byt n) == byt y
theorem seen_zero (f : Rows) (y : Nat) : seen f 0 y = false := rfl
theorem seen_next (f : Rows) (x y : Nat) : seen f (x + 1) y = (seen f x y || app f (byt x) == byt y) := by
  unfold seen
  rw [List.range_succ, List.any_append]
  simp
theorem seen_end (f : Rows) : cnt (seen f 256) 256 = imN f := rfl
theorem seen_tab (f : Rows) (x : Nat) : (tab fun y => if y = (app f (byt x)).toNat then true else seen f x y) = tab (seen f (x + 1)) := tab_congr fun y hy => by
  rw [seen_next]
  by_cases h : y = (app f (byt x)).toNat
  · subst h
    rw [if_pos rfl, byt_toNat]; simp
  · rw [if_neg h]
    have : (app f (byt x) == byt y) = false := by
      rw [beq_eq_false_iff_ne]
      intro e
      exact h (by rw [e, toNat_byt y hy])
    rw [this, Bool.or_false]
theorem seen_cnt (f : Rows) (x : Nat) : cnt (seen f (x + 1)) 256 = cnt (seen f x) 256 + (if seen f x (app f (byt x)).toNat then 0 else 1) := by
  cases h : seen f x (app f (byt x)).toNat
  · rw [cnt_without (seen f (x + 1)) (app f (byt x)).toNat 256 (app f (byt x)).isLt (by rw [seen_next, byt_toNat]; simp)]
    rw [cnt_congr (Q := seen f x) 256 (fun i hi => ?_)]
    · simp
    · rw [seen_next]
      by_cases e : i = (app f (byt x)).toNat
      · subst e; rw [h]; simp
      · have : (app f (byt x) == byt i) = false := by
          rw [beq_eq_false_iff_ne]
          intro e2
          exact e (by rw [e2, toNat_byt i hi])
        rw [this]; simp [e]
  · rw [cnt_congr (Q := seen f x) 256 (fun i hi => ?_)]
    · simp
    · rw [seen_next]
      by_cases e : i = (app f (byt x)).toNat
      · subst e; rw [h]; simp
      · have : (app f (byt x) == byt i) = false := by
          rw [beq_eq_false_iff_ne]
          intro e2
          exact e (by rw [e2, toNat_byt i hi])
        rw [this]; simp
theorem cnt_bound (P : Nat → Bool) (n : Nat) : cnt P n ≤ n := by have := cnt_add P n; omega
theorem byt_I8 (x : Nat) (h : x < 256) : I8 (byt x) = (x : Int) := by unfold I8; rw [toNat_byt x h]
theorem told_c (f : Rows) (w : World) : Calls Try.prog 60 #[matV f] w fun e w' => ∃ g, e = .returned (.tuple #[.agg (tab g), .int .i64 (imN f : Nat)]) ∧ Below w.heap.size w w' := by
  rw [matV_eq]
  have M1 := Aside0.mk (Mem.new .u8 w 23 (cells8 f))
  have HB := Aside0.mk (below_alloc (Below.refl w.heap.size w) (.cells (cellsOf .u8 (cells8 f)) 23))
  have T2 := Aside0.mk (Tab.new (w.alloc (.cells (cellsOf .u8 (cells8 f)) 23)) (fun _ => false))
  have hs : (w.alloc (.cells (cellsOf .u8 (cells8 f)) 23)).heap.size = w.heap.size + 1 := Array.size_push ..
  rw [hs] at T2
  have M1 := Aside0.mk (Mem.alloc M1.out (.cells (tab fun _ => false) 67))
  have HB := Aside0.mk (below_alloc HB.out (.cells (tab fun _ => false) 67))
  have T4 := Aside0.mk (Tab.new ((w.alloc (.cells (cellsOf .u8 (cells8 f)) 23)).alloc (.cells (tab fun _ => false) 67)) (fun _ => false))
  have hs2 : ((w.alloc (.cells (cellsOf .u8 (cells8 f)) 23)).alloc (.cells (tab fun _ => false) 67)).heap.size = w.heap.size + 2 := by
    show ((w.heap.push _).push _).size = _
    simp
  rw [hs2] at T4
  have T2 := Aside0.mk (Tab.alloc T2.out (.cells (tab fun _ => false) 67))
  have M1 := Aside0.mk (Mem.alloc M1.out (.cells (tab fun _ => false) 67))
  have HB := Aside0.mk (below_alloc HB.out (.cells (tab fun _ => false) 67))
  have HS1 := Aside0.mk hs
  have HS2 := Aside0.mk hs2
  clear hs hs2
  go_enter Try.func60, Try.ntmps60
  go_wp2_with (first
    | ((with_reducible refine gate_dst (N := 2) rfl ?_); refine alloc_tab (w.heap.size + 1) HS1.out rfl rfl ?_)
    | ((with_reducible refine gate_dst (N := 8) rfl ?_); refine wpList_build_zero rfl 67 rfl _ built_tab ?_)
    | ((with_reducible refine gate_dst (N := 4) rfl ?_); refine alloc_tab (w.heap.size + 2) HS2.out rfl rfl ?_; (with_reducible refine gate_store (t := 67) (p := 4) rfl ?_); refine store_tab (g' := (fun _ => false)) T4.out rfl (.tmp 4) (.tmp 8) rfl rfl rfl ?_))
  have N1 := Aside0.mk (Mem.row M1.out (g' := w.heap.size + 2) (by omega) (tab fun _ => false))
  have N2 := Aside0.mk (Tab.row T2.out (b' := w.heap.size + 2) (by omega) (tab fun _ => false))
  have N4 := Aside0.mk (Tab.put T4.out (fun _ => false))
  have NB := Aside0.mk (below_setRow HB.out (g := w.heap.size + 2) (by omega) (tab fun _ => false))
  clear M1 T2 T4 HB
  have C0 := Aside0.mk (show cnt (seen f 0) 256 = 0 from by
    have e : ∀ n, cnt (seen f 0) n = 0 := fun n => by
      induction n with
      | zero => rfl
      | succ n ih => rw [cnt, ih]; rfl
    exact e _)
  go_loopg [5, 6] 256 (fun kq nv iv w' => ∃ x : Nat, x + kq = 256 ∧ nv = .int .i64 (cnt (seen f x) 256 : Nat) ∧ iv = .int .i64 x ∧ Aside0 (Mem .u8 w' w.heap.size 23 (cells8 f)) ∧ Aside0 (Tab w' (w.heap.size + 1) (fun _ => false)) ∧ Aside0 (Tab w' (w.heap.size + 2) (seen f x)) ∧ Aside0 (Below w.heap.size w w'))
  case atStart => exact ⟨0, by omega, by rw [C0.out]; rfl, rfl, N1, N2, N4, NB⟩
  case round =>
    clear N1 N2 N4 NB C0
    obtain ⟨x, hx, rfl, rfl, M1, T2, T4, HB⟩ := hrel
    cases gk with
    | zero =>
      obtain rfl : x = 256 := by omega
      rw [seen_end]
      go_wp2_with (first
        | ((with_reducible refine gate_dst (N := 25) rfl ?_); refine load_tab T4.out rfl (.tmp 4) rfl rfl ?_)
        | ((with_reducible refine gate_store (t := 67) (p := 2) rfl ?_); refine store_tab (g' := (seen f 256)) T2.out rfl (.tmp 2) (.tmp 25) rfl rfl rfl ?_))
      refine bodyPost_ret (results_ct rfl _ _ _ _ _ _ _ rfl (Tab.put T2.out (seen f 256)) Try.underlying67 rfl (by rw [tab_size]; exact info_tab)) rfl ⟨⟨seen f 256, rfl⟩, below_setRow HB.out (by omega) _⟩
    | succ k1 =>
      have hlt : x < 256 := by omega
      have HX := Aside0.mk hx
      clear hx
      have hb1 : (x : Int) < 256 := by omega
      have hb3 : (0 : Int) ≤ (x : Int) := by omega
      have hw := wrap_u8_nat x hlt
      have HC := Aside0.mk (rapp_c f (byt x))
      rw [matV_eq, byt_I8 x hlt] at HC
      have HV := Aside0.mk (seen_cnt f x)
      have HT := Aside0.mk (seen_tab f x)
      obtain ⟨y, hy⟩ : ∃ y : Nat, y = (app f (byt x)).toNat := ⟨_, rfl⟩
      have hyl : y < 256 := by rw [hy]; exact (app f (byt x)).isLt
      have hI : I8 (app f (byt x)) = (y : Int) := by rw [hy]; rfl
      rw [hI] at HC
      rw [← hy] at HV HT
      clear hy hI
      have hy1 : (y : Int) < 256 := by omega
      have hy3 : (0 : Int) ≤ (y : Int) := by omega
      have hn := cnt_bound (seen f x) 256
      cases hs : seen f x y with
      | false =>
        rw [hs] at HV
        rw [if_neg (by decide)] at HV
        have HS := Aside0.mk hs
        clear hs
        generalize cnt (seen f x) 256 = n at *
        go_wp2_with (first
          | ((with_reducible refine gate_dst (N := 13) rfl ?_); refine Mem.load M1.out rfl 23 (.tmp 1) rfl rfl Try.underlying23 (by rw [cells8_length]; exact info_mat) ?_)
          | (go_at_call 21; (with_reducible refine (HC.out.q _).mono ?_); rintro e w1 ⟨rfl, hb1⟩; have M1 := Aside0.mk (Mem.below M1.out hb1); have HB := Aside0.mk (below_step HB.out hb1); have T2 := Aside0.mk (Tab.below T2.out hb1); have T4 := Aside0.mk (Tab.below T4.out hb1); have hc := T4.out.cell y hyl; rw [HS.out] at hc; have hf := T4.out.free y))
        go_roundg k1
        case measure => omega
        case rel => exact ⟨x + 1, by have := HX.out; omega, by rw [HV.out]; go_num, by go_num, ⟨Mem.other M1.out (g' := w.heap.size + 2) (by omega) _ _⟩, ⟨Tab.other T2.out (b' := w.heap.size + 2) (by omega) _ _⟩, ⟨by unfold Tab; rw [← HT.out]; exact Tab.set T4.out y hyl true⟩, ⟨below_set HB.out (by omega)⟩⟩
      | true =>
        rw [hs] at HV
        rw [if_pos rfl, Nat.add_zero] at HV
        have HS := Aside0.mk hs
        clear hs
        generalize cnt (seen f x) 256 = n at *
        go_wp2_with (first
          | ((with_reducible refine gate_dst (N := 13) rfl ?_); refine Mem.load M1.out rfl 23 (.tmp 1) rfl rfl Try.underlying23 (by rw [cells8_length]; exact info_mat) ?_)
          | (go_at_call 21; (with_reducible refine (HC.out.q _).mono ?_); rintro e w1 ⟨rfl, hb1⟩; have M1 := Aside0.mk (Mem.below M1.out hb1); have HB := Aside0.mk (below_step HB.out hb1); have T2 := Aside0.mk (Tab.below T2.out hb1); have T4 := Aside0.mk (Tab.below T4.out hb1); have hc := T4.out.cell y hyl; rw [HS.out] at hc; have hf := T4.out.free y))
        go_roundg k1
        case measure => omega
        case rel => exact ⟨x + 1, by have := HX.out; omega, by rw [HV.out, Nat.add_zero], by go_num, ⟨Mem.other M1.out (g' := w.heap.size + 2) (by omega) _ _⟩, ⟨Tab.other T2.out (b' := w.heap.size + 2) (by omega) _ _⟩, ⟨by unfold Tab; rw [← HT.out]; exact Tab.set T4.out y hyl true⟩, ⟨below_set HB.out (by omega)⟩⟩
theorem rrank_c (f : Rows) : GivesB 25 #[matV f] (.int .i64 (rank f : Nat)) := by
  intro w
  rw [matV_eq]
  have M1 := Aside0.mk (Mem.new .u8 w 23 (cells8 f))
  have HB := Aside0.mk (below_alloc (Below.refl w.heap.size w) (.cells (cellsOf .u8 (cells8 f)) 23))
  have HC := Aside0.mk (told_c f)
  rw [matV_eq] at HC
  have HR := Aside0.mk (rank_le f)
  have HI := imN_rank f
  rw [HI] at HC
  clear HI
  obtain ⟨p, hp⟩ : ∃ p, p = 2 ^ rank f := ⟨_, rfl⟩
  rw [← hp] at HC
  have HP := Aside0.mk hp
  clear hp
  go_enter Try.func25, Try.ntmps25
  go_wp2_with (first
    | ((with_reducible refine gate_dst (N := 7) rfl ?_); refine Mem.load M1.out rfl 23 (.tmp 1) rfl rfl Try.underlying23 (by rw [cells8_length]; exact info_mat) ?_)
    | (go_at_call 60; (with_reducible refine (HC.out _).mono ?_); rintro e w1 ⟨g, rfl, hb1⟩; have HB := Aside0.mk (below_alloc (below_step HB.out hb1) (.cells (tab fun _ => false) 67)); have T := Aside0.mk (Tab.new w1 (fun _ => false)); have HS := Aside0.mk hb1.size)
    | ((with_reducible refine gate_dst (N := 3) rfl ?_); refine alloc_tab (w1.heap.size) rfl rfl rfl ?_; (with_reducible refine gate_store (t := 67) (p := 3) rfl ?_); refine store_tab (g' := g) T.out rfl (.tmp 3) (.tmp 9) rfl rfl rfl ?_))
  have NB := Aside0.mk (below_setRow HB.out (g := w1.heap.size) (Nat.le_trans (below_alloc (Below.refl w.heap.size w) (.cells (cellsOf .u8 (cells8 f)) 23)).size HS.out) (tab g))
  clear HB T
  go_loopg [4, 5] (rank f) (fun kq pv jv w' => ∃ j p : Nat, j + kq = rank f ∧ p = 2 ^ kq ∧ pv = .int .i64 p ∧ jv = .int .i64 j ∧ Aside0 (Below w.heap.size w w'))
  case atStart => exact ⟨0, p, by omega, HP.out, rfl, rfl, NB⟩
  case round =>
    clear NB
    obtain ⟨j, p, hj, hp, rfl, rfl, HB⟩ := hrel
    have hr := HR.out
    cases gk with
    | zero =>
      obtain rfl : j = rank f := by omega
      have hp1 : p = 1 := hp
      subst hp1
      clear hp hj
      go_wp2
      go_ret
      exact ⟨rfl, HB.out⟩
    | succ k1 =>
      obtain ⟨q, hq⟩ : ∃ q, q = 2 ^ k1 := ⟨_, rfl⟩
      have hpq : p = 2 * q := by rw [hp, hq, Nat.pow_succ]; omega
      have hq1 : 1 ≤ q := by rw [hq]; exact Nat.one_le_two_pow
      have hq2 : q ≤ 256 := by rw [hq]; exact Nat.pow_le_pow_right (by decide) (by omega : k1 ≤ 8)
      have HJ := Aside0.mk hj
      have HQ := Aside0.mk hq
      have hjb : j < 9 := by omega
      clear hj hq hp
      have hp1 : 1 < (p : Int) := by omega
      have htd : Int.tdiv (p : Int) 2 = (q : Int) := by rw [Int.tdiv_eq_ediv_of_nonneg (by omega)]; omega
      have hed : (p : Int) / 2 = (q : Int) := by omega
      have hw1 : IntKind.i64.wrap (q : Int) = (q : Int) := by rw [IntKind.wrap_i64]; omega
      go_wp2
      go_roundg k1
      case measure => omega
      case rel => exact ⟨j + 1, q, by have := HJ.out; omega, HQ.out, by go_num, by go_num, HB⟩
end Go.Proofs.Ytdbcgjclnfhdfaa.Mat
