/-
  How many ops there are of each kind: the program's and the document's, walked. No condition.
-/
import Derived.Test.YtphdlidaigalkaaPTtx
import Derived.Test.YtphdlidaigalkaaRightT
import Derived.Test.YtphdlidaigalkaaSl
namespace Go.Proofs.Ytphdlidaigalkaa.TallyT
open Go.RowKit Go.Proofs.Ytphdlidaigalkaa.PTt Go.Proofs.YtphdlidaigalkaaW.PrintWords Go.Proofs.YtphdlidaigalkaaW.PrintLast Go.Proofs.YtphdlidaigalkaaW.PrintMore Gives Byte RightT Mem Arr
set_option linter.unusedVariables false
set_option linter.unusedSimpArgs false
/-! ### plain -/
def kindN (k : Int) : Nat := if k < 1 ∨ 12 < k then 0 else k.toNat
def bump (c : List Int) (k : Int) : List Int := c.set (kindN k) (wrap64 (c.getD (kindN k) 0 + 1))
def z13 : List Int := List.replicate 13 0
def tallyN (l : List S53) : Nat → List Int
  | 0 => z13
  | j + 1 => bump (tallyN l j) (rd_T53 l (j : Int)).f0
def tallyL (l : List S53) : List Int := tallyN l l.length
theorem bump_length (c : List Int) (k : Int) : (bump c k).length = c.length := by unfold bump; rw [List.length_set]
theorem tallyN_length (l : List S53) : ∀ j, (tallyN l j).length = 13
  | 0 => rfl
  | j + 1 => by rw [tallyN, bump_length, tallyN_length l j]
theorem kindN_lt (k : Int) : kindN k < 13 := by unfold kindN; split <;> omega
theorem info13 : (Try.prog.info? 28).map (·.size) = some 13 := by kernel_rfl
theorem infoI : (Try.prog.info? 3).map (·.size) = some 1 := by kernel_rfl
set_option maxHeartbeats 8000000 in
set_option maxRecDepth 100000 in
theorem tally_c (n : Int) (A1 : Option Addr) (c1 : Nat) (l1 : List S53) (A2 : Option Addr) (c2 : Nat) (l2 : List S38) (w : World) (hr1 : Kd.C k53 w A1 l1.length l1) (hc1 : l1.length ≤ c1) (hL : l1.length ≤ 140737488351232) :
    Calls Try.prog 16 #[.agg #[.int .i64 n, .slice A1 l1.length c1, .slice A2 l2.length c2]] w fun e w' => e = .returned (arrV .i64 (tallyL l1)) ∧ Below w.heap.size w w' := by
  have hu1 := Try.underlying25
  have hu2 := Try.underlying53
  have HR := Aside0.mk hr1
  clear hr1
  have HB := Aside0.mk (Below.refl w.heap.size w)
  go_enter Try.func16, Try.ntmps16
  go_wp2_with (first | ((with_reducible refine gate_dst (N := 1) rfl ?_); refine box_event ?hg (N := 1) ?hd (cs := #[.int .i64 n, .slice A1 l1.length c1, .slice A2 l2.length c2]) (t := 25) ?hr ?_; (case hd => rfl); (case hg => rfl); (case hr => first | (go_simp; done) | (go_simp; rfl)); intro gb hg w3 hbox hb; subst hg; have HB := Aside0.mk (below_step HB.out hb); have BK := Aside0.mk hbox; have BK0 := Aside0.mk hbox; have hcz0 : w3.cell? ⟨w.heap.size, 1, none⟩ = some (.slice A1 l1.length c1) := (blk_cell BK.out 1).trans rfl; have hczA : ∀ o1 o2 : Obj, ((w3.alloc o1).alloc o2).cell? ⟨w.heap.size, 1, none⟩ = some (.slice A1 l1.length c1) := fun o1 o2 => (blk_cell (blk_alloc (blk_alloc BK.out o1) o2) 1).trans rfl; clear hb hbox))
  have M2 := Aside0.mk (show Mem .i64 ((w3.alloc (.cells #[.int .i64 0, .int .i64 0, .int .i64 0, .int .i64 0, .int .i64 0, .int .i64 0, .int .i64 0, .int .i64 0, .int .i64 0, .int .i64 0, .int .i64 0, .int .i64 0, .int .i64 0] 28)).alloc (.cells #[.int .i64 0, .int .i64 0, .int .i64 0, .int .i64 0, .int .i64 0, .int .i64 0, .int .i64 0, .int .i64 0, .int .i64 0, .int .i64 0, .int .i64 0, .int .i64 0, .int .i64 0] 28)) w3.heap.size 28 z13 from Mem.alloc (Mem.new .i64 w3 28 z13) (.cells #[.int .i64 0, .int .i64 0, .int .i64 0, .int .i64 0, .int .i64 0, .int .i64 0, .int .i64 0, .int .i64 0, .int .i64 0, .int .i64 0, .int .i64 0, .int .i64 0, .int .i64 0] 28))
  have M3 := Aside0.mk (show Mem .i64 ((w3.alloc (.cells #[.int .i64 0, .int .i64 0, .int .i64 0, .int .i64 0, .int .i64 0, .int .i64 0, .int .i64 0, .int .i64 0, .int .i64 0, .int .i64 0, .int .i64 0, .int .i64 0, .int .i64 0] 28)).alloc (.cells #[.int .i64 0, .int .i64 0, .int .i64 0, .int .i64 0, .int .i64 0, .int .i64 0, .int .i64 0, .int .i64 0, .int .i64 0, .int .i64 0, .int .i64 0, .int .i64 0, .int .i64 0] 28)) (w3.heap.size + 1) 28 z13 from Mem.new2 .i64 w3 (.cells #[.int .i64 0, .int .i64 0, .int .i64 0, .int .i64 0, .int .i64 0, .int .i64 0, .int .i64 0, .int .i64 0, .int .i64 0, .int .i64 0, .int .i64 0, .int .i64 0, .int .i64 0] 28) 28 z13)
  have BK := Aside0.mk (blk_alloc (blk_alloc BK.out (.cells #[.int .i64 0, .int .i64 0, .int .i64 0, .int .i64 0, .int .i64 0, .int .i64 0, .int .i64 0, .int .i64 0, .int .i64 0, .int .i64 0, .int .i64 0, .int .i64 0, .int .i64 0] 28)) (.cells #[.int .i64 0, .int .i64 0, .int .i64 0, .int .i64 0, .int .i64 0, .int .i64 0, .int .i64 0, .int .i64 0, .int .i64 0, .int .i64 0, .int .i64 0, .int .i64 0, .int .i64 0] 28))
  have HB := Aside0.mk (below_alloc (below_alloc HB.out (.cells #[.int .i64 0, .int .i64 0, .int .i64 0, .int .i64 0, .int .i64 0, .int .i64 0, .int .i64 0, .int .i64 0, .int .i64 0, .int .i64 0, .int .i64 0, .int .i64 0, .int .i64 0] 28)) (.cells #[.int .i64 0, .int .i64 0, .int .i64 0, .int .i64 0, .int .i64 0, .int .i64 0, .int .i64 0, .int .i64 0, .int .i64 0, .int .i64 0, .int .i64 0, .int .i64 0, .int .i64 0] 28))
  have hlt0 : w.heap.size < w3.heap.size := blk_lt BK0.out
  clear BK0
  have HLT := Aside0.mk hlt0
  have HG := Aside0.mk (show w.heap.size < w3.heap.size + 1 by omega)
  have HN := Aside0.mk (show w3.heap.size ≠ w3.heap.size + 1 by omega)
  clear hlt0 hcz0 hczA
  generalize ((w3.alloc (.cells #[.int .i64 0, .int .i64 0, .int .i64 0, .int .i64 0, .int .i64 0, .int .i64 0, .int .i64 0, .int .i64 0, .int .i64 0, .int .i64 0, .int .i64 0, .int .i64 0, .int .i64 0] 28)).alloc (.cells #[.int .i64 0, .int .i64 0, .int .i64 0, .int .i64 0, .int .i64 0, .int .i64 0, .int .i64 0, .int .i64 0, .int .i64 0, .int .i64 0, .int .i64 0, .int .i64 0, .int .i64 0] 28)) = W1 at *
  generalize w3.heap.size + 1 = g3 at *
  generalize w3.heap.size = g2 at *
  go_loopg [9] l1.length (fun kq v9 w' => ∃ (j : Nat) (x9 : Int), v9 = .int .i64 x9 ∧ Aside0 (x9 = (j : Int) ∧ j + kq = l1.length) ∧ Aside0 (Mem .i64 w' g2 28 z13) ∧ Aside0 (Mem .i64 w' g3 28 (tallyN l1 j)) ∧ Aside0 (Below w.heap.size w w') ∧ Aside0 (w'.heap[w.heap.size]? = some (.cells #[.int .i64 n, .slice A1 l1.length c1, .slice A2 l2.length c2] 25 (0, 0))))
  case atStart => exact ⟨0, 0, rfl, ⟨rfl, by omega⟩, M2, M3, HB, BK⟩
  case round =>
    clear M2 M3 HB BK
    obtain ⟨j, x9, rfl, HX, M2, M3, HB, BK⟩ := hrel
    cases gk with
    | zero =>
      have hx : decide (x9 < (l1.length : Int)) = false := decide_eq_false (by have := HX.out; omega)
      obtain rfl : j = l1.length := by have := HX.out.2; omega
      have HT := Aside0.mk (tallyN_length l1 l1.length)
      have HTL := Aside0.mk (show tallyL l1 = tallyN l1 l1.length from rfl)
      generalize tallyN l1 l1.length = c at *
      go_wp2_with (first
        | ((with_reducible refine gate_dst (N := 32) rfl ?_); refine Mem.load M3.out rfl 28 (.tmp 3) rfl rfl Try.underlying28 (by rw [HT.out]; exact info13) ?_)
        | ((with_reducible refine gate_store (t := 28) (p := 2) rfl ?_); refine Mem.store (l' := c) M2.out rfl 28 (.tmp 2) (.tmp 32) rfl rfl rfl (by rw [HT.out]; exact info13) (by rw [HT.out]; rfl) ?_))
      refine bodyPost_ret (v := .agg (cellsOf .i64 c)) (results_cell_row rfl _ _ _ _ _ _ _ rfl (Mem.put M2.out c) Try.underlying28 rfl (by rw [cellsOf_size, HT.out]; exact info13)) rfl ⟨by rw [HTL.out]; rfl, below_setRow HB.out (Nat.le_of_lt HLT.out) _⟩
    | succ k1 =>
      have hj : j < l1.length := by have := HX.out.2; omega
      have h0 : 0 ≤ x9 := by have := HX.out.1; omega
      have h1 : x9 < (l1.length : Int) := by have := HX.out; omega
      have hw : IntKind.i64.wrap (x9 + 1) = x9 + 1 := by rw [IntKind.wrap_i64]; omega
      have HW := Aside0.mk hw
      obtain ⟨ad, e1, hx0, hx1, hx2, hx3, hx4, hx5⟩ := at_T53 HR.out x9 h0 h1
      cases e1
      replace hx0 := (HB.out.cell (World.block_lt_of_cell? w _ hx0)).trans hx0
      replace hx1 := (HB.out.cell (World.block_lt_of_cell? w _ hx1)).trans hx1
      replace hx2 := (HB.out.cell (World.block_lt_of_cell? w _ hx2)).trans hx2
      replace hx3 := (HB.out.cell (World.block_lt_of_cell? w _ hx3)).trans hx3
      replace hx4 := (HB.out.cell (World.block_lt_of_cell? w _ hx4)).trans hx4
      replace hx5 := (HB.out.cell (World.block_lt_of_cell? w _ hx5)).trans hx5
      have HTN := Aside0.mk (show tallyN l1 (j + 1) = bump (tallyN l1 j) (rd_T53 l1 x9).f0 by rw [HX.out.1]; rfl)
      have HT := Aside0.mk (tallyN_length l1 j)
      generalize tallyN l1 j = c at *
      generalize rd_T53 l1 x9 = o at *
      have p1 := eq_true h0
      have q1 := eq_true h1
      clear hw hj
      have M2 := Aside0.mk (Mem.alloc M2.out (.cells #[.int .i64 o.f0, .int .i64 o.f1, .int .i64 o.f2, .int .i64 o.f3, .int .i64 o.f4, .int .u64 o.f5] 53))
      have M3 := Aside0.mk (Mem.alloc M3.out (.cells #[.int .i64 o.f0, .int .i64 o.f1, .int .i64 o.f2, .int .i64 o.f3, .int .i64 o.f4, .int .u64 o.f5] 53))
      have HB := Aside0.mk (below_alloc HB.out (.cells #[.int .i64 o.f0, .int .i64 o.f1, .int .i64 o.f2, .int .i64 o.f3, .int .i64 o.f4, .int .u64 o.f5] 53))
      have BK := Aside0.mk (blk_alloc BK.out (.cells #[.int .i64 o.f0, .int .i64 o.f1, .int .i64 o.f2, .int .i64 o.f3, .int .i64 o.f4, .int .u64 o.f5] 53))
      by_cases hk : 1 ≤ o.f0 ∧ o.f0 ≤ 12
      · obtain ⟨i, hi⟩ : ∃ i : Nat, o.f0 = (i : Int) := ⟨o.f0.toNat, by omega⟩
        have HKN := Aside0.mk (show kindN o.f0 = i by unfold kindN; rw [if_neg (by omega)]; omega)
        have ht1 : decide (o.f0 < 1) = false := decide_eq_false (by omega)
        have ht2 : decide (12 < o.f0) = false := decide_eq_false (by omega)
        have hi13 : i < 13 := by omega
        have hc := M3.out.cell i (by rw [HT.out]; exact hi13)
        have hf := M3.out.free i
        have hi2 : (i : Int) < 13 := by omega
        have hi0 : (0 : Int) ≤ (i : Int) := by omega
        have HTN := Aside0.mk (show tallyN l1 (j + 1) = c.set i (wrap64 (c.getD i 0 + 1)) by rw [HTN.out]; unfold bump; rw [HKN.out])
        generalize c.getD i 0 = x at *
        rw [hi] at hx0 ht1 ht2 HB BK M2 M3 hc hf
        clear hk
        go_wp2
        go_roundg k1
        case measure => have := HX.out; omega
        case rel => exact ⟨j + 1, _, rfl, ⟨by have := HX.out; omega, by have := HX.out.2; omega⟩, ⟨Mem.other M2.out HN.out.symm _ _⟩, ⟨by rw [HTN.out]; exact Mem.set M3.out _ _⟩, ⟨below_set HB.out (Nat.le_of_lt HG.out)⟩, ⟨blk_far BK.out (Nat.ne_of_lt HG.out) _⟩⟩
      · have HKN := Aside0.mk (show kindN o.f0 = 0 by unfold kindN; rw [if_pos (by omega)])
        have hc := M3.out.cell 0 (by rw [HT.out]; decide)
        have hf := M3.out.free 0
        have HTN := Aside0.mk (show tallyN l1 (j + 1) = c.set 0 (wrap64 (c.getD 0 0 + 1)) by rw [HTN.out]; unfold bump; rw [HKN.out])
        generalize c.getD 0 0 = x at *
        obtain ⟨y1, ey1⟩ : ∃ q : Bool, decide (o.f0 < 1) = q := ⟨_, rfl⟩
        have ey2 : decide (12 < o.f0) = !y1 := by rw [← ey1, ← decide_not]; congr 1; simp; omega
        clear hk
        go_wp2
        all_goals go_roundg k1
        all_goals (first | (case measure => have := HX.out; omega) | skip)
        all_goals (case rel => exact ⟨j + 1, _, rfl, ⟨by have := HX.out; omega, by have := HX.out.2; omega⟩, ⟨Mem.other M2.out HN.out.symm _ _⟩, ⟨by rw [HTN.out]; exact Mem.set M3.out _ _⟩, ⟨below_set HB.out (Nat.le_of_lt HG.out)⟩, ⟨blk_far BK.out (Nat.ne_of_lt HG.out) _⟩⟩)
set_option maxHeartbeats 8000000 in
set_option maxRecDepth 100000 in
theorem rtally_c (n : Int) (A1 : Option Addr) (c1 : Nat) (l1 : List S53) (A2 : Option Addr) (c2 : Nat) (l2 : List S38) (w : World) (hr1 : Kd.C k53 w A1 l1.length l1) (hc1 : l1.length ≤ c1) (hL : l1.length ≤ 140737488351232) :
    Calls Try.prog 14 #[.agg #[.int .i64 n, .slice A1 l1.length c1, .slice A2 l2.length c2]] w fun e w' => e = .returned (arrV .i64 (tallyL l1)) ∧ Below w.heap.size w w' := by
  have hu1 := Try.underlying25
  have hu2 := Try.underlying53
  have HR := Aside0.mk hr1
  clear hr1
  have HB := Aside0.mk (Below.refl w.heap.size w)
  go_enter Try.func14, Try.ntmps14
  go_wp2_with (first | ((with_reducible refine gate_dst (N := 1) rfl ?_); refine box_event ?hg (N := 1) ?hd (cs := #[.int .i64 n, .slice A1 l1.length c1, .slice A2 l2.length c2]) (t := 25) ?hr ?_; (case hd => rfl); (case hg => rfl); (case hr => first | (go_simp; done) | (go_simp; rfl)); intro gb hg w3 hbox hb; subst hg; have HB := Aside0.mk (below_step HB.out hb); have BK := Aside0.mk hbox; have BK0 := Aside0.mk hbox; have hcz0 : w3.cell? ⟨w.heap.size, 1, none⟩ = some (.slice A1 l1.length c1) := (blk_cell BK.out 1).trans rfl; have hczA : ∀ o1 o2 : Obj, ((w3.alloc o1).alloc o2).cell? ⟨w.heap.size, 1, none⟩ = some (.slice A1 l1.length c1) := fun o1 o2 => (blk_cell (blk_alloc (blk_alloc BK.out o1) o2) 1).trans rfl; clear hb hbox))
  have M2 := Aside0.mk (show Mem .i64 ((w3.alloc (.cells #[.int .i64 0, .int .i64 0, .int .i64 0, .int .i64 0, .int .i64 0, .int .i64 0, .int .i64 0, .int .i64 0, .int .i64 0, .int .i64 0, .int .i64 0, .int .i64 0, .int .i64 0] 28)).alloc (.cells #[.int .i64 0, .int .i64 0, .int .i64 0, .int .i64 0, .int .i64 0, .int .i64 0, .int .i64 0, .int .i64 0, .int .i64 0, .int .i64 0, .int .i64 0, .int .i64 0, .int .i64 0] 28)) w3.heap.size 28 z13 from Mem.alloc (Mem.new .i64 w3 28 z13) (.cells #[.int .i64 0, .int .i64 0, .int .i64 0, .int .i64 0, .int .i64 0, .int .i64 0, .int .i64 0, .int .i64 0, .int .i64 0, .int .i64 0, .int .i64 0, .int .i64 0, .int .i64 0] 28))
  have M3 := Aside0.mk (show Mem .i64 ((w3.alloc (.cells #[.int .i64 0, .int .i64 0, .int .i64 0, .int .i64 0, .int .i64 0, .int .i64 0, .int .i64 0, .int .i64 0, .int .i64 0, .int .i64 0, .int .i64 0, .int .i64 0, .int .i64 0] 28)).alloc (.cells #[.int .i64 0, .int .i64 0, .int .i64 0, .int .i64 0, .int .i64 0, .int .i64 0, .int .i64 0, .int .i64 0, .int .i64 0, .int .i64 0, .int .i64 0, .int .i64 0, .int .i64 0] 28)) (w3.heap.size + 1) 28 z13 from Mem.new2 .i64 w3 (.cells #[.int .i64 0, .int .i64 0, .int .i64 0, .int .i64 0, .int .i64 0, .int .i64 0, .int .i64 0, .int .i64 0, .int .i64 0, .int .i64 0, .int .i64 0, .int .i64 0, .int .i64 0] 28) 28 z13)
  have BK := Aside0.mk (blk_alloc (blk_alloc BK.out (.cells #[.int .i64 0, .int .i64 0, .int .i64 0, .int .i64 0, .int .i64 0, .int .i64 0, .int .i64 0, .int .i64 0, .int .i64 0, .int .i64 0, .int .i64 0, .int .i64 0, .int .i64 0] 28)) (.cells #[.int .i64 0, .int .i64 0, .int .i64 0, .int .i64 0, .int .i64 0, .int .i64 0, .int .i64 0, .int .i64 0, .int .i64 0, .int .i64 0, .int .i64 0, .int .i64 0, .int .i64 0] 28))
  have HB := Aside0.mk (below_alloc (below_alloc HB.out (.cells #[.int .i64 0, .int .i64 0, .int .i64 0, .int .i64 0, .int .i64 0, .int .i64 0, .int .i64 0, .int .i64 0, .int .i64 0, .int .i64 0, .int .i64 0, .int .i64 0, .int .i64 0] 28)) (.cells #[.int .i64 0, .int .i64 0, .int .i64 0, .int .i64 0, .int .i64 0, .int .i64 0, .int .i64 0, .int .i64 0, .int .i64 0, .int .i64 0, .int .i64 0, .int .i64 0, .int .i64 0] 28))
  have hlt0 : w.heap.size < w3.heap.size := blk_lt BK0.out
  clear BK0
  have HLT := Aside0.mk hlt0
  have HG := Aside0.mk (show w.heap.size < w3.heap.size + 1 by omega)
  have HN := Aside0.mk (show w3.heap.size ≠ w3.heap.size + 1 by omega)
  clear hlt0 hcz0 hczA
  generalize ((w3.alloc (.cells #[.int .i64 0, .int .i64 0, .int .i64 0, .int .i64 0, .int .i64 0, .int .i64 0, .int .i64 0, .int .i64 0, .int .i64 0, .int .i64 0, .int .i64 0, .int .i64 0, .int .i64 0] 28)).alloc (.cells #[.int .i64 0, .int .i64 0, .int .i64 0, .int .i64 0, .int .i64 0, .int .i64 0, .int .i64 0, .int .i64 0, .int .i64 0, .int .i64 0, .int .i64 0, .int .i64 0, .int .i64 0] 28)) = W1 at *
  generalize w3.heap.size + 1 = g3 at *
  generalize w3.heap.size = g2 at *
  go_loopg [4] l1.length (fun kq v9 w' => ∃ (j : Nat) (x9 : Int), v9 = .int .i64 x9 ∧ Aside0 (x9 = (j : Int) ∧ j + kq = l1.length) ∧ Aside0 (Mem .i64 w' g2 28 z13) ∧ Aside0 (Mem .i64 w' g3 28 (tallyN l1 j)) ∧ Aside0 (Below w.heap.size w w') ∧ Aside0 (w'.heap[w.heap.size]? = some (.cells #[.int .i64 n, .slice A1 l1.length c1, .slice A2 l2.length c2] 25 (0, 0))))
  case atStart => exact ⟨0, 0, rfl, ⟨rfl, by omega⟩, M2, M3, HB, BK⟩
  case round =>
    clear M2 M3 HB BK
    obtain ⟨j, x9, rfl, HX, M2, M3, HB, BK⟩ := hrel
    have hb1 : wr.cell? ⟨w.heap.size, 1, none⟩ = some (.slice A1 l1.length c1) := (blk_cell BK.out 1).trans rfl
    cases gk with
    | zero =>
      have hx : decide (x9 < (l1.length : Int)) = false := decide_eq_false (by have := HX.out; omega)
      obtain rfl : j = l1.length := by have := HX.out.2; omega
      have HT := Aside0.mk (tallyN_length l1 l1.length)
      have HTL := Aside0.mk (show tallyL l1 = tallyN l1 l1.length from rfl)
      generalize tallyN l1 l1.length = c at *
      go_wp2_with (first
        | ((with_reducible refine gate_dst (N := 31) rfl ?_); refine Mem.load M3.out rfl 28 (.tmp 3) rfl rfl Try.underlying28 (by rw [HT.out]; exact info13) ?_)
        | ((with_reducible refine gate_store (t := 28) (p := 2) rfl ?_); refine Mem.store (l' := c) M2.out rfl 28 (.tmp 2) (.tmp 31) rfl rfl rfl (by rw [HT.out]; exact info13) (by rw [HT.out]; rfl) ?_))
      refine bodyPost_ret (v := .agg (cellsOf .i64 c)) (results_cell_row rfl _ _ _ _ _ _ _ rfl (Mem.put M2.out c) Try.underlying28 rfl (by rw [cellsOf_size, HT.out]; exact info13)) rfl ⟨by rw [HTL.out]; rfl, below_setRow HB.out (Nat.le_of_lt HLT.out) _⟩
    | succ k1 =>
      have hj : j < l1.length := by have := HX.out.2; omega
      have h0 : 0 ≤ x9 := by have := HX.out.1; omega
      have h1 : x9 < (l1.length : Int) := by have := HX.out; omega
      have hw : IntKind.i64.wrap (x9 + 1) = x9 + 1 := by rw [IntKind.wrap_i64]; omega
      obtain ⟨ad, e1, hx0, hx1, hx2, hx3, hx4, hx5⟩ := at_T53 HR.out x9 h0 h1
      cases e1
      replace hx0 := (HB.out.cell (World.block_lt_of_cell? w _ hx0)).trans hx0
      clear hx1 hx2 hx3 hx4 hx5
      have HTN := Aside0.mk (show tallyN l1 (j + 1) = bump (tallyN l1 j) (rd_T53 l1 x9).f0 by rw [HX.out.1]; rfl)
      have HT := Aside0.mk (tallyN_length l1 j)
      generalize tallyN l1 j = c at *
      generalize rd_T53 l1 x9 = o at *
      have p1 := eq_true h0
      have q1 := eq_true h1
      clear hw hj
      by_cases hk : 1 ≤ o.f0 ∧ o.f0 ≤ 12
      · obtain ⟨i, hi⟩ : ∃ i : Nat, o.f0 = (i : Int) := ⟨o.f0.toNat, by omega⟩
        have HKN := Aside0.mk (show kindN o.f0 = i by unfold kindN; rw [if_neg (by omega)]; omega)
        have ht1 : decide (o.f0 < 1) = false := decide_eq_false (by omega)
        have ht2 : decide (12 < o.f0) = false := decide_eq_false (by omega)
        have hi13 : i < 13 := by omega
        have hc := M3.out.cell i (by rw [HT.out]; exact hi13)
        have hf := M3.out.free i
        have hi2 : (i : Int) < 13 := by omega
        have hi0 : (0 : Int) ≤ (i : Int) := by omega
        have HTN := Aside0.mk (show tallyN l1 (j + 1) = c.set i (wrap64 (c.getD i 0 + 1)) by rw [HTN.out]; unfold bump; rw [HKN.out])
        generalize c.getD i 0 = x at *
        rw [hi] at hx0 ht1 ht2
        clear hk
        go_wp2
        go_roundg k1
        case measure => have := HX.out; omega
        case rel => exact ⟨j + 1, _, rfl, ⟨by have := HX.out; omega, by have := HX.out.2; omega⟩, ⟨Mem.other M2.out HN.out.symm _ _⟩, ⟨by rw [HTN.out]; exact Mem.set M3.out _ _⟩, ⟨below_set HB.out (Nat.le_of_lt HG.out)⟩, ⟨blk_far BK.out (Nat.ne_of_lt HG.out) _⟩⟩
      · have HKN := Aside0.mk (show kindN o.f0 = 0 by unfold kindN; rw [if_pos (by omega)])
        have hc := M3.out.cell 0 (by rw [HT.out]; decide)
        have hf := M3.out.free 0
        have HTN := Aside0.mk (show tallyN l1 (j + 1) = c.set 0 (wrap64 (c.getD 0 0 + 1)) by rw [HTN.out]; unfold bump; rw [HKN.out])
        generalize c.getD 0 0 = x at *
        obtain ⟨y1, ey1⟩ : ∃ q : Bool, decide (o.f0 < 1) = q := ⟨_, rfl⟩
        have ey2 : decide (12 < o.f0) = !y1 := by rw [← ey1, ← decide_not]; congr 1; simp; omega
        clear hk
        go_wp2
        all_goals go_roundg k1
        all_goals (first | (case measure => have := HX.out; omega) | skip)
        all_goals (case rel => exact ⟨j + 1, _, rfl, ⟨by have := HX.out; omega, by have := HX.out.2; omega⟩, ⟨Mem.other M2.out HN.out.symm _ _⟩, ⟨by rw [HTN.out]; exact Mem.set M3.out _ _⟩, ⟨below_set HB.out (Nat.le_of_lt HG.out)⟩, ⟨blk_far BK.out (Nat.ne_of_lt HG.out) _⟩⟩)
end Go.Proofs.Ytphdlidaigalkaa.TallyT
