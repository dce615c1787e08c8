/-
  The steps of Keccak, walked: for any state.
-/
import Derived.Test.YtdbcgjclnfhdfaaMem
import Derived.Test.YtdbcgjclnfhdfaaOctMath
namespace Go.Proofs.Ytdbcgjclnfhdfaa.Keccak
open Go.RowKit Go.Proofs.YtdbcgjclnfhdfaaW.PrintWords Go.Proofs.YtdbcgjclnfhdfaaW.PrintLast Go.Proofs.YtdbcgjclnfhdfaaW.PrintMore Byte Sl Arr Mem Gives
set_option linter.unusedVariables false
set_option linter.unusedSimpArgs false
theorem info_st : (Try.prog.info? 42).map (·.size) = some 25 := by kernel_rfl
theorem info_w : (Try.prog.info? 41).map (·.size) = some 1 := by kernel_rfl
/-- Rows, mixed. -/
def chiF (l : List Int) (i : Nat) : Int := Go.bits .xor .u64 (l.getD i 0) (Go.bits .andNot .u64 (l.getD (i - i % 5 + (i + 2) % 5) 0) (l.getD (i - i % 5 + (i + 1) % 5) 0))
def chiL (l : List Int) : List Int := byI 25 (chiF l)
/-- Nothing yet. -/
def zst : List Int := List.replicate 25 0
theorem chiL_length (l : List Int) : (chiL l).length = 25 := byI_length _ _
set_option maxHeartbeats 4000000 in
set_option maxRecDepth 100000 in
theorem chi_c (l : List Int) (hl : l.length = 25) : GivesB 36 #[arrV .u64 l] (arrV .u64 (chiL l)) := by
  intro w
  rw [arrV_eq, arrV_eq]
  have HL := Aside0.mk hl
  have M1 := Aside0.mk (Mem.alloc (Mem.alloc (Mem.new .u64 w 42 l) (.cells (cellsOf .u64 zst) 42)) (.cells (cellsOf .u64 zst) 42))
  have M1' := Aside0.mk (Mem.alloc (Mem.new .u64 w 42 l) (.cells (cellsOf .u64 zst) 42))
  have M2 := Aside0.mk (Mem.alloc (Mem.new2 .u64 w (.cells (cellsOf .u64 l) 42) 42 zst) (.cells (cellsOf .u64 zst) 42))
  have M3 := Aside0.mk (Mem.new3 .u64 w (.cells (cellsOf .u64 l) 42) (.cells (cellsOf .u64 zst) 42) 42 zst)
  have HB := Aside0.mk (below_alloc (below_alloc (below_alloc (Below.refl w.heap.size w) (.cells (cellsOf .u64 l) 42)) (.cells (cellsOf .u64 zst) 42)) (.cells (cellsOf .u64 zst) 42))
  obtain ⟨cs, hcs⟩ : ∃ cs, cs = cellsOf .u64 l := ⟨_, rfl⟩
  rw [← hcs] at M1 M1' M2 M3 HB ⊢
  have HC := Aside0.mk hcs
  clear hl hcs
  go_enter Try.func36, Try.ntmps36
  go_wp2_with (first
    | ((with_reducible refine gate_dst (N := 6) rfl ?_); refine Mem.load M1'.out rfl 42 (.tmp 1) rfl rfl Try.underlying42 (by rw [HL.out]; exact info_st) ?_)
    | ((with_reducible refine gate_store (t := 42) (p := 3) rfl ?_); refine Mem.store (l' := l) M3.out rfl 42 (.tmp 3) (.tmp 6) rfl rfl rfl (by rw [HL.out]; exact info_st) (by rw [HL.out]; rfl) ?_))
  have N1 := Aside0.mk (Mem.row M1.out (g' := w.heap.size + 2) (by omega) (cellsOf .u64 l))
  have N2 := Aside0.mk (Mem.row M2.out (g' := w.heap.size + 2) (by omega) (cellsOf .u64 l))
  have N3 := Aside0.mk (Mem.put M3.out l)
  have NB := Aside0.mk (below_setRow HB.out (g := w.heap.size + 2) (by omega) (cellsOf .u64 l))
  clear M1 M1' M2 M3 HB
  go_loopg [7] 25 (fun kq i w' => ∃ j : Nat, j + kq = 25 ∧ i = .int .i64 j ∧ Aside0 (Mem .u64 w' w.heap.size 42 l) ∧ Aside0 (Mem .u64 w' (w.heap.size + 1) 42 zst) ∧ Aside0 (Mem .u64 w' (w.heap.size + 2) 42 (fillTo (chiL l) l j)) ∧ Aside0 (Below w.heap.size w w'))
  case atStart => exact ⟨0, by omega, rfl, N1, N2, ⟨by rw [fillTo_zero]; exact N3.out⟩, NB⟩
  case round =>
    clear N1 N2 N3 NB
    obtain ⟨j, hj, rfl, M1, M2, M3, HB⟩ := hrel
    cases gk with
    | zero =>
      obtain rfl : j = 25 := by omega
      have hend : fillTo (chiL l) l 25 = chiL l := by
        have := fillTo_end (chiL l) l (by rw [chiL_length, HL.out])
        rwa [HL.out] at this
      rw [hend] at M3
      clear hend
      go_wp2_with (first
        | ((with_reducible refine gate_dst (N := 35) rfl ?_); refine Mem.load M3.out rfl 42 (.tmp 3) rfl rfl Try.underlying42 (by rw [chiL_length]; exact info_st) ?_)
        | ((with_reducible refine gate_store (t := 42) (p := 2) rfl ?_); refine Mem.store (l' := chiL l) M2.out rfl 42 (.tmp 2) (.tmp 35) rfl rfl rfl (by rw [chiL_length]; exact info_st) (by rw [chiL_length]; rfl) ?_))
      refine bodyPost_ret (v := .agg (cellsOf .u64 (chiL l))) (results_cell_row rfl _ _ _ _ _ _ _ rfl (Mem.put M2.out (chiL l)) Try.underlying42 rfl (by rw [cellsOf_size, chiL_length]; exact info_st)) rfl ⟨rfl, below_setRow HB.out (by omega) _⟩
    | succ k1 =>
      have hlt : j < 25 := by omega
      have HJ := Aside0.mk hj
      clear hj
      have hll : (fillTo (chiL l) l j).length = 25 := by rw [fillTo_length _ _ (by rw [chiL_length, HL.out]), HL.out]
      obtain ⟨r0, hr0⟩ : ∃ r0 : Nat, r0 = j - j % 5 := ⟨_, rfl⟩
      obtain ⟨q1, hq1⟩ : ∃ q : Nat, q = (j + 1) % 5 := ⟨_, rfl⟩
      obtain ⟨q2, hq2⟩ : ∃ q : Nat, q = (j + 2) % 5 := ⟨_, rfl⟩
      obtain ⟨p1, hp1⟩ : ∃ q : Nat, q = j + 1 := ⟨_, rfl⟩
      obtain ⟨p2, hp2⟩ : ∃ q : Nat, q = j + 2 := ⟨_, rfl⟩
      obtain ⟨A, hA⟩ : ∃ q : Nat, q = r0 + q2 := ⟨_, rfl⟩
      obtain ⟨B, hB⟩ : ∃ q : Nat, q = r0 + q1 := ⟨_, rfl⟩
      have e0 : (j : Int) - (j : Int) % 5 = (r0 : Int) := by omega
      have lA : A < 25 := by omega
      have lB : B < 25 := by omega
      have hx := M3.out.cell j (by omega)
      have hf := M3.out.free j
      have hcA := M1.out.cell A (by rw [HL.out]; exact lA)
      have hcB := M1.out.cell B (by rw [HL.out]; exact lB)
      rw [fillTo_ge _ _ (by rw [chiL_length, HL.out]) j j (by rw [HL.out]; omega) (Nat.le_refl _)] at hx
      have hval : (chiL l).getD j 0 = Go.bits .xor .u64 (l.getD j 0) (Go.bits .andNot .u64 (l.getD A 0) (l.getD B 0)) := by
        unfold chiL; rw [byI_get _ _ _ hlt, hA, hB, hr0, hq1, hq2]; rfl
      have hset := fillTo_set (chiL l) l (by rw [chiL_length, HL.out]) j (by rw [HL.out]; omega) _ hval
      have HV := Aside0.mk hset
      clear hval hset hll
      have f1 : IntKind.i64.wrap ((j : Int) + 2) = (p2 : Int) := by rw [IntKind.wrap_i64]; omega
      have f2 : Int.tmod (p2 : Int) 5 = (q2 : Int) := by rw [Int.tmod_eq_emod_of_nonneg (by omega)]; omega
      have f3 : IntKind.i64.wrap ((r0 : Int) + (q2 : Int)) = (A : Int) := by rw [IntKind.wrap_i64]; omega
      have f4 : IntKind.i64.wrap ((j : Int) + 1) = (p1 : Int) := by rw [IntKind.wrap_i64]; omega
      have f5 : Int.tmod (p1 : Int) 5 = (q1 : Int) := by rw [Int.tmod_eq_emod_of_nonneg (by omega)]; omega
      have f6 : IntKind.i64.wrap ((r0 : Int) + (q1 : Int)) = (B : Int) := by rw [IntKind.wrap_i64]; omega
      clear hr0 hq1 hq2 hp1 hp2 hA hB
      generalize l.getD j 0 = x at *
      generalize l.getD A 0 = y at *
      generalize l.getD B 0 = z at *
      go_wp2

      clear e0
      go_region
      all_goals
        clear f1 f2 f3 f4 f5 f6
        go_wp2
        go_roundg k1
        case measure => omega
        case rel => exact ⟨j + 1, by have := HJ.out; omega, by go_num, ⟨Mem.drew (Mem.other M1.out (g' := w.heap.size + 2) (by omega) _ _)⟩, ⟨Mem.drew (Mem.other M2.out (g' := w.heap.size + 2) (by omega) _ _)⟩, ⟨by rw [← HV.out]; exact Mem.drew (Mem.set M3.out _ _)⟩, ⟨below_drew (below_set HB.out (by omega))⟩⟩
end Go.Proofs.Ytdbcgjclnfhdfaa.Keccak
