/-
  Move of Keccak and back, walked: for any state.
-/
import Derived.Test.YtdbcgjclnfhdfaaKeccak
import Derived.Test.YtdbcgjclnfhdfaaRotC
import Derived.Test.YtdbcgjclnfhdfaaKecT
namespace Go.Proofs.Ytdbcgjclnfhdfaa.Keccak
open Go.RowKit Go.Proofs.YtdbcgjclnfhdfaaW.PrintWords Go.Proofs.YtdbcgjclnfhdfaaW.PrintLast Go.Proofs.YtdbcgjclnfhdfaaW.PrintMore Byte Sl Arr Mem Gives RotC KecT
set_option linter.unusedVariables false
set_option linter.unusedSimpArgs false
theorem zst_length : zst.length = 25 := rfl
/-- Where a word goes to. -/
def dst (i : Nat) : Nat := i / 5 + 5 * ((2 * (i % 5) + 3 * (i / 5)) % 5)
def moveTo (l : List Int) : Nat → List Int
  | 0 => zst
  | i + 1 => (moveTo l i).set (dst i) (rotI (l.getD i 0) (turnN (i % 5) (i / 5)))
def moveL (l : List Int) : List Int := moveTo l 25
theorem moveTo_length (l : List Int) : ∀ i, (moveTo l i).length = 25
  | 0 => rfl
  | i + 1 => by simp [moveTo, moveTo_length l i]
theorem moveL_length (l : List Int) : (moveL l).length = 25 := moveTo_length l 25
theorem zst_words : Words zst := by intro x hx; rw [List.eq_of_mem_replicate hx]; exact ⟨by decide, by decide⟩
theorem moveTo_words (l : List Int) : ∀ i, Words (moveTo l i)
  | 0 => zst_words
  | i + 1 => (moveTo_words l i).set _ _ (rotI_word _ _)
theorem moveL_words (l : List Int) : Words (moveL l) := moveTo_words l 25
set_option maxHeartbeats 4000000 in
set_option maxRecDepth 100000 in
theorem move_c (l : List Int) (hl : l.length = 25) (hw : Words l) : GivesB 34 #[arrV .u64 l] (arrV .u64 (moveL l)) := by
  intro w
  rw [arrV_eq]
  rw [arrV_eq]
  have HL := Aside0.mk hl
  have M1 := Aside0.mk (Mem.alloc (Mem.alloc (Mem.new .u64 w 42 l) (.cells (cellsOf .u64 zst) 42)) (.cells (cellsOf .u64 zst) 42))
  have M2 := Aside0.mk (Mem.alloc (Mem.new2 .u64 w (.cells (cellsOf .u64 l) 42) 42 zst) (.cells (cellsOf .u64 zst) 42))
  have M3 := Aside0.mk (Mem.new3 .u64 w (.cells (cellsOf .u64 l) 42) (.cells (cellsOf .u64 zst) 42) 42 zst)
  have HB := Aside0.mk (below_alloc (below_alloc (below_alloc (Below.refl w.heap.size w) (.cells (cellsOf .u64 l) 42)) (.cells (cellsOf .u64 zst) 42)) (.cells (cellsOf .u64 zst) 42))
  obtain ⟨cl, hcl⟩ : ∃ cs, cs = cellsOf .u64 l := ⟨_, rfl⟩
  rw [← hcl] at M1 M2 M3 HB ⊢
  have HCl := Aside0.mk hcl
  clear hl hcl
  go_enter Try.func34, Try.ntmps34
  go_wp2_with (first
    | ((with_reducible refine gate_dst (N := 10) rfl ?_); refine Mem.load M1.out rfl 42 (.tmp 1) rfl rfl Try.underlying42 (by rw [HL.out]; exact info_st) ?_))
  go_loopg [11] 25 (fun kq i w' => ∃ j : Nat, j + kq = 25 ∧ i = .int .i64 j ∧ Aside0 (Mem .u64 w' w.heap.size 42 l) ∧ Aside0 (Mem .u64 w' (w.heap.size + 1) 42 zst) ∧ Aside0 (Mem .u64 w' (w.heap.size + 2) 42 (moveTo l j)) ∧ Aside0 (Below w.heap.size w w'))
  case atStart => exact ⟨0, by omega, rfl, M1, M2, M3, HB⟩
  case round =>
    clear M1 M2 M3 HB
    obtain ⟨j, hj, rfl, M1, M2, M3, HB⟩ := hrel
    cases gk with
    | zero =>
      obtain rfl : j = 25 := by omega
      have M3 : Aside0 (Mem .u64 _ (w.heap.size + 2) 42 (moveL l)) := M3
      go_wp2_with (first
        | ((with_reducible refine gate_dst (N := 36) rfl ?_); refine Mem.load M3.out rfl 42 (.tmp 3) rfl rfl Try.underlying42 (by rw [moveL_length]; exact info_st) ?_)
        | ((with_reducible refine gate_store (t := 42) (p := 2) rfl ?_); refine Mem.store (l' := moveL l) M2.out rfl 42 (.tmp 2) (.tmp 36) rfl rfl rfl (by rw [moveL_length]; exact info_st) (by rw [moveL_length]; rfl) ?_))
      refine bodyPost_ret (v := .agg (cellsOf .u64 (moveL l))) (results_cell_row rfl _ _ _ _ _ _ _ rfl (Mem.put M2.out (moveL l)) Try.underlying42 rfl (by rw [cellsOf_size, moveL_length]; exact info_st)) rfl ⟨rfl, below_setRow HB.out (by omega) _⟩
    | succ k1 =>
      have hlt : j < 25 := by omega
      have HJ := Aside0.mk hj
      have hix := run_index_arr (k := .u64) (P := Try.prog) (l := l) Try.underlying42 Try.underlying41 info_w HL.out j hlt
      have HV := Aside0.mk (show (moveTo l j).set (dst j) (rotI (l.getD j 0) (turnN (j % 5) (j / 5))) = moveTo l (j + 1) from rfl)
      have hdst : dst j < 25 := by unfold dst; omega
      have hdst' : (dst j : Nat) = j / 5 + 5 * ((2 * (j % 5) + 3 * (j / 5)) % 5) := rfl
      obtain ⟨q, hq⟩ : ∃ q, q = j % 5 := ⟨_, rfl⟩
      obtain ⟨r, hr⟩ : ∃ r, r = j / 5 := ⟨_, rfl⟩
      rw [← hq, ← hr] at HV hdst'
      obtain ⟨s, hs⟩ : ∃ s, s = (2 * q + 3 * r) % 5 := ⟨_, rfl⟩
      obtain ⟨d, hd⟩ : ∃ d, d = dst j := ⟨_, rfl⟩
      rw [← hd] at HV hdst hdst'
      rw [← hs] at hdst'
      have c1 := next_c q r (by omega) (by omega)
      rw [← hs] at c1
      have C1 := Aside0.mk c1
      have C2 := Aside0.mk (turn_c q r (by omega) (by omega))
      have C3 := Aside0.mk (rot_c (l.getD j 0) (turnN q r) (words_getD hw j))
      have e0 : (j : Int) % 5 = (q : Int) := by omega
      have e1 : (j : Int) / 5 = (r : Int) := by omega
      have s5 : s < 5 := by omega
      have r5 : r < 5 := by omega
      have e2 : (r : Int) + 5 * (s : Int) = (d : Int) := by omega
      have hld : d < (moveTo l j).length := by rw [moveTo_length]; exact hdst
      clear hj hs hd hq hr hdst' c1 hdst
      generalize rotI (l.getD j 0) (turnN q r) = R at *
      generalize l.getD j 0 = x at *
      generalize turnN q r = tn at *
      generalize moveTo l j = mj at *
      go_wp2_with (first
        | (go_at_call 62; (with_reducible refine (C1.out.q _).mono ?_); rintro e w' ⟨rfl, ⟨n1, rfl⟩⟩)
        | (go_at_call 30; (with_reducible refine (C2.out.q _).mono ?_); rintro e w' ⟨rfl, ⟨n2, rfl⟩⟩)
        | (go_at_call 63; (with_reducible refine (C3.out.q _).mono ?_); rintro e w' ⟨rfl, ⟨n3, rfl⟩⟩; have hx := (Mem.drewN M3.out (n1 + n2 + n3)).cell d hld; have hf := (Mem.drewN M3.out (n1 + n2 + n3)).free d))
      go_roundg k1
      case measure => omega
      case rel => exact ⟨j + 1, by have := HJ.out; omega, by go_num, ⟨Mem.other (Mem.drewN M1.out _) (g' := w.heap.size + 2) (by omega) _ _⟩, ⟨Mem.other (Mem.drewN M2.out _) (g' := w.heap.size + 2) (by omega) _ _⟩, ⟨by rw [← HV.out]; exact Mem.set (Mem.drewN M3.out _) _ _⟩, ⟨below_set (pw_below_drewN HB.out _) (by omega)⟩⟩
end Go.Proofs.Ytdbcgjclnfhdfaa.Keccak
