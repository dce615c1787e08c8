/-
  Merged texts: OnceDoBox, SboxMath, SboxA, SboxB, SboxC, SboxD, SboxE, SboxL: walks and plain lemmas; no condition.
-/
import Derived.Test.YtphdlidaigalkaaOnce
import Derived.Test.YtphdlidaigalkaaTowAll
namespace Go.Proofs.Ytphdlidaigalkaa.OnceBox
open Go.RowKit Go.Proofs.YtphdlidaigalkaaW.PrintWords Go.Proofs.YtphdlidaigalkaaW.PrintLast Go.Proofs.YtphdlidaigalkaaW.PrintMore Once
set_option linter.unusedVariables false
set_option linter.unusedSimpArgs false
set_option maxHeartbeats 4000000
set_option maxRecDepth 100000
theorem slow_c (g off : Nat) (p : Value) (Post : World → Prop) (w : World) (h0 : w.cell? ⟨g, off, none⟩ = some (.int .u32 0)) (h1 : w.cell? ⟨g, off + 1, none⟩ = some (.int .i32 0))
    (f0 : w.frozen? ⟨g, off, none⟩ = false) (f1 : w.frozen? ⟨g, off + 1, none⟩ = false)
    (hcall : Calls Try.prog 122 #[p] (w.setCell ⟨g, off + 1, none⟩ (.int .i32 1)) fun e w' => e = .returned (.tuple #[]) ∧ Post w')
    (hP : ∀ w', Post w' → w'.cell? ⟨g, off, none⟩ = some (.int .u32 0) ∧ w'.cell? ⟨g, off + 1, none⟩ = some (.int .i32 1) ∧ w'.frozen? ⟨g, off, none⟩ = false ∧ w'.frozen? ⟨g, off + 1, none⟩ = false) :
    Calls Try.prog 125 #[.pointer (some ⟨g, off, none⟩), .func (.func 122) #[p] #[]] w fun e w' => e = .returned (.tuple #[]) ∧ ∃ w2, Post w2 ∧ w' = (w2.drew.setCell ⟨g, off, none⟩ (.int .u32 1)).setCell ⟨g, off + 1, none⟩ (.int .i32 0) := by
  have hl := run_call_load (P := Try.prog) Try.func130 (by kernel_rfl) (by kernel_rfl) (by kernel_rfl) .u32 (by kernel_rfl) (w := w.setCell ⟨g, off + 1, none⟩ (.int .i32 1)) (a := ⟨g, off, none⟩) (x := 0) ((World.cell?_setCell_other _ ⟨g, off + 1, none⟩ ⟨g, off, none⟩ _ (by simp)).trans h0)
  have hnot : ∀ (x : Bool) (w : World), (Op.unary .not (.bool x)).run Try.prog w = .ok (.bool (!x)) w := fun _ _ => rfl
  have HC := Aside0.mk hcall
  clear hcall
  go_enter_defers Try.func125, Try.ntmps125
  go_wp2_with (first
    | (go_at_call 131; refine (lock_free ⟨g, off + 1, none⟩ _ (by go_simp) (by go_simp)).mono ?_; rintro e w' ⟨rfl, rfl⟩)
    | (go_at_call 122; refine HC.out.mono ?_; rintro e w2 ⟨rfl, hw2⟩)
    | (go_at_call 124; go_in))
  have hp := hP w2 hw2
  refine leaves_cons (f := 133) (args := #[.pointer (some ⟨g, off, none⟩), .bool true]) (by simp) (by simp [go_sem]) ?_
  refine (store_deferred ⟨g, off, none⟩ (.int .u32 0) .returning _ hp.1 hp.2.2.1).mono ?_
  rintro e u' w'' ⟨rfl, rfl, rfl⟩
  refine leaves_cons (f := 132) (args := #[.pointer (some ⟨g, off + 1, none⟩)]) (by simp [settle]) (by simp [go_sem]) ?_
  refine (unlock_deferred ⟨g, off + 1, none⟩ _ _ ?_ (by simp [hp.2.2.2])).mono ?_
  · refine (World.cell?_setCell_other _ ⟨g, off, none⟩ ⟨g, off + 1, none⟩ _ (by simp)).trans ?_
    rw [World.cell?_drew]
    exact hp.2.1
  rintro e u' w'' ⟨rfl, rfl, rfl⟩
  simp [Leaves, settle, results, Try.results125]
  exact ⟨w2, hw2, rfl⟩
theorem do_first (g off : Nat) (p : Value) (Post : World → Prop) (w : World) (h0 : w.cell? ⟨g, off, none⟩ = some (.int .u32 0)) (h1 : w.cell? ⟨g, off + 1, none⟩ = some (.int .i32 0))
    (f0 : w.frozen? ⟨g, off, none⟩ = false) (f1 : w.frozen? ⟨g, off + 1, none⟩ = false)
    (hcall : Calls Try.prog 122 #[p] (w.setCell ⟨g, off + 1, none⟩ (.int .i32 1)) fun e w' => e = .returned (.tuple #[]) ∧ Post w')
    (hP : ∀ w', Post w' → w'.cell? ⟨g, off, none⟩ = some (.int .u32 0) ∧ w'.cell? ⟨g, off + 1, none⟩ = some (.int .i32 1) ∧ w'.frozen? ⟨g, off, none⟩ = false ∧ w'.frozen? ⟨g, off + 1, none⟩ = false) :
    Calls Try.prog 117 #[.pointer (some ⟨g, off, none⟩), .func (.func 122) #[p] #[]] w fun e w' => e = .returned (.tuple #[]) ∧ ∃ w2, Post w2 ∧ w' = (w2.drew.setCell ⟨g, off, none⟩ (.int .u32 1)).setCell ⟨g, off + 1, none⟩ (.int .i32 0) := by
  have hl := run_call_load (P := Try.prog) Try.func130 (by kernel_rfl) (by kernel_rfl) (by kernel_rfl) .u32 (by kernel_rfl) h0
  have hnot : ∀ (x : Bool) (w : World), (Op.unary .not (.bool x)).run Try.prog w = .ok (.bool (!x)) w := fun _ _ => rfl
  have HC := Aside0.mk (slow_c g off p Post w h0 h1 f0 f1 hcall hP)
  clear hcall hP
  go_enter Try.func117, Try.ntmps117
  go_wp2_with (first
    | (go_at_call 125; refine HC.out.mono ?_; rintro e w' ⟨rfl, w2, hw2, rfl⟩)
    | (go_at_call 124; go_in))
  go_end0
  exact ⟨rfl, w2, hw2, rfl⟩
/-- Done already: the function is not called. -/
theorem do_done (a : Addr) (fv : Value) (w : World) (h0 : w.cell? a = some (.int .u32 1)) :
    Calls Try.prog 117 #[.pointer (some a), fv] w fun e w' => e = .returned (.tuple #[]) ∧ w' = w := by
  have hl := run_call_load (P := Try.prog) Try.func130 (by kernel_rfl) (by kernel_rfl) (by kernel_rfl) .u32 (by kernel_rfl) h0
  have hnot : ∀ (x : Bool) (w : World), (Op.unary .not (.bool x)).run Try.prog w = .ok (.bool (!x)) w := fun _ _ => rfl
  go_enter Try.func117, Try.ntmps117
  go_wp2
  go_end0
  exact ⟨rfl, rfl⟩
end Go.Proofs.Ytphdlidaigalkaa.OnceBox
namespace Go.Proofs.Ytphdlidaigalkaa.Mat
open Go.RowKit Byte
set_option linter.unusedVariables false
set_option maxRecDepth 100000
def bendF : Rows := fun i => BitVec.ofNat 8 ([241, 227, 199, 143, 31, 62, 124, 248].getD i 0)
/-- The bend, turned back. -/
def straightF : Rows := fun i => BitVec.ofNat 8 ([164, 73, 146, 37, 74, 148, 41, 82].getD i 0)
theorem bend_straight_units : ∀ j : Fin 8, app bendF (app straightF (1#8 <<< j.val)) = 1#8 <<< j.val := by decide +kernel
theorem straight_bend_units : ∀ j : Fin 8, app straightF (app bendF (1#8 <<< j.val)) = 1#8 <<< j.val := by decide +kernel
theorem bend_straight (y : BitVec 8) : app bendF (app straightF y) = y :=
  app_of_units (F := fun y => app bendF (app straightF y)) (fun x y => by simp only [app_xor]) (fun j hj => bend_straight_units ⟨j, hj⟩) y
theorem straight_bend (y : BitVec 8) : app straightF (app bendF y) = y :=
  app_of_units (F := fun y => app straightF (app bendF y)) (fun x y => by simp only [app_xor]) (fun j hj => straight_bend_units ⟨j, hj⟩) y
theorem bend_rank : rank bendF = 8 := rank_full _ fun y => ⟨app straightF y, bend_straight y⟩
theorem inv_bend {g : Rows} {ok : Bool} (h : InvOf bendF g ok) : cells8 g = cells8 straightF := by
  have e : ok = true := h.full.2 bend_rank
  refine cells8_congr (rows_of_app fun y => ?_)
  have := (h.back e (app straightF y)).1
  rwa [bend_straight] at this
def ginv (a : BitVec 8) : BitVec 8 := GfMath.pow a 254
theorem ginv_tower (a : BitVec 8) : ginv a = app outF (TowMath.tinv (app inF a)) := by
  unfold ginv
  rw [← in_inv, out_in]
theorem tinv_tinv : ∀ a, TowMath.tinv (TowMath.tinv a) = a := by decide +kernel
theorem ginv_ginv (a : BitVec 8) : ginv (ginv a) = a := by
  rw [ginv_tower (ginv a), ginv_tower a, in_out, tinv_tinv, out_in]
/-- What a byte is substituted by. -/
def subB (x : BitVec 8) : BitVec 8 := app bendF (ginv x) ^^^ 99#8
/-- What it was substituted for. -/
def backB (y : BitVec 8) : BitVec 8 := ginv (app straightF (y ^^^ 99#8))
theorem back_sub (x : BitVec 8) : backB (subB x) = x := by
  unfold backB subB
  rw [xor_cancel, straight_bend, ginv_ginv]
theorem sub_back (y : BitVec 8) : subB (backB y) = y := by
  unfold backB subB
  rw [ginv_ginv, bend_straight, xor_cancel]
theorem sub_tower (x : BitVec 8) : subB x = app (mulF bendF outF) (TowMath.tinv (app inF x)) ^^^ 99#8 := by
  unfold subB
  rw [mul_app, ginv_tower]
theorem back_tower (y : BitVec 8) : backB y = app outF (TowMath.tinv (app (mulF inF straightF) (y ^^^ 99#8))) := by
  unfold backB
  rw [mul_app, ginv_tower]
def subR (x : BitVec 8) : BitVec 8 := app bendF (app outF (TowMath.tinv (app inR x))) ^^^ 99#8
theorem subB_R (x : BitVec 8) : subB x = subR x := by
  unfold subB subR
  rw [ginv_tower, in_app]
theorem sub_apart : ∀ x, subR x ≠ x ∧ (subR x).toNat + x.toNat ≠ 255 := by decide +kernel
theorem sub_0 : subB 0#8 = 99#8 := by rw [subB_R]; decide +kernel
theorem sub_83 : subB 83#8 = 237#8 := by rw [subB_R]; decide +kernel
end Go.Proofs.Ytphdlidaigalkaa.Mat
namespace Go.Proofs.Ytphdlidaigalkaa.Mat
open Go.RowKit Go.Proofs.Ytphdlidaigalkaa.PNib Go.Proofs.YtphdlidaigalkaaW.PrintWords Go.Proofs.YtphdlidaigalkaaW.PrintLast Go.Proofs.YtphdlidaigalkaaW.PrintMore Byte Sl Arr Mem Gives ArrEq
set_option linter.unusedVariables false
set_option linter.unusedSimpArgs false
set_option maxHeartbeats 4000000
set_option maxRecDepth 100000
def kk (q : Nat) : Nat := [0, 4, 5, 6, 7].getD q 0
def kks : List Int := [0, 4, 5, 6, 7]
theorem kk_lt : ∀ q : Fin 5, kk q.val < 8 ∧ kks.getD q.val 0 = (kk q.val : Int) := by decide +kernel
def br (i : Nat) : Nat → BitVec 8
  | 0 => 0#8
  | q + 1 => br i q ||| 1#8 <<< ((i + kk q) % 8)
def brTo (i q : Nat) : Rows := fun k => if k < i then br k 5 else if k = i then br i q else 0#8
theorem brTo_zero : cells8 (brTo 0 0) = cells8 zrow := cells8_congr fun k _ => by
  unfold brTo
  rw [if_neg (by omega)]
  split <;> rfl
theorem brTo_next (i : Nat) : cells8 (brTo i 5) = cells8 (brTo (i + 1) 0) := cells8_congr fun k _ => by
  unfold brTo
  by_cases h : k < i
  · rw [if_pos h, if_pos (by omega)]
  · by_cases h2 : k = i
    · subst h2; rw [if_neg h, if_pos rfl, if_pos (by omega)]
    · rw [if_neg h, if_neg h2, if_neg (by omega)]
      split <;> rfl
theorem brTo_end : cells8 (brTo 8 0) = cells8 bendF := cells8_congr fun k hk => by
  have : ∀ k : Fin 8, br k.val 5 = bendF k.val := by decide +kernel
  unfold brTo
  rw [if_pos hk]
  exact this ⟨k, hk⟩
theorem brTo_at (i q : Nat) : brTo i q i = br i q := by
  unfold brTo
  rw [if_neg (by omega), if_pos rfl]
theorem brTo_set (i q : Nat) (hi : i < 8) : (cells8 (brTo i q)).set i (I8 (br i q ||| 1#8 <<< ((i + kk q) % 8))) = cells8 (brTo i (q + 1)) := by
  rw [cells8_set _ _ hi]
  refine put_congr fun k _ => ?_
  unfold brTo
  by_cases h : k = i
  · subst h
    rw [if_pos rfl, if_neg (by omega), if_pos rfl]; rfl
  · rw [if_neg h]
    by_cases h2 : k < i
    · rw [if_pos h2, if_pos h2]
    · rw [if_neg h2, if_neg h, if_neg h2, if_neg h]
theorem bend_c : GivesB 128 #[] (.agg (cellsOf .u8 (cells8 bendF))) := by
  intro w
  have M1 := Aside0.mk (Mem.alloc (Mem.new .u8 w 67 (cells8 zrow)) (.cells (cellsOf .u8 (cells8 zrow)) 67))
  have M2 := Aside0.mk (Mem.new2 .u8 w (.cells (cellsOf .u8 (cells8 zrow)) 67) 67 (cells8 zrow))
  have HB := Aside0.mk (below_alloc (below_alloc (Below.refl w.heap.size w) (.cells (cellsOf .u8 (cells8 zrow)) 67)) (.cells (cellsOf .u8 (cells8 zrow)) 67))
  go_enter Try.func128, Try.ntmps128
  go_wp2
  go_loopg [5] 8 (fun kq iv w' => ∃ i : Nat, i + kq = 8 ∧ iv = .int .i64 i ∧ Aside0 (Mem .u8 w' w.heap.size 67 (cells8 zrow)) ∧ Aside0 (Mem .u8 w' (w.heap.size + 1) 67 (cells8 (brTo i 0))) ∧ Aside0 (Below w.heap.size w w'))
  case atStart => exact ⟨0, by omega, rfl, M1, ⟨by rw [brTo_zero]; exact M2.out⟩, HB⟩
  case round =>
    clear M1 M2 HB
    obtain ⟨i, hi, rfl, M1, M2, HB⟩ := hrel
    cases gk with
    | zero =>
      obtain rfl : i = 8 := by omega
      rw [brTo_end] at M2
      go_wp2_with (first
        | ((with_reducible refine gate_dst (N := 26) rfl ?_); refine Mem.load M2.out rfl 67 (.tmp 1) rfl rfl Try.underlying67 (by rw [cells8_length]; exact info_mat) ?_)
        | ((with_reducible refine gate_store (t := 67) (p := 0) rfl ?_); refine Mem.store (l' := cells8 bendF) M1.out rfl 67 (.tmp 0) (.tmp 26) rfl rfl rfl (by rw [cells8_length]; exact info_mat) (by simp only [cells8_length]) ?_))
      refine bodyPost_ret (v := .agg (cellsOf .u8 (cells8 (bendF)))) (results_cell_row rfl _ _ _ _ _ _ _ rfl (Mem.put M1.out (cells8 (bendF))) Try.underlying67 rfl (by rw [cellsOf_size, cells8_length]; exact info_mat)) rfl ⟨rfl, below_setRow HB.out (by omega) _⟩
    | succ k1 =>
      have hil : i < 8 := by omega
      have HI := Aside0.mk hi
      clear hi
      have hi1 : (i : Int) < 8 := by omega
      have hi3 : (0 : Int) ≤ (i : Int) := by omega
      have hg2 := M2.out.lt
      have HS := HB.out.size
      have N1 := Aside0.mk (Mem.alloc M1.out (.cells (cellsOf .i64 kks) 3))
      have N2 := Aside0.mk (Mem.alloc M2.out (.cells (cellsOf .i64 kks) 3))
      have N5 := Aside0.mk (Mem.new .i64 wr 3 kks)
      have NB := Aside0.mk (below_alloc HB.out (.cells (cellsOf .i64 kks) 3))
      obtain ⟨b5, hb5⟩ : ∃ b, b = wr.heap.size := ⟨_, rfl⟩
      go_wp2
      rw [← hb5] at N5 ⊢
      have HG5 := Aside0.mk (show w.heap.size + 1 < b5 by omega)
      clear hb5
      go_loopg [10] 5 (fun kq qv w' => ∃ q : Nat, q + kq = 5 ∧ qv = .int .i64 q ∧ Aside0 (Mem .u8 w' w.heap.size 67 (cells8 zrow)) ∧ Aside0 (Mem .u8 w' (w.heap.size + 1) 67 (cells8 (brTo i q))) ∧ Aside0 (Mem .i64 w' b5 3 kks) ∧ Aside0 (Below w.heap.size w w'))
      case atStart => exact ⟨0, by omega, rfl, N1, N2, N5, NB⟩
      case round =>
        clear N1 N2 N5 NB M1 M2 HB
        obtain ⟨q, hq, rfl, M1, M2, M5, HB⟩ := hrel
        cases gk with
        | zero =>
          obtain rfl : q = 5 := by omega
          go_wp2
          go_roundg k1
          case measure => omega
          case rel => exact ⟨i + 1, by have := HI.out; omega, by go_num, M1, ⟨by rw [← brTo_next]; exact M2.out⟩, HB⟩
        | succ k2 =>
          have hql : q < 5 := by omega
          have HQ := Aside0.mk hq
          clear hq
          have hq1 : (q : Int) < 5 := by omega
          have hq3 : (0 : Int) ≤ (q : Int) := by omega
          have hk := kk_lt ⟨q, hql⟩
          have hc := M5.out.cell q hql
          rw [show kks.getD q 0 = (kk q : Int) from hk.2] at hc
          have hx := M2.out.cell i (by rw [cells8_length]; exact hil)
          rw [cells8_get _ _ hil, brTo_at] at hx
          have hf := M2.out.free i
          have hkl : kk q < 8 := hk.1
          obtain ⟨d, hd⟩ : ∃ d, d = (i + kk q) % 8 := ⟨_, rfl⟩
          have HV := brTo_set i q hil
          rw [← hd] at HV
          obtain ⟨sm, hsm⟩ : ∃ sm, sm = i + kk q := ⟨_, rfl⟩
          have f1 : IntKind.i64.wrap ((i : Int) + (kk q : Int)) = (sm : Int) := by rw [IntKind.wrap_i64]; omega
          have f2 : Int.tmod (sm : Int) 8 = (d : Int) := by rw [Int.tmod_eq_emod_of_nonneg (by omega)]; omega
          have f3 : (sm : Int) % 8 = (d : Int) := by omega
          have hd8 : d < 8 := by omega
          have hd1 : (d : Int) ≤ 8 := by omega
          have hd3 : (0 : Int) ≤ (d : Int) := by omega
          have hs := shl1 d
          have ho := or8 (br i q) (1#8 <<< d)
          rw [← ho, ← hs] at HV
          have HV := Aside0.mk HV
          clear hd hsm hk ho hs
          generalize kk q = kq at *
          generalize br i q = row at *
          go_wp2
          refine start_ (n := 11) (S := fun w' => w'.cell? ⟨w.heap.size + 1, i, none⟩ = some (.int .u8 (I8 row))) (ds := [10]) #[false, false, false, false, false, false, false, false, false, false, false] (by kernel_rfl) rfl rfl (hx) (fun hHeld => ?_)
          refine pure_ (i := 0) (N := some 14) (v := ?_) (a' := ?_) #[true, false, false, false, false, false, false, false, false, false, false] rfl rfl (by kernel_rfl) (fun _ _ _ h => h) (Or.inl ⟨by rfl, ?_⟩) ?_ ?_
          rotate_left
          · intro w'
            go_simp
            with_reducible rfl
          rotate_left
          · simp only [Act.put, List.setIfInBounds_toArray, List.set_cons_zero, List.set_cons_succ, i64_w, i32_w]
            rfl
          refine pure_ (i := 1) (N := some 15) (v := ?_) (a' := ?_) #[true, true, false, false, false, false, false, false, false, false, false] rfl rfl (by kernel_rfl) (fun _ _ _ h => h) (Or.inl ⟨by rfl, ?_⟩) ?_ ?_
          rotate_left
          · intro w'
            go_simp
            with_reducible rfl
          rotate_left
          · simp only [Act.put, List.setIfInBounds_toArray, List.set_cons_zero, List.set_cons_succ, i64_w, i32_w]
            rfl
          refine pure_ (i := 3) (N := some 17) (v := ?_) (a' := ?_) #[true, true, false, true, false, false, false, false, false, false, false] rfl rfl (by kernel_rfl) (fun _ _ _ h => h) (Or.inl ⟨by rfl, ?_⟩) ?_ ?_
          rotate_left
          · intro w'
            go_simp
            with_reducible rfl
          rotate_left
          · simp only [Act.put, List.setIfInBounds_toArray, List.set_cons_zero, List.set_cons_succ, i64_w, i32_w]
            rfl
          refine pure_ (i := 4) (N := some 18) (v := ?_) (a' := ?_) #[true, true, false, true, true, false, false, false, false, false, false] rfl rfl (by kernel_rfl) (fun _ _ _ h => h) (Or.inl ⟨by rfl, ?_⟩) ?_ ?_
          rotate_left
          · intro w'
            go_simp
            with_reducible rfl
          rotate_left
          · simp only [Act.put, List.setIfInBounds_toArray, List.set_cons_zero, List.set_cons_succ, i64_w, i32_w]
            rfl
          refine pure_ (i := 5) (N := some 19) (v := ?_) (a' := ?_) #[true, true, false, true, true, true, false, false, false, false, false] rfl rfl (by kernel_rfl) (fun _ _ _ h => h) (Or.inl ⟨by rfl, ?_⟩) ?_ ?_
          rotate_left
          · intro w'
            go_simp
            with_reducible rfl
          rotate_left
          · simp only [Act.put, List.setIfInBounds_toArray, List.set_cons_zero, List.set_cons_succ, i64_w, i32_w]
            rfl
          refine pure_ (i := 6) (N := some 20) (v := ?_) (a' := ?_) #[true, true, false, true, true, true, true, false, false, false, false] rfl rfl (by kernel_rfl) (fun _ _ _ h => h) (Or.inl ⟨by rfl, ?_⟩) ?_ ?_
          rotate_left
          · intro w'
            go_simp
            with_reducible rfl
          rotate_left
          · simp only [Act.put, List.setIfInBounds_toArray, List.set_cons_zero, List.set_cons_succ, i64_w, i32_w]
            rfl
          refine pure_ (i := 7) (N := some 21) (v := ?_) (a' := ?_) #[true, true, false, true, true, true, true, true, false, false, false] rfl rfl (by kernel_rfl) (fun _ _ _ h => h) (Or.inl ⟨by rfl, ?_⟩) ?_ ?_
          rotate_left
          · intro w'
            go_simp
            with_reducible rfl
          rotate_left
          · simp only [Act.put, List.setIfInBounds_toArray, List.set_cons_zero, List.set_cons_succ, i64_w, i32_w]
            rfl
          refine take_ (i := 2) (N := some 16) (v := ?_) (a' := ?_) #[true, true, true, true, true, true, true, true, false, false, false] rfl rfl (by kernel_rfl) (fun _ _ _ h => h) (Or.inl ⟨by rfl, ?_⟩) hHeld ?_ ?_
          rotate_left
          · intro w' s0
            go_simp
            with_reducible rfl
          rotate_left
          · simp only [Act.put, List.setIfInBounds_toArray, List.set_cons_zero, List.set_cons_succ, i64_w, i32_w]
            rfl
          refine pure_ (i := 8) (N := some 22) (v := ?_) (a' := ?_) #[true, true, true, true, true, true, true, true, true, false, false] rfl rfl (by kernel_rfl) (fun _ _ _ h => h) (Or.inl ⟨by rfl, ?_⟩) ?_ ?_
          rotate_left
          · intro w'
            go_simp
            with_reducible rfl
          rotate_left
          · simp only [Act.put, List.setIfInBounds_toArray, List.set_cons_zero, List.set_cons_succ, i64_w, i32_w]
            rfl
          refine pure_ (i := 9) (N := some 23) (v := ?_) (a' := ?_) #[true, true, true, true, true, true, true, true, true, true, false] rfl rfl (by kernel_rfl) (fun _ _ _ h => h) (Or.inl ⟨by rfl, ?_⟩) ?_ ?_
          rotate_left
          · intro w'
            go_simp
            with_reducible rfl
          rotate_left
          · simp only [Act.put, List.setIfInBounds_toArray, List.set_cons_zero, List.set_cons_succ, i64_w, i32_w]
            rfl
          refine last_ (i := 10) (N := none) #[true, true, true, true, true, true, true, true, true, true, true] rfl rfl (by kernel_rfl) (by decide) (fun K hK => ?_)
          refine skip_ (w1 := ?_) (by rfl) rfl ?_ ?_
          rotate_left
          · go_simp
            rfl
          refine hK.out _ _ ?_
          clear hK K
          refine done_ (by kernel_rfl) ?_
          go_wp2
          go_roundg k2
          case measure => omega
          case rel => exact ⟨q + 1, by have := HQ.out; omega, by go_num, ⟨Mem.drew (Mem.other M1.out (g' := w.heap.size + 1) (by omega) _ _)⟩, ⟨by rw [← HV.out]; exact Mem.drew (Mem.set M2.out _ _)⟩, ⟨Mem.drew (Mem.other M5.out (g' := w.heap.size + 1) (by have := HG5.out; omega) _ _)⟩, ⟨below_drew (below_set HB.out (by omega))⟩⟩
end Go.Proofs.Ytphdlidaigalkaa.Mat
namespace Go.Proofs.Ytphdlidaigalkaa.Mat
open Go.RowKit Go.Proofs.Ytphdlidaigalkaa.PNib Go.Proofs.YtphdlidaigalkaaW.PrintWords Go.Proofs.YtphdlidaigalkaaW.PrintLast Go.Proofs.YtphdlidaigalkaaW.PrintMore Byte Sl Arr Mem Gives ArrEq
set_option linter.unusedVariables false
set_option linter.unusedSimpArgs false
set_option maxHeartbeats 4000000
set_option maxRecDepth 100000
def bx (F : Nat → Value) : Array Value := ((List.range 547).map F).toArray
theorem bx_size (F : Nat → Value) : (bx F).size = 547 := by simp [bx]
theorem bx_get (F : Nat → Value) (k : Nat) (h : k < 547) : (bx F)[k]? = some (F k) := by simp [bx, h]
def upd (F : Nat → Value) (k : Nat) (v : Value) : Nat → Value := fun j => if j = k then v else F j
theorem bx_set (F : Nat → Value) (k : Nat) (v : Value) : (bx F).setIfInBounds k v = bx (upd F k v) := by
  refine Array.ext_getElem? fun j => ?_
  rw [Array.getElem?_setIfInBounds, bx_size]
  rcases Nat.lt_or_ge j 547 with hj | hj
  · rw [bx_get _ _ hj, bx_get _ _ hj]
    unfold upd
    by_cases e : k = j
    · subst e; simp [hj]
    · simp [e, Ne.symm e]
  · rw [Array.getElem?_eq_none (by rw [bx_size]; exact hj), Array.getElem?_eq_none (by rw [bx_size]; exact hj)]
    split <;> simp
    omega
def BAt (w : World) (g : Nat) (F : Nat → Value) : Prop := w.heap[g]? = some (.cells (bx F) 134 (0, 0))
section
variable {w : World} {g : Nat} {F : Nat → Value}
theorem BAt.lt (h : BAt w g F) : g < w.heap.size := (Array.getElem?_eq_some_iff.1 h).1
theorem BAt.below (h : BAt w g F) {w' : World} (hb : Below w.heap.size w w') : BAt w' g F := (hb.block g h.lt).trans h
theorem BAt.free (h : BAt w g F) (j : Nat) : w.frozen? ⟨g, j, none⟩ = false := by
  unfold World.frozen?
  rw [h]
  simp
theorem BAt.cell (h : BAt w g F) (j : Nat) (hj : j < 547) : w.cell? ⟨g, j, none⟩ = some (F j) := by
  rw [cell_of_row w g j _ _ _ h, bx_get _ _ hj]
theorem BAt.set (h : BAt w g F) (j : Nat) (v : Value) : BAt (w.setCell ⟨g, j, none⟩ v) g (upd F j v) := by
  have hlt := h.lt
  unfold BAt at h ⊢
  rw [Array.getElem?_eq_getElem hlt] at h
  have h0 := Option.some.inj h
  show (w.heap.modify g _)[g]? = _
  rw [Array.getElem?_modify, if_pos rfl, Array.getElem?_eq_getElem hlt, h0, ← bx_set]
  rfl
theorem BAt.other (h : BAt w g F) {g' : Nat} (hne : g' ≠ g) (j : Nat) (v : Value) : BAt (w.setCell ⟨g', j, none⟩ v) g F := by
  unfold BAt at h ⊢
  show (w.heap.modify g' _)[g]? = _
  rw [Array.getElem?_modify, if_neg hne]; exact h
theorem BAt.row (h : BAt w g F) {g' : Nat} (hne : g' ≠ g) (cs : Array Value) : BAt (w.setRow g' cs) g F := by
  unfold BAt at h ⊢
  rw [setRow_other w g' g cs (Ne.symm hne)]; exact h
def updL (F : Nat → Value) : Nat → List Value → Nat → Value
  | _, [] => F
  | o, v :: vs => updL (upd F o v) (o + 1) vs
theorem BAt.sets : ∀ (vs : List Value) (o : Nat) (w : World) (F : Nat → Value), BAt w g F → BAt (w.setCells g o vs) g (updL F o vs)
  | [], _, _, _, h => h
  | v :: vs, o, w, F, h => BAt.sets vs (o + 1) _ _ (h.set o v)
theorem updL_out : ∀ (vs : List Value) (o : Nat) (F : Nat → Value) (k : Nat), (k < o ∨ o + vs.length ≤ k) → updL F o vs k = F k
  | [], _, _, _, _ => rfl
  | v :: vs, o, F, k, h => by
    rw [List.length_cons] at h
    rw [updL, updL_out vs (o + 1) _ k (by omega)]
    unfold upd
    rw [if_neg (by omega)]
theorem updL_in : ∀ (vs : List Value) (o : Nat) (F : Nat → Value) (j : Nat) (v : Value), vs[j]? = some v → updL F o vs (o + j) = v
  | [], _, _, _, _, h => by simp at h
  | u :: vs, o, F, 0, v, h => by
    rw [updL, updL_out vs (o + 1) _ (o + 0) (by omega)]
    unfold upd
    rw [Nat.add_zero, if_pos rfl]
    simpa using h
  | u :: vs, o, F, j + 1, v, h => by
    rw [updL, show o + (j + 1) = (o + 1) + j by omega]
    exact updL_in vs (o + 1) _ j v (by simpa using h)
theorem BAt.range (h : BAt w g F) (o : Nat) (cs : List Value) (hl : o + cs.length ≤ 547) (he : ∀ j v, cs[j]? = some v → F (o + j) = v) : w.rangeAt g o cs := fun j v hv => by
  have hj := (List.getElem?_eq_some_iff.1 hv).1
  rw [h.cell (o + j) (by omega), he j v hv]
theorem BAt.there (h : BAt w g F) (o n : Nat) (hn : o + n ≤ 547) : w.there g o n := fun j hj => ⟨by rw [h.cell (o + j) (by omega)]; rfl, h.free (o + j)⟩
end
def F0 : Nat → Value := fun k => if k = 0 ∨ k = 2 then .int .u32 0 else if k = 1 then .int .i32 0 else .int .u8 0
theorem newbox_c (w : World) : Calls Try.prog 48 #[] w fun e w' => ∃ g, e = .returned (.pointer (some ⟨g, 0, none⟩)) ∧ w.heap.size ≤ g ∧ BAt w' g F0 ∧ Below w.heap.size w w' := by
  go_enter Try.func48, Try.ntmps48
  go_wp2
  go_ret
  refine ⟨w.heap.size, rfl, Nat.le_refl _, ?_, below_alloc (Below.refl _ _) _⟩
  show (w.heap.push _)[w.heap.size]? = _
  rw [Array.getElem?_push_size]
  kernel_rfl
end Go.Proofs.Ytphdlidaigalkaa.Mat
namespace Go.Proofs.Ytphdlidaigalkaa.Mat
open Go.RowKit Go.Proofs.Ytphdlidaigalkaa.PNib Go.Proofs.YtphdlidaigalkaaW.PrintWords Go.Proofs.YtphdlidaigalkaaW.PrintLast Go.Proofs.YtphdlidaigalkaaW.PrintMore Byte Sl Arr Mem Gives ArrEq
set_option linter.unusedVariables false
set_option linter.unusedSimpArgs false
set_option maxHeartbeats 4000000
set_option maxRecDepth 100000
theorem Ch.row' {g b : Nat} {w w' : World} (h : Ch g w w') (hb : w.heap.size ≤ b) (cs : Array Value) : Ch g w (w'.setRow b cs) :=
  ⟨h.os, h.tape, h.output, by rw [setRow_size]; exact h.size, fun k hk hne => (setRow_other _ b k _ (by omega)).trans (h.block k hk hne)⟩
theorem Ch.far {g b : Nat} {w w' w2 : World} (h : Ch g w w') (hb : w.heap.size ≤ b) (k : Ch b w' w2) : Ch g w w2 :=
  ⟨k.os.trans h.os, k.tape.trans h.tape, k.output.trans h.output, Nat.le_trans h.size k.size, fun i hi hne => (k.block i (Nat.lt_of_lt_of_le hi h.size) (fun e => by have := Option.some.inj e; omega)).trans (h.block i hi hne)⟩
theorem Ch.step {g : Nat} {w w' w2 : World} (h : Ch g w w') (hb : Below w'.heap.size w' w2) : Ch g w w2 := h.trans (Ch.of_below hb)
theorem upd_at (F : Nat → Value) (k : Nat) (v : Value) : upd F k v k = v := by simp [upd]
theorem upd_ne (F : Nat → Value) (k j : Nat) (v : Value) (h : j ≠ k) : upd F k v j = F j := by simp [upd, h]
/-- The tables, as far as they are filled. -/
structure Upto (F0' F : Nat → Value) (x : Nat) : Prop where
  z0 : F 0 = F0' 0
  z1 : F 1 = F0' 1
  sub : ∀ n, n < x → F (3 + n) = .int .u8 (I8 (subB (byt n)))
  back : ∀ n, n < x → F (259 + (subB (byt n)).toNat) = .int .u8 (n : Int)
theorem Upto.next {F0' F : Nat → Value} {x : Nat} (h : Upto F0' F x) (hx : x < 256) : Upto F0' (upd (upd F (3 + x) (.int .u8 (I8 (subB (byt x))))) (259 + (subB (byt x)).toNat) (.int .u8 (x : Int))) (x + 1) where
  z0 := by rw [upd_ne _ _ _ _ (by omega), upd_ne _ _ _ _ (by omega)]; exact h.z0
  z1 := by rw [upd_ne _ _ _ _ (by omega), upd_ne _ _ _ _ (by omega)]; exact h.z1
  sub n hn := by
    have := (subB (byt x)).isLt
    rw [upd_ne _ _ _ _ (by omega)]
    by_cases e : n = x
    · subst e; rw [upd_at]
    · rw [upd_ne _ _ _ _ (by omega)]; exact h.sub n (by omega)
  back n hn := by
    have hs := (subB (byt n)).isLt
    by_cases e : n = x
    · subst e; rw [upd_at]
    · have hne : (subB (byt n)).toNat ≠ (subB (byt x)).toNat := fun h2 => by
        have h3 : subB (byt n) = subB (byt x) := BitVec.eq_of_toNat_eq h2
        have h4 : byt n = byt x := by rw [← back_sub (byt n), h3, back_sub]
        have h5 := toNat_byt n (by omega)
        rw [h4, toNat_byt x hx] at h5
        omega
      rw [upd_ne _ _ _ _ (by omega), upd_ne _ _ _ _ (by omega)]
      exact h.back n (by omega)
theorem cell_yields0 {o : Oper} {a : Act} {w : World} {x y : Operand} {g j : Nat} {old : Value} {v : Int} (hc : w.cell? ⟨g, j, none⟩ = some old) (hf : w.frozen? ⟨g, j, none⟩ = false) (ho : o.op = .store 5 x y) (hx : a.eval x = .pointer (some ⟨g, j, none⟩)) (hy : a.eval y = .int .u8 v) : (execOp a.eval o).run Try.prog w = .ok .skip (w.setCell ⟨g, j, none⟩ (.int .u8 v)) := by
  unfold execOp
  rw [ho]
  simp only [hx, hy]
  go_simp
theorem wp_store_box {ops : Array Oper} {rest : List Oper} {op : Oper} {a : Act} {Q : Exit → Act → World → Prop} {w : World} {g : Nat} {F : Nat → Value} (h : BAt w g F) (j : Nat) (hj : j < 547) (v : Int) (hgd : op.guard = none) (x y : Operand) (ho : op.op = .store 5 x y) (hx : a.eval x = .pointer (some ⟨g, j, none⟩)) (hy : a.eval y = .int .u8 v)
    (hK : wpList Try.prog ops Q rest (a.put op.dst undef) (w.setCell ⟨g, j, none⟩ (.int .u8 v))) : wpList Try.prog ops Q (op :: rest) a w := by
  refine wpList_plain hgd fun K hK' => ?_
  unfold Oper.wp
  rw [cell_yields0 (h.cell j hj) (h.free j) ho hx hy]
  exact hK' _ _ hK
abbrev c8 (f : Rows) : Array Value := cellsOf .u8 (cells8 f)
theorem built4 (f0 f1 f2 f3 : Rows) : Try.prog.built 77 [(0, .agg (c8 f0)), (1, .agg (c8 f1)), (2, .agg (c8 f2)), (3, .agg (c8 f3))] = some (c8 f0 ++ c8 f1 ++ c8 f2 ++ c8 f3) := by kernel_rfl
theorem build4_yields {o : Oper} {a : Act} {w : World} {x0 x1 x2 x3 : Operand} {f0 f1 f2 f3 : Rows} (ho : o.op = .build 77 #[(0, x0), (1, x1), (2, x2), (3, x3)]) (h0 : a.eval x0 = .agg (c8 f0)) (h1 : a.eval x1 = .agg (c8 f1)) (h2 : a.eval x2 = .agg (c8 f2)) (h3 : a.eval x3 = .agg (c8 f3)) : (execOp a.eval o).run Try.prog w = .ok (.value (.agg (c8 f0 ++ c8 f1 ++ c8 f2 ++ c8 f3))) w := by
  unfold execOp
  simp only [ho, Sem.run_bind]
  have e : ((#[(0, x0), (1, x1), (2, x2), (3, x3)] : Array (Nat × Operand)).map fun (i, x) => (i, a.eval x)).toList = [(0, .agg (c8 f0)), (1, .agg (c8 f1)), (2, .agg (c8 f2)), (3, .agg (c8 f3))] := by simp [h0, h1, h2, h3]
  rw [run_build w _ _ _ (by rw [e]; exact built4 f0 f1 f2 f3)]
  rfl
/-- The four ways, one behind the other. -/
def wcells : Array Value := c8 inF ++ c8 (mulF bendF outF) ++ c8 (mulF inF straightF) ++ c8 outF
theorem wcells_size : wcells.size = 32 := by
  unfold wcells c8
  simp [cellsOf_size, cells8_length]
theorem wcells_one : wcells.all (·.oneCell') = true := by
  unfold wcells c8
  simp [cellsOf, Value.oneCell']
theorem info_w4 : (Try.prog.info? 77).map (·.size) = some 32 := by kernel_rfl
theorem box_store_yields {o : Oper} {a : Act} {w : World} {x y : Operand} {g : Nat} {F : Nat → Value} (h : BAt w g F) (ho : o.op = .store 77 x y) (hx : a.eval x = .pointer (some ⟨g, 515, none⟩)) (hy : a.eval y = .agg wcells) : (execOp a.eval o).run Try.prog w = .ok .skip (w.setCells g 515 wcells.toList) := by
  unfold execOp
  simp only [ho, hx, hy, Sem.run_bind, Sem.run_pure, Result.andThen_ok, run_storeAt_mid w g 515 77 wcells (by rw [wcells_size]; exact h.there 515 32 (by omega)) (by rw [wcells_size]; exact info_w4) wcells_one]
/-- The box is full. -/
structure Full (F0' F : Nat → Value) : Prop where
  z0 : F 0 = F0' 0
  z1 : F 1 = F0' 1
  sub : ∀ b : BitVec 8, F (3 + b.toNat) = .int .u8 (I8 (subB b))
  back : ∀ b : BitVec 8, F (259 + b.toNat) = .int .u8 (I8 (backB b))
  ways : ∀ (j : Nat) (v : Value), wcells.toList[j]? = some v → F (515 + j) = v
theorem Upto.full {F0' F : Nat → Value} (h : Upto F0' F 256) : Full F0' (updL F 515 wcells.toList) where
  z0 := by rw [updL_out _ _ _ 0 (.inl (by omega))]; exact h.z0
  z1 := by rw [updL_out _ _ _ 1 (.inl (by omega))]; exact h.z1
  sub b := by
    have hb := b.isLt
    rw [updL_out _ _ _ _ (.inl (by omega)), h.sub b.toNat hb, byt_toNat]
  back b := by
    have hb := b.isLt
    rw [updL_out _ _ _ _ (.inl (by omega))]
    have := h.back (backB b).toNat (backB b).isLt
    rwa [byt_toNat, sub_back] at this
  ways j v hv := updL_in _ _ _ j v hv
theorem FRow.row {w : World} {g : Nat} {cs : Array Value} (h : FRow w g cs) {g' : Nat} (hne : g' ≠ g) (cs' : Array Value) : FRow (w.setRow g' cs') g cs := by
  unfold FRow at h ⊢
  rw [setRow_other w g' g cs' (Ne.symm hne)]; exact h
theorem mem_ch {k : IntKind} {w w' : World} {b g' : Nat} {t : TypeId} {l : List Int} (h : _root_.Go.Proofs.Ytphdlidaigalkaa.Mem.Mem k w b t l) (hc : Ch g' w w') (hne : b ≠ g') : _root_.Go.Proofs.Ytphdlidaigalkaa.Mem.Mem k w' b t l := (hc.block b (_root_.Go.Proofs.Ytphdlidaigalkaa.Mem.Mem.lt h) (fun e => hne (Option.some.inj e))).trans h
theorem BAt.ch {w w' : World} {g g' : Nat} {F : Nat → Value} (h : BAt w g F) (hc : Ch g' w w') (hne : g ≠ g') : BAt w' g F := (hc.block g h.lt (fun e => hne (Option.some.inj e))).trans h
theorem FAt.below {w w' : World} {g : Nat} {d s : Int} {i o : Rows} (h : FAt w g d s i o) (hb : Below w.heap.size w w') : FAt w' g d s i o := FRow.below h hb
theorem gx_c (x : Nat) (hx : x < 256) : GivesB 45 #[.int .u8 (x : Int)] (.int .u8 (I8 (ginv (byt x)))) := by
  have := ginv_c (byt x)
  rwa [byt_I8 x hx] at this
theorem fill_c {w : World} {g : Nat} {F : Nat → Value} (h : BAt w g F) : Calls Try.prog 122 #[.pointer (some ⟨g, 0, none⟩)] w fun e w' => e = .returned (.tuple #[]) ∧ ∃ F', Full F F' ∧ BAt w' g F' ∧ Ch g w w' := by
  have H := Aside0.mk h
  have HLT := Aside0.mk h.lt
  have CH := Aside0.mk (Ch.refl (g := g) w)
  have C1 := Aside0.mk bend_c
  clear h
  go_enter Try.func122, Try.ntmps122
  go_wp2_with (first
    | (go_at_call 128; (with_reducible refine (C1.out.q _).mono ?_); rintro e w1 ⟨rfl, hb1⟩; have hs1 := Aside0.mk hb1.size; have H := Aside0.mk (BAt.row (BAt.below (BAt.below H.out hb1) (below_alloc (Below.refl _ _) (.cells (cellsOf .u8 (cells8 zrow)) 67))) (g' := w1.heap.size) (by have := HLT.out; have := hs1.out; omega) (cellsOf .u8 (cells8 bendF))); have Z2 := Aside0.mk (Mem.new .u8 w1 67 (cells8 zrow)); have M2 := Aside0.mk (Mem.put Z2.out (cells8 bendF)); have CH := Aside0.mk (Ch.row' (Ch.step (Ch.step CH.out hb1) (below_alloc (Below.refl _ _) (.cells (cellsOf .u8 (cells8 zrow)) 67))) (b := w1.heap.size) hs1.out (cellsOf .u8 (cells8 bendF))))
    | ((with_reducible refine gate_store (t := 67) (p := 2) rfl ?_); refine Mem.store (l' := cells8 bendF) Z2.out rfl 67 (.tmp 2) (.tmp 8) rfl rfl rfl (by rw [cells8_length]; exact info_mat) (by simp only [cells8_length]) ?_))
  clear Z2
  obtain ⟨b2, hb2⟩ : ∃ b, b = w1.heap.size := ⟨_, rfl⟩
  rw [← hb2] at M2 hs1 H CH
  rw [← hb2]
  have HB2 := Aside0.mk (show w.heap.size ≤ b2 from hs1.out)
  clear hb2
  go_loopg [9] 256 (fun kq xv w' => ∃ (x : Nat) (F' : Nat → Value), x + kq = 256 ∧ xv = .int .i64 x ∧ Aside0 (Upto F F' x) ∧ Aside0 (BAt w' g F') ∧ Aside0 (Mem .u8 w' b2 67 (cells8 bendF)) ∧ Aside0 (Ch g w w'))
  case atStart => exact ⟨0, F, by omega, rfl, ⟨⟨rfl, rfl, fun n hn => absurd hn (by omega), fun n hn => absurd hn (by omega)⟩⟩, H, M2, CH⟩
  case round =>
    clear H M2 CH
    obtain ⟨x, F', hx, rfl, HU, H, M2, CH⟩ := hrel
    cases gk with
    | zero =>
      obtain rfl : x = 256 := by omega
      have HFU := Aside0.mk HU.out.full
      have CN := Aside0.mk new_c
      have CI := Aside0.mk (inv_c bendF)
      rw [matV_eq] at CI
      have HG := Aside0.mk (show b2 ≠ g from fun e => by have := HB2.out; have := HLT.out; omega)
      have HWR := Aside0.mk CH.out.size
      have B2W := Aside0.mk M2.out.lt
      go_wp2_with (first
        | (go_at_call 29; (with_reducible refine (CN.out _).mono ?_); rintro e w2 ⟨gf, rfl, hgf, hF, hb2⟩; have hgf := Aside0.mk hgf; have FH := Aside0.mk hF; have H := Aside0.mk (BAt.below H.out hb2); have M2 := Aside0.mk (Mem.below M2.out hb2); have CH := Aside0.mk (Ch.step CH.out hb2); clear hF hb2)
        | ((with_reducible refine gate_dst (N := 34) rfl ?_); refine Mem.load M2.out rfl 67 (.tmp 2) rfl rfl Try.underlying67 (by rw [cells8_length]; exact info_mat) ?_)
        | (go_at_call 127; (with_reducible refine (CI.out _).mono ?_); rintro e w3 ⟨st, ok, rfl, hI, hb3⟩; have HI := Aside0.mk (inv_bend hI); have hs3 := Aside0.mk hb3.size; have lt2 := Aside0.mk (Nat.lt_of_lt_of_le M2.out.lt hb3.size); have ltf := Aside0.mk (Nat.lt_of_lt_of_le (FRow.lt FH.out) hb3.size); have ltg := Aside0.mk (Nat.lt_of_lt_of_le H.out.lt hb3.size); have H := Aside0.mk (BAt.row (BAt.below (BAt.below H.out hb3) (below_alloc (Below.refl _ _) (.cells (cellsOf .u8 (cells8 zrow)) 67))) (g' := w3.heap.size) (by have := ltg.out; omega) (cellsOf .u8 (cells8 st))); have M2 := Aside0.mk (Mem.row (Mem.alloc (Mem.below M2.out hb3) (.cells (cellsOf .u8 (cells8 zrow)) 67)) (g' := w3.heap.size) (by have := lt2.out; omega) (cellsOf .u8 (cells8 st))); have FH := Aside0.mk (show FAt _ gf 0 0 zrow zrow from FRow.row (FRow.below (FRow.below FH.out hb3) (below_alloc (Below.refl _ _) (.cells (cellsOf .u8 (cells8 zrow)) 67))) (g' := w3.heap.size) (by have := ltf.out; omega) (cellsOf .u8 (cells8 st))); have CH := Aside0.mk (Ch.row' (Ch.step (Ch.step CH.out hb3) (below_alloc (Below.refl _ _) (.cells (cellsOf .u8 (cells8 zrow)) 67))) (b := w3.heap.size) (Nat.le_trans CH.out.size hs3.out) (cellsOf .u8 (cells8 st))); have Z6 := Aside0.mk (Mem.new .u8 w3 67 (cells8 zrow)); have M6 := Aside0.mk (Mem.put Z6.out (cells8 st)); clear hI hb3)
        | ((with_reducible refine gate_store (t := 67) (p := 6) rfl ?_); refine Mem.store (l' := cells8 st) Z6.out rfl 67 (.tmp 6) (.tmp 36) rfl rfl rfl (by rw [cells8_length]; exact info_mat) (by simp only [cells8_length]) ?_))
      show Code.wp Try.prog _ _ _ ((w3.alloc (.cells (cellsOf .u8 (cells8 zrow)) 67)).setRow w3.heap.size (cellsOf .u8 (cells8 st)))
      have hsz := Aside0.mk (show w3.heap.size < ((w3.alloc (.cells (cellsOf .u8 (cells8 zrow)) 67)).setRow w3.heap.size (cellsOf .u8 (cells8 st))).heap.size from Mem.lt M6.out)
      generalize hz : (w3.alloc (.cells (cellsOf .u8 (cells8 zrow)) 67)).setRow w3.heap.size (cellsOf .u8 (cells8 st)) = wz at *
      rw [HI.out] at M6
      obtain ⟨b6, hb6⟩ : ∃ b, b = w3.heap.size := ⟨_, rfl⟩
      have HWF := Aside0.mk (show w.heap.size ≤ gf from Nat.le_trans HWR.out hgf.out)
      rw [← hb6] at M6 ⊢
      clear hz Z6 HI
      have HN2 := Aside0.mk (show b2 ≠ gf from fun e => by have h1 := hgf.out; have h2 := B2W.out; omega)
      have HN6 := Aside0.mk (show b6 ≠ gf from fun e => by have h1 := ltf.out; omega)
      have HNg := Aside0.mk (show g ≠ gf from fun e => by have h1 := HWF.out; have h2 := HLT.out; omega)
      clear hb6
      have C6 := Aside0.mk (mul_c bendF outF)
      have C7 := Aside0.mk (mul_c inF straightF)
      rw [matV_eq, matV_eq, matV_eq] at C6 C7
      have hl0 := mem_loads (Mem.drew M2.out)
      have hl1 := mem_loads (Mem.drew M6.out)
      go_wp2
      refine start_ (n := 17) (S := fun w' => (loadVar 67 ⟨b2, 0, none⟩).run Try.prog w' = .ok (.agg (cellsOf .u8 (cells8 bendF))) w' ∧ (loadVar 67 ⟨b6, 0, none⟩).run Try.prog w' = .ok (.agg (cellsOf .u8 (cells8 straightF))) w') (ds := [16]) #[false, false, false, false, false, false, false, false, false, false, false, false, false, false, false, false, false] (by kernel_rfl) rfl rfl ⟨hl0, hl1⟩ (fun hHeld => ?_)
      refine pure_ (i := 0) (N := some 38) (v := ?_) (a' := ?_) #[true, false, false, false, false, false, false, false, false, false, false, false, false, false, false, false, false] rfl rfl (by kernel_rfl) (fun _ _ _ h => h) (Or.inl ⟨by rfl, ?_⟩) ?_ ?_
      rotate_left
      · intro w'
        go_simp
        with_reducible rfl
      rotate_left
      · simp only [Act.put, List.setIfInBounds_toArray, List.set_cons_zero, List.set_cons_succ, i64_w, i32_w]
        rfl
      refine pure_ (i := 1) (N := some 39) (v := ?_) (a' := ?_) #[true, true, false, false, false, false, false, false, false, false, false, false, false, false, false, false, false] rfl rfl (by kernel_rfl) (fun _ _ _ h => h) (Or.inl ⟨by rfl, ?_⟩) ?_ ?_
      rotate_left
      · intro w'
        go_simp
        with_reducible rfl
      rotate_left
      · simp only [Act.put, List.setIfInBounds_toArray, List.set_cons_zero, List.set_cons_succ, i64_w, i32_w]
        rfl
      refine pure_ (i := 4) (N := some 42) (v := ?_) (a' := ?_) #[true, true, false, false, true, false, false, false, false, false, false, false, false, false, false, false, false] rfl rfl (by kernel_rfl) (fun _ _ _ h => h) (Or.inl ⟨by rfl, ?_⟩) ?_ ?_
      rotate_left
      · intro w'
        go_simp
        with_reducible rfl
      rotate_left
      · simp only [Act.put, List.setIfInBounds_toArray, List.set_cons_zero, List.set_cons_succ, i64_w, i32_w]
        rfl
      refine pure_ (i := 7) (N := some 45) (v := ?_) (a' := ?_) #[true, true, false, false, true, false, false, true, false, false, false, false, false, false, false, false, false] rfl rfl (by kernel_rfl) (fun _ _ _ h => h) (Or.inl ⟨by rfl, ?_⟩) ?_ ?_
      rotate_left
      · intro w'
        go_simp
        with_reducible rfl
      rotate_left
      · simp only [Act.put, List.setIfInBounds_toArray, List.set_cons_zero, List.set_cons_succ, i64_w, i32_w]
        rfl
      refine pure_ (i := 11) (N := some 49) (v := ?_) (a' := ?_) #[true, true, false, false, true, false, false, true, false, false, false, true, false, false, false, false, false] rfl rfl (by kernel_rfl) (fun _ _ _ h => h) (Or.inl ⟨by rfl, ?_⟩) ?_ ?_
      rotate_left
      · intro w'
        go_simp
        with_reducible rfl
      rotate_left
      · simp only [Act.put, List.setIfInBounds_toArray, List.set_cons_zero, List.set_cons_succ, i64_w, i32_w]
        rfl
      refine take_ (i := 3) (N := some 41) (v := ?_) (a' := ?_) #[true, true, false, true, true, false, false, true, false, false, false, true, false, false, false, false, false] rfl rfl (by kernel_rfl) (fun _ _ _ h => h) (Or.inl ⟨by rfl, ?_⟩) hHeld ?_ ?_
      rotate_left
      · rintro w' ⟨s0, s1⟩
        refine (load_yields rfl rfl s0).trans ?_
        with_reducible rfl
      rotate_left
      · simp only [Act.put, List.setIfInBounds_toArray, List.set_cons_zero, List.set_cons_succ, i64_w, i32_w]
        rfl
      refine take_ (i := 9) (N := some 47) (v := ?_) (a' := ?_) #[true, true, false, true, true, false, false, true, false, true, false, true, false, false, false, false, false] rfl rfl (by kernel_rfl) (fun _ _ _ h => h) (Or.inl ⟨by rfl, ?_⟩) hHeld ?_ ?_
      rotate_left
      · rintro w' ⟨s0, s1⟩
        refine (load_yields rfl rfl s1).trans ?_
        with_reducible rfl
      rotate_left
      · simp only [Act.put, List.setIfInBounds_toArray, List.set_cons_zero, List.set_cons_succ, i64_w, i32_w]
        rfl
      refine one_ (i := 2) (N := some 40) #[true, true, true, true, true, false, false, true, false, true, false, true, false, false, false, false, false] rfl rfl (by kernel_rfl) (by decide) (fun K hK => ?_)
      refine goes_ Try.func30 (by kernel_rfl) rfl #[.pointer (some ⟨gf, 0, none⟩)] (by rfl) rfl rfl (by simp only [List.map_toArray, List.map_cons, List.map_nil]; rfl) ?_
      with_reducible refine (in_first (show FAt wz.drew gf 0 0 zrow zrow from FAt.below FH.out (below_drew (Below.refl _ _)))).mono ?_
      rintro e w61 ⟨rfl, hF, hc⟩
      refine ⟨_, rfl, ?_⟩
      have CH := Aside0.mk (Ch.far (Ch.step CH.out (below_drew (Below.refl _ _))) HWF.out hc)
      have M2 := Aside0.mk (mem_ch (Mem.drew M2.out) hc HN2.out)
      have M6 := Aside0.mk (mem_ch (Mem.drew M6.out) hc HN6.out)
      have H := Aside0.mk (BAt.ch (BAt.below H.out (below_drew (Below.refl _ _))) hc HNg.out)
      have FH := Aside0.mk hF
      refine hK.out _ _ ⟨(mem_loads M2.out), (mem_loads M6.out)⟩ (fun hHeld => ?_)
      clear hK K
      refine norm_ (a' := ?_) ?_ ?_
      rotate_left
      · show Act.put _ (some 40) _ = _
        simp only [Act.put, List.setIfInBounds_toArray, List.set_cons_zero, List.set_cons_succ, i64_w, i32_w]
        rfl
      refine one_ (i := 5) (N := some 43) #[true, true, true, true, true, true, false, true, false, true, false, true, false, false, false, false, false] rfl rfl (by kernel_rfl) (by decide) (fun K hK => ?_)
      refine goes_ Try.func32 (by kernel_rfl) rfl #[.pointer (some ⟨gf, 0, none⟩)] (by rfl) rfl rfl (by simp only [List.map_toArray, List.map_cons, List.map_nil]; rfl) ?_
      with_reducible refine (out_done FH.out).mono ?_
      rintro e w62 ⟨rfl, hF, hb62⟩
      refine ⟨_, rfl, ?_⟩
      have FH := Aside0.mk hF
      have M2 := Aside0.mk (Mem.below M2.out hb62)
      have M6 := Aside0.mk (Mem.below M6.out hb62)
      have H := Aside0.mk (BAt.below H.out hb62)
      have CH := Aside0.mk (Ch.step CH.out hb62)
      refine hK.out _ _ ⟨(mem_loads M2.out), (mem_loads M6.out)⟩ (fun hHeld => ?_)
      clear hK K
      refine norm_ (a' := ?_) ?_ ?_
      rotate_left
      · show Act.put _ (some 43) _ = _
        simp only [Act.put, List.setIfInBounds_toArray, List.set_cons_zero, List.set_cons_succ, i64_w, i32_w]
        rfl
      refine one_ (i := 6) (N := some 44) #[true, true, true, true, true, true, true, true, false, true, false, true, false, false, false, false, false] rfl rfl (by kernel_rfl) (by decide) (fun K hK => ?_)
      refine goes_ Try.func129 (by kernel_rfl) rfl #[.agg (cellsOf .u8 (cells8 bendF)), .agg (cellsOf .u8 (cells8 outF))] (by rfl) rfl rfl (by simp only [List.map_toArray, List.map_cons, List.map_nil]; rfl) ?_
      with_reducible refine (C6.out.q _).mono ?_
      rintro e w63 ⟨rfl, hb63⟩
      refine ⟨_, rfl, ?_⟩
      have FH := Aside0.mk (show FAt _ gf 1 0 inF outF from FAt.below FH.out hb63)
      have M2 := Aside0.mk (Mem.below M2.out hb63)
      have M6 := Aside0.mk (Mem.below M6.out hb63)
      have H := Aside0.mk (BAt.below H.out hb63)
      have CH := Aside0.mk (Ch.step CH.out hb63)
      refine hK.out _ _ ⟨(mem_loads M2.out), (mem_loads M6.out)⟩ (fun hHeld => ?_)
      clear hK K
      refine norm_ (a' := ?_) ?_ ?_
      rotate_left
      · show Act.put _ (some 44) _ = _
        simp only [Act.put, List.setIfInBounds_toArray, List.set_cons_zero, List.set_cons_succ, i64_w, i32_w]
        rfl
      refine one_ (i := 8) (N := some 46) #[true, true, true, true, true, true, true, true, true, true, false, true, false, false, false, false, false] rfl rfl (by kernel_rfl) (by decide) (fun K hK => ?_)
      refine goes_ Try.func30 (by kernel_rfl) rfl #[.pointer (some ⟨gf, 0, none⟩)] (by rfl) rfl rfl (by simp only [List.map_toArray, List.map_cons, List.map_nil]; rfl) ?_
      with_reducible refine (in_done FH.out).mono ?_
      rintro e w64 ⟨rfl, hF, hb64⟩
      refine ⟨_, rfl, ?_⟩
      have FH := Aside0.mk hF
      have M2 := Aside0.mk (Mem.below M2.out hb64)
      have M6 := Aside0.mk (Mem.below M6.out hb64)
      have H := Aside0.mk (BAt.below H.out hb64)
      have CH := Aside0.mk (Ch.step CH.out hb64)
      refine hK.out _ _ ⟨(mem_loads M2.out), (mem_loads M6.out)⟩ (fun hHeld => ?_)
      clear hK K
      refine norm_ (a' := ?_) ?_ ?_
      rotate_left
      · show Act.put _ (some 46) _ = _
        simp only [Act.put, List.setIfInBounds_toArray, List.set_cons_zero, List.set_cons_succ, i64_w, i32_w]
        rfl
      refine one_ (i := 10) (N := some 48) #[true, true, true, true, true, true, true, true, true, true, true, true, false, false, false, false, false] rfl rfl (by kernel_rfl) (by decide) (fun K hK => ?_)
      refine goes_ Try.func129 (by kernel_rfl) rfl #[.agg (cellsOf .u8 (cells8 inF)), .agg (cellsOf .u8 (cells8 straightF))] (by rfl) rfl rfl (by simp only [List.map_toArray, List.map_cons, List.map_nil]; rfl) ?_
      with_reducible refine (C7.out.q _).mono ?_
      rintro e w65 ⟨rfl, hb65⟩
      refine ⟨_, rfl, ?_⟩
      have FH := Aside0.mk (show FAt _ gf 1 0 inF outF from FAt.below FH.out hb65)
      have M2 := Aside0.mk (Mem.below M2.out hb65)
      have M6 := Aside0.mk (Mem.below M6.out hb65)
      have H := Aside0.mk (BAt.below H.out hb65)
      have CH := Aside0.mk (Ch.step CH.out hb65)
      refine hK.out _ _ ⟨(mem_loads M2.out), (mem_loads M6.out)⟩ (fun hHeld => ?_)
      clear hK K
      refine norm_ (a' := ?_) ?_ ?_
      rotate_left
      · show Act.put _ (some 48) _ = _
        simp only [Act.put, List.setIfInBounds_toArray, List.set_cons_zero, List.set_cons_succ, i64_w, i32_w]
        rfl
      refine one_ (i := 12) (N := some 50) #[true, true, true, true, true, true, true, true, true, true, true, true, true, false, false, false, false] rfl rfl (by kernel_rfl) (by decide) (fun K hK => ?_)
      refine goes_ Try.func32 (by kernel_rfl) rfl #[.pointer (some ⟨gf, 0, none⟩)] (by rfl) rfl rfl (by simp only [List.map_toArray, List.map_cons, List.map_nil]; rfl) ?_
      with_reducible refine (out_done FH.out).mono ?_
      rintro e w66 ⟨rfl, hF, hb66⟩
      refine ⟨_, rfl, ?_⟩
      have FH := Aside0.mk hF
      have M2 := Aside0.mk (Mem.below M2.out hb66)
      have M6 := Aside0.mk (Mem.below M6.out hb66)
      have H := Aside0.mk (BAt.below H.out hb66)
      have CH := Aside0.mk (Ch.step CH.out hb66)
      refine hK.out _ _ ⟨(mem_loads M2.out), (mem_loads M6.out)⟩ (fun hHeld => ?_)
      clear hK K
      refine norm_ (a' := ?_) ?_ ?_
      rotate_left
      · show Act.put _ (some 50) _ = _
        simp only [Act.put, List.setIfInBounds_toArray, List.set_cons_zero, List.set_cons_succ, i64_w, i32_w]
        rfl
      refine pure_ (i := 13) (N := some 51) (v := ?_) (a' := ?_) #[true, true, true, true, true, true, true, true, true, true, true, true, true, true, false, false, false] rfl rfl (by kernel_rfl) (fun _ _ _ h => h) (Or.inl ⟨by rfl, ?_⟩) ?_ ?_
      rotate_left
      · intro w'
        refine (build4_yields (f0 := inF) (f1 := mulF bendF outF) (f2 := mulF inF straightF) (f3 := outF) rfl rfl rfl rfl rfl).trans ?_
        with_reducible rfl
      rotate_left
      · simp only [Act.put, List.setIfInBounds_toArray, List.set_cons_zero, List.set_cons_succ, i64_w, i32_w]
        rfl
      refine pure_ (i := 14) (N := some 52) (v := ?_) (a' := ?_) #[true, true, true, true, true, true, true, true, true, true, true, true, true, true, true, false, false] rfl rfl (by kernel_rfl) (fun _ _ _ h => h) (Or.inl ⟨by rfl, ?_⟩) ?_ ?_
      rotate_left
      · intro w'
        go_simp
        with_reducible rfl
      rotate_left
      · simp only [Act.put, List.setIfInBounds_toArray, List.set_cons_zero, List.set_cons_succ, i64_w, i32_w]
        rfl
      refine pure_ (i := 15) (N := some 53) (v := ?_) (a' := ?_) #[true, true, true, true, true, true, true, true, true, true, true, true, true, true, true, true, false] rfl rfl (by kernel_rfl) (fun _ _ _ h => h) (Or.inl ⟨by rfl, ?_⟩) ?_ ?_
      rotate_left
      · intro w'
        go_simp
        with_reducible rfl
      rotate_left
      · simp only [Act.put, List.setIfInBounds_toArray, List.set_cons_zero, List.set_cons_succ, i64_w, i32_w]
        rfl
      refine last_ (i := 16) (N := none) #[true, true, true, true, true, true, true, true, true, true, true, true, true, true, true, true, true] rfl rfl (by kernel_rfl) (by decide) (fun K hK => ?_)
      refine skip_ (w1 := ?_) (by rfl) rfl ?_ ?_
      rotate_left
      · refine box_store_yields (x := .tmp 53) (y := .tmp 51) H.out ?_ ?_ ?_ <;> rfl
      have H := Aside0.mk (BAt.sets wcells.toList 515 _ _ H.out)
      have CH := Aside0.mk (CH.out.trans (Ch.sets wcells.toList 515 _))
      refine hK.out _ _ ?_
      clear hK K
      refine done_ (by kernel_rfl) ?_
      go_wp2
      refine bodyPost_end (results_none rfl _ _ _) rfl ⟨rfl, _, HFU.out, H.out, CH.out⟩
    | succ k1 =>
      have hxl : x < 256 := by omega
      have HX := Aside0.mk hx
      clear hx
      have hx1 : (x : Int) < 256 := by omega
      have hx3 : (0 : Int) ≤ (x : Int) := by omega
      have hw := wrap_u8_nat x hxl
      have HN := Aside0.mk (HU.out.next hxl)
      have D1 := Aside0.mk (gx_c x hxl)
      have D2 := Aside0.mk (app_c bendF (ginv (byt x)))
      rw [matV_eq] at D2
      have hxo : Go.bits .xor .u8 (I8 (app bendF (ginv (byt x)))) 99 = I8 (subB (byt x)) := xor8 _ 99#8
      obtain ⟨y, hy⟩ : ∃ y : Nat, y = (subB (byt x)).toNat := ⟨_, rfl⟩
      have hyl : y < 256 := by rw [hy]; exact (subB (byt x)).isLt
      have hyI : I8 (subB (byt x)) = (y : Int) := by rw [hy]; rfl
      rw [hyI] at hxo
      have hn := HN.out
      rw [hyI, ← hy] at hn
      have HN := Aside0.mk hn
      have hy1 : (y : Int) < 256 := by omega
      have hy3 : (0 : Int) ≤ (y : Int) := by omega
      clear hn hy hyI
      generalize app bendF (ginv (byt x)) = ab at *
      generalize ginv (byt x) = gi at *
      have hl0 := mem_loads (Mem.drew M2.out)
      go_wp2
      refine start_ (n := 7) (S := fun w' => (loadVar 67 ⟨b2, 0, none⟩).run Try.prog w' = .ok (.agg (cellsOf .u8 (cells8 bendF))) w') (ds := []) #[false, false, false, false, false, false, false] (by kernel_rfl) rfl rfl (hl0) (fun hHeld => ?_)
      refine pure_ (i := 1) (N := some 13) (v := ?_) (a' := ?_) #[false, true, false, false, false, false, false] rfl rfl (by kernel_rfl) (fun _ _ _ h => h) (Or.inl ⟨by rfl, ?_⟩) ?_ ?_
      rotate_left
      · intro w'
        go_simp
        with_reducible rfl
      rotate_left
      · simp only [Act.put, List.setIfInBounds_toArray, List.set_cons_zero, List.set_cons_succ, i64_w, i32_w]
        rfl
      refine pure_ (i := 2) (N := some 14) (v := ?_) (a' := ?_) #[false, true, true, false, false, false, false] rfl rfl (by kernel_rfl) (fun _ _ _ h => h) (Or.inl ⟨by rfl, ?_⟩) ?_ ?_
      rotate_left
      · intro w'
        go_simp
        with_reducible rfl
      rotate_left
      · simp only [Act.put, List.setIfInBounds_toArray, List.set_cons_zero, List.set_cons_succ, i64_w, i32_w]
        rfl
      refine take_ (i := 0) (N := some 12) (v := ?_) (a' := ?_) #[true, true, true, false, false, false, false] rfl rfl (by kernel_rfl) (fun _ _ _ h => h) (Or.inl ⟨by rfl, ?_⟩) hHeld ?_ ?_
      rotate_left
      · intro w' s0
        refine (load_yields rfl rfl s0).trans ?_
        with_reducible rfl
      rotate_left
      · simp only [Act.put, List.setIfInBounds_toArray, List.set_cons_zero, List.set_cons_succ, i64_w, i32_w]
        rfl
      refine one_ (i := 3) (N := some 15) #[true, true, true, true, false, false, false] rfl rfl (by kernel_rfl) (by decide) (fun K hK => ?_)
      refine goes_ Try.func45 (by kernel_rfl) rfl #[.int .u8 (x : Int)] (by rfl) rfl rfl (by simp only [List.map_toArray, List.map_cons, List.map_nil]; rfl) ?_
      with_reducible refine (D1.out.q _).mono ?_
      rintro e w53 ⟨rfl, hb53⟩
      refine ⟨_, rfl, ?_⟩
      have M2 := Aside0.mk (Mem.drew M2.out)
      have H := Aside0.mk (BAt.below H.out (below_drew (Below.refl _ _)))
      have CH := Aside0.mk (Ch.step CH.out (below_drew (Below.refl _ _)))
      have M2 := Aside0.mk (Mem.below M2.out hb53)
      have H := Aside0.mk (BAt.below H.out hb53)
      have CH := Aside0.mk (Ch.step CH.out hb53)
      refine hK.out _ _ ((mem_loads M2.out)) (fun hHeld => ?_)
      clear hK K
      refine norm_ (a' := ?_) ?_ ?_
      rotate_left
      · show Act.put _ (some 15) _ = _
        simp only [Act.put, List.setIfInBounds_toArray, List.set_cons_zero, List.set_cons_succ, i64_w, i32_w]
        rfl
      refine one_ (i := 4) (N := some 16) #[true, true, true, true, true, false, false] rfl rfl (by kernel_rfl) (by decide) (fun K hK => ?_)
      refine goes_ Try.func46 (by kernel_rfl) rfl #[.agg (cellsOf .u8 (cells8 bendF)), .int .u8 (I8 gi)] (by rfl) rfl rfl (by simp only [List.map_toArray, List.map_cons, List.map_nil]; rfl) ?_
      with_reducible refine (D2.out.q _).mono ?_
      rintro e w54 ⟨rfl, hb54⟩
      refine ⟨_, rfl, ?_⟩
      have M2 := Aside0.mk (Mem.below M2.out hb54)
      have H := Aside0.mk (BAt.below H.out hb54)
      have CH := Aside0.mk (Ch.step CH.out hb54)
      refine hK.out _ _ ((mem_loads M2.out)) (fun hHeld => ?_)
      clear hK K
      refine norm_ (a' := ?_) ?_ ?_
      rotate_left
      · show Act.put _ (some 16) _ = _
        simp only [Act.put, List.setIfInBounds_toArray, List.set_cons_zero, List.set_cons_succ, i64_w, i32_w]
        rfl
      refine pure_ (i := 5) (N := some 17) (v := ?_) (a' := ?_) #[true, true, true, true, true, true, false] rfl rfl (by kernel_rfl) (fun _ _ _ h => h) (Or.inl ⟨by rfl, ?_⟩) ?_ ?_
      rotate_left
      · intro w'
        go_simp
        with_reducible rfl
      rotate_left
      · simp only [Act.put, List.setIfInBounds_toArray, List.set_cons_zero, List.set_cons_succ, i64_w, i32_w]
        rfl
      refine pure_ (i := 6) (N := some 4) (v := ?_) (a' := ?_) #[true, true, true, true, true, true, true] rfl rfl (by kernel_rfl) (fun _ _ _ h => h) (Or.inl ⟨by rfl, ?_⟩) ?_ ?_
      rotate_left
      · intro w'
        go_simp
        with_reducible rfl
      rotate_left
      · simp only [Act.put, List.setIfInBounds_toArray, List.set_cons_zero, List.set_cons_succ, i64_w, i32_w]
        rfl
      refine done_ (by kernel_rfl) ?_
      clear hl0
      have HG := Aside0.mk (show b2 ≠ g from fun e => by have := HB2.out; have := HLT.out; omega)
      have hB := HB2.out
      go_wp2_with (first
        | ((with_reducible refine gate_store (t := 5) (p := 23) rfl ?_); refine wp_store_box H.out (3 + x) (by omega) y rfl (.tmp 23) (.tmp 20) rfl rfl rfl ?_; have H := Aside0.mk (BAt.set H.out (3 + x) (.int .u8 y)); have M2 := Aside0.mk (Mem.other M2.out (g' := g) (fun e => HG.out e.symm) (3 + x) (.int .u8 y)); have CH := Aside0.mk (CH.out.trans (Ch.set _ (3 + x) (.int .u8 y))))
        | ((with_reducible refine gate_store (t := 5) (p := 30) rfl ?_); refine wp_store_box H.out (259 + y) (by omega) x rfl (.tmp 30) (.tmp 27) rfl rfl rfl ?_; have H := Aside0.mk (BAt.set H.out (259 + y) (.int .u8 x)); have M2 := Aside0.mk (Mem.other M2.out (g' := g) (fun e => HG.out e.symm) (259 + y) (.int .u8 x)); have CH := Aside0.mk (CH.out.trans (Ch.set _ (259 + y) (.int .u8 x)))))
      go_roundg k1
      case measure => omega
      case rel => exact ⟨x + 1, _, by have := HX.out; omega, by go_num, HN, H, M2, CH⟩
end Go.Proofs.Ytphdlidaigalkaa.Mat
namespace Go.Proofs.Ytphdlidaigalkaa.Mat
open Go.RowKit Go.Proofs.Ytphdlidaigalkaa.PNib Go.Proofs.YtphdlidaigalkaaW.PrintWords Go.Proofs.YtphdlidaigalkaaW.PrintLast Go.Proofs.YtphdlidaigalkaaW.PrintMore Byte Sl Arr Mem Gives ArrEq
set_option linter.unusedVariables false
set_option linter.unusedSimpArgs false
set_option maxHeartbeats 4000000
set_option maxRecDepth 100000
/-- Block g is a full box, done. -/
def Box (w : World) (g : Nat) : Prop := ∃ F, BAt w g F ∧ F 0 = .int .u32 1 ∧ F 1 = .int .i32 0 ∧ (∀ b : BitVec 8, F (3 + b.toNat) = .int .u8 (I8 (subB b))) ∧ (∀ b : BitVec 8, F (259 + b.toNat) = .int .u8 (I8 (backB b))) ∧ ∀ (j : Nat) (v : Value), wcells.toList[j]? = some v → F (515 + j) = v
section
variable {w : World} {g : Nat}
theorem Box.lt (h : Box w g) : g < w.heap.size := by
  obtain ⟨F, h, _⟩ := h
  exact h.lt
theorem Box.below (h : Box w g) {w' : World} (hb : Below w.heap.size w w') : Box w' g := by
  obtain ⟨F, h, r⟩ := h
  exact ⟨F, h.below hb, r⟩
theorem Box.row (h : Box w g) {g' : Nat} (hne : g' ≠ g) (cs : Array Value) : Box (w.setRow g' cs) g := by
  obtain ⟨F, h, r⟩ := h
  exact ⟨F, h.row hne cs, r⟩
theorem Box.done (h : Box w g) : w.cell? ⟨g, 0, none⟩ = some (.int .u32 1) := by
  obtain ⟨F, h, h0, _⟩ := h
  rw [h.cell 0 (by decide), h0]
theorem Box.sub (h : Box w g) (b : BitVec 8) : w.cell? ⟨g, 3 + b.toNat, none⟩ = some (.int .u8 (I8 (subB b))) := by
  obtain ⟨F, h, _, _, hs, _⟩ := h
  have := b.isLt
  rw [h.cell _ (by omega), hs]
theorem Box.back (h : Box w g) (b : BitVec 8) : w.cell? ⟨g, 259 + b.toNat, none⟩ = some (.int .u8 (I8 (backB b))) := by
  obtain ⟨F, h, _, _, _, hs, _⟩ := h
  have := b.isLt
  rw [h.cell _ (by omega), hs]
theorem Box.range (h : Box w g) : w.rangeAt g 515 wcells.toList := by
  obtain ⟨F, h, _, _, _, _, hs⟩ := h
  exact h.range 515 _ (by rw [Array.length_toList, wcells_size]; decide) hs
end
theorem bown_first {w : World} {g : Nat} (h : BAt w g F0) : Calls Try.prog 98 #[.pointer (some ⟨g, 0, none⟩)] w fun e w' => e = .returned (.pointer (some ⟨g, 0, none⟩)) ∧ Box w' g ∧ Ch g w w' := by
  have hmf : ∀ (fn : Fn) (first cap : Array Value) (w : World), (Instr.makeFunc fn first cap).run Try.prog w = .ok (.func fn first cap) w := fun _ _ _ _ => rfl
  have h1 := h.set 1 (.int .i32 1)
  have HD := Aside0.mk (OnceBox.do_first g 0 (.pointer (some ⟨g, 0, none⟩)) (fun w' => ∃ F', Full (upd F0 1 (.int .i32 1)) F' ∧ BAt w' g F' ∧ Ch g (w.setCell ⟨g, 0 + 1, none⟩ (.int .i32 1)) w') w (by rw [h.cell 0 (by decide)]; rfl) (by rw [h.cell (0 + 1) (by decide)]; rfl) (h.free 0) (h.free 1)
    (fill_c h1) (fun w' ⟨F', hf, hb, _⟩ => ⟨by rw [hb.cell 0 (by decide), hf.z0]; rfl, by rw [hb.cell (0 + 1) (by decide)]; exact congrArg some (hf.z1.trans rfl), hb.free 0, hb.free 1⟩))
  clear h h1
  go_enter Try.func98, Try.ntmps98
  go_wp2_with (first
    | (go_at_call 117; (with_reducible refine (HD.out).mono ?_); rintro e w' ⟨rfl, w2, hw2, rfl⟩))
  go_ret
  obtain ⟨F', hf, hb, hc⟩ := hw2
  refine ⟨rfl, ⟨_, ((BAt.below hb (below_drew (Below.refl _ _))).set 0 (.int .u32 1)).set 1 (.int .i32 0), rfl, rfl, fun b => ?_, fun b => ?_, fun j v hv => ?_⟩, ?_⟩
  · rw [upd_ne _ _ _ _ (by omega), upd_ne _ _ _ _ (by omega)]; exact hf.sub b
  · rw [upd_ne _ _ _ _ (by omega), upd_ne _ _ _ _ (by omega)]; exact hf.back b
  · rw [upd_ne _ _ _ _ (by omega), upd_ne _ _ _ _ (by omega)]; exact hf.ways j v hv
  · exact ((((Ch.set w 1 _).trans hc).trans (Ch.of_below (below_drew (Below.refl _ _)))).trans (Ch.set _ 0 _)).trans (Ch.set _ 1 _)
theorem bown_done {w : World} {g : Nat} (h : Box w g) : Calls Try.prog 98 #[.pointer (some ⟨g, 0, none⟩)] w fun e w' => e = .returned (.pointer (some ⟨g, 0, none⟩)) ∧ w' = w := by
  have hmf : ∀ (fn : Fn) (first cap : Array Value) (w : World), (Instr.makeFunc fn first cap).run Try.prog w = .ok (.func fn first cap) w := fun _ _ _ _ => rfl
  have HD := Aside0.mk (OnceBox.do_done ⟨g, 0, none⟩ (.func (.func 122) #[.pointer (some ⟨g, 0, none⟩)] #[]) w h.done)
  clear h
  go_enter Try.func98, Try.ntmps98
  go_wp2_with (first
    | (go_at_call 117; (with_reducible refine (HD.out).mono ?_); rintro e w' ⟨rfl, rfl⟩))
  go_ret
  exact ⟨rfl, rfl⟩
theorem sub_done {w : World} {g : Nat} (h : Box w g) (b : BitVec 8) : Calls Try.prog 50 #[.pointer (some ⟨g, 0, none⟩), .int .u8 (I8 b)] w fun e w' => e = .returned (.int .u8 (I8 (subB b))) ∧ w' = w := by
  have hx := h.sub b
  have HO := Aside0.mk (bown_done h)
  have hI : I8 b = (b.toNat : Int) := rfl
  have hl := b.isLt
  have h1 : (b.toNat : Int) < 256 := by omega
  have h3 : (0 : Int) ≤ (b.toNat : Int) := by omega
  rw [hI]
  generalize I8 (subB b) = v at *
  generalize b.toNat = n at *
  clear hI h
  go_enter Try.func50, Try.ntmps50
  go_wp2_with (first
    | (go_at_call 98; (with_reducible refine (HO.out).mono ?_); rintro e w' ⟨rfl, rfl⟩))
  go_ret
  exact ⟨rfl, rfl⟩
theorem sub_first {w : World} {g : Nat} (h : BAt w g F0) (b : BitVec 8) : Calls Try.prog 50 #[.pointer (some ⟨g, 0, none⟩), .int .u8 (I8 b)] w fun e w' => e = .returned (.int .u8 (I8 (subB b))) ∧ Box w' g ∧ Ch g w w' := by
  have HO := Aside0.mk (bown_first h)
  have hI : I8 b = (b.toNat : Int) := rfl
  have hl := b.isLt
  have h1 : (b.toNat : Int) < 256 := by omega
  have h3 : (0 : Int) ≤ (b.toNat : Int) := by omega
  rw [hI]
  clear hI h
  go_enter Try.func50, Try.ntmps50
  go_wp2_with (first
    | (go_at_call 98; (with_reducible refine (HO.out).mono ?_); rintro e w2 ⟨rfl, hB, hc⟩; have HX := Aside0.mk (And.intro hB hc); have hx := hB.sub b; clear hB hc))
  go_ret
  exact ⟨rfl, HX.out⟩
theorem back_done {w : World} {g : Nat} (h : Box w g) (b : BitVec 8) : Calls Try.prog 51 #[.pointer (some ⟨g, 0, none⟩), .int .u8 (I8 b)] w fun e w' => e = .returned (.int .u8 (I8 (backB b))) ∧ w' = w := by
  have hx := h.back b
  have HO := Aside0.mk (bown_done h)
  have hI : I8 b = (b.toNat : Int) := rfl
  have hl := b.isLt
  have h1 : (b.toNat : Int) < 256 := by omega
  have h3 : (0 : Int) ≤ (b.toNat : Int) := by omega
  rw [hI]
  generalize I8 (backB b) = v at *
  generalize b.toNat = n at *
  clear hI h
  go_enter Try.func51, Try.ntmps51
  go_wp2_with (first
    | (go_at_call 98; (with_reducible refine (HO.out).mono ?_); rintro e w' ⟨rfl, rfl⟩))
  go_ret
  exact ⟨rfl, rfl⟩
theorem back_first {w : World} {g : Nat} (h : BAt w g F0) (b : BitVec 8) : Calls Try.prog 51 #[.pointer (some ⟨g, 0, none⟩), .int .u8 (I8 b)] w fun e w' => e = .returned (.int .u8 (I8 (backB b))) ∧ Box w' g ∧ Ch g w w' := by
  have HO := Aside0.mk (bown_first h)
  have hI : I8 b = (b.toNat : Int) := rfl
  have hl := b.isLt
  have h1 : (b.toNat : Int) < 256 := by omega
  have h3 : (0 : Int) ≤ (b.toNat : Int) := by omega
  rw [hI]
  clear hI h
  go_enter Try.func51, Try.ntmps51
  go_wp2_with (first
    | (go_at_call 98; (with_reducible refine (HO.out).mono ?_); rintro e w2 ⟨rfl, hB, hc⟩; have HX := Aside0.mk (And.intro hB hc); have hx := hB.back b; clear hB hc))
  go_ret
  exact ⟨rfl, HX.out⟩
end Go.Proofs.Ytphdlidaigalkaa.Mat
namespace Go.Proofs.Ytphdlidaigalkaa.Mat
open Go.RowKit Go.Proofs.Ytphdlidaigalkaa.PNib Go.Proofs.YtphdlidaigalkaaW.PrintWords Go.Proofs.YtphdlidaigalkaaW.PrintLast Go.Proofs.YtphdlidaigalkaaW.PrintMore Byte Sl Arr Mem Gives ArrEq
set_option linter.unusedVariables false
set_option linter.unusedSimpArgs false
set_option maxHeartbeats 4000000
set_option maxRecDepth 100000
def z32 : Array Value := c8 zrow ++ c8 zrow ++ c8 zrow ++ c8 zrow
theorem z32_size : z32.size = 32 := by
  unfold z32 c8
  simp [cellsOf_size, cells8_length]
theorem bload_ways {ops : Array Oper} {rest : List Oper} {op : Oper} {a : Act} {Q : Exit → Act → World → Prop} {w : World} {g : Nat} (h : Box w g) (hgd : op.guard = none) (x : Operand) (ho : op.op = .load 77 x) (hx : a.eval x = .pointer (some ⟨g, 515, none⟩))
    (hK : wpList Try.prog ops Q rest (a.put op.dst (.agg wcells)) w) : wpList Try.prog ops Q (op :: rest) a w :=
  wpList_load_mid hgd 77 x ho g 515 hx _ _ h.range Try.underlying77 rfl (by rw [Array.length_toList, wcells_size]; exact info_w4) (by rw [Array.toArray_toList]; exact hK)
theorem ways_first {w : World} {g : Nat} (h : BAt w g F0) : Calls Try.prog 49 #[.pointer (some ⟨g, 0, none⟩)] w fun e w' => e = .returned (.agg wcells) ∧ Box w' g ∧ Ch g w w' := by
  have H := Aside0.mk (show BAt (w.alloc (.cells z32 77)) g F0 from BAt.below h (below_alloc (Below.refl _ _) _))
  have HLT := Aside0.mk h.lt
  have HZ := Aside0.mk (show (w.alloc (.cells z32 77)).heap[w.heap.size]? = some (.cells z32 77 (0, 0)) from by show (w.heap.push _)[w.heap.size]? = _; rw [Array.getElem?_push_size])
  have HS := Aside0.mk (show w.heap.size < (w.alloc (.cells z32 77)).heap.size from by show _ < (w.heap.push _).size; simp)
  have HC0 := Aside0.mk (Ch.of_below (g := g) (below_alloc (Below.refl w.heap.size w) (.cells z32 77)))
  clear h
  go_enter Try.func49, Try.ntmps49
  go_wp2_with (first
    | (go_at_call 98; (refine (bown_first H.out).mono ?_); rintro e w1 ⟨rfl, hB, hc⟩; have HB := Aside0.mk hB; have HZ := Aside0.mk ((hc.block _ HS.out (fun e => absurd (Option.some.inj e) (by have := HLT.out; omega))).trans HZ.out); have HC0 := Aside0.mk (HC0.out.trans hc); clear hB hc)
    | ((with_reducible refine gate_dst (N := 7) rfl ?_); refine bload_ways HB.out rfl (.tmp 6) rfl rfl ?_)
    | ((with_reducible refine gate_store (t := 77) (p := 2) rfl ?_); refine wpList_store_row rfl 77 (.tmp 2) (.tmp 7) rfl w.heap.size wcells rfl rfl 77 z32 HZ.out (by rw [wcells_size]; exact info_w4) (by rw [z32_size, wcells_size]) wcells_one ?_))
  refine bodyPost_ret (v := .agg wcells) (results_cell_row rfl _ _ _ _ _ _ _ rfl (setRow_heap _ _ _ _ _ _ HZ.out) Try.underlying77 rfl (by rw [wcells_size]; exact info_w4)) rfl ⟨rfl, HB.out.row (by have := HLT.out; omega) _, ?_⟩
  exact Ch.row' HC0.out (Nat.le_refl _) _
theorem sub_first0 {w : World} {g : Nat} (h : BAt w g F0) : Calls Try.prog 50 #[.pointer (some ⟨g, 0, none⟩), .int .u8 0] w fun e w' => e = .returned (.int .u8 99) ∧ Box w' g ∧ Ch g w w' := by
  have := sub_first h 0#8
  rwa [sub_0] at this
theorem sub_done83 {w : World} {g : Nat} (h : Box w g) : Calls Try.prog 50 #[.pointer (some ⟨g, 0, none⟩), .int .u8 83] w fun e w' => e = .returned (.int .u8 237) ∧ w' = w := by
  have := sub_done h 83#8
  rwa [sub_83] at this
theorem sawake_c : GivesB 52 #[] (.bool true) := by
  intro w
  have HB := Aside0.mk (Below.refl w.heap.size w)
  have CN := Aside0.mk newbox_c
  go_enter Try.func52, Try.ntmps52
  go_wp2_with (first
    | (go_at_call 48; (with_reducible refine (CN.out _).mono ?_); rintro e w1 ⟨g, rfl, hg, hF, hb1⟩; have H0 := Aside0.mk hF; have HG := Aside0.mk hg; have HB := Aside0.mk (below_step HB.out hb1); clear hg hF hb1)
    | (go_at_call 50; (refine (sub_first0 H0.out).mono ?_); rintro e w2 ⟨rfl, hX, hc⟩; have HX := Aside0.mk hX; have HB := Aside0.mk (hc.below HB.out HB.out.size HG.out); clear hX hc H0)
    | (go_at_call 50; (refine (sub_done83 HX.out).mono ?_); rintro e w3 ⟨rfl, rfl⟩))
  go_ret
  exact ⟨rfl, HB.out⟩
end Go.Proofs.Ytphdlidaigalkaa.Mat
namespace Go.Proofs.Ytphdlidaigalkaa.Mat
open Go.RowKit Go.Proofs.Ytphdlidaigalkaa.PNib Go.Proofs.YtphdlidaigalkaaW.PrintWords Go.Proofs.YtphdlidaigalkaaW.PrintLast Go.Proofs.YtphdlidaigalkaaW.PrintMore Byte Sl Arr Mem Gives ArrEq
set_option linter.unusedVariables false
set_option linter.unusedSimpArgs false
set_option maxHeartbeats 4000000
set_option maxRecDepth 100000
theorem c8_size (f : Rows) : (c8 f).size = 8 := by rw [cellsOf_size, cells8_length]
def WRow (w : World) (b : Nat) : Prop := w.heap[b]? = some (.cells wcells 77 (0, 0))
theorem WRow.lt {w : World} {b : Nat} (h : WRow w b) : b < w.heap.size := (Array.getElem?_eq_some_iff.1 h).1
theorem WRow.below {w w' : World} {b : Nat} (h : WRow w b) (hb : Below w.heap.size w w') : WRow w' b := (hb.block b h.lt).trans h
theorem WRow.cell {w : World} {b : Nat} (h : WRow w b) (j : Nat) : w.cell? ⟨b, j, none⟩ = wcells[j]? := cell_of_row w b j _ _ _ h
theorem wk0 (j : Nat) (hj : j < 8) : wcells[0 + j]? = (c8 inF)[j]? := by
  unfold wcells
  rw [Array.getElem?_append_left (by simp only [Array.size_append, c8_size]; omega), Array.getElem?_append_left (by simp only [Array.size_append, c8_size]; omega), Array.getElem?_append_left (by simp only [c8_size]; omega), Nat.zero_add]
theorem wk8 (j : Nat) (hj : j < 8) : wcells[8 + j]? = (c8 (mulF bendF outF))[j]? := by
  unfold wcells
  rw [Array.getElem?_append_left (by simp only [Array.size_append, c8_size]; omega), Array.getElem?_append_left (by simp only [Array.size_append, c8_size]; omega), Array.getElem?_append_right (by simp only [c8_size]; omega), c8_size, Nat.add_sub_cancel_left]
theorem wk16 (j : Nat) (hj : j < 8) : wcells[16 + j]? = (c8 (mulF inF straightF))[j]? := by
  unfold wcells
  rw [Array.getElem?_append_left (by simp only [Array.size_append, c8_size]; omega), Array.getElem?_append_right (by simp only [Array.size_append, c8_size]; omega), Array.size_append, c8_size, c8_size, Nat.add_sub_cancel_left]
theorem wk24 (j : Nat) (hj : j < 8) : wcells[24 + j]? = (c8 outF)[j]? := by
  unfold wcells
  rw [Array.getElem?_append_right (by simp only [Array.size_append, c8_size]; omega), Array.size_append, Array.size_append, c8_size, c8_size, c8_size, Nat.add_sub_cancel_left]
theorem w_load {w : World} {b o : Nat} {f : Rows} (h : WRow w b) (hk : ∀ j, j < 8 → wcells[o + j]? = (c8 f)[j]?) : (loadVar 67 ⟨b, o, none⟩).run Try.prog w = .ok (.agg (c8 f)) w := by
  have := run_loadVar_mid (P := Try.prog) w b o 67 (c8 f).toList _ (fun j v hv => by
    have hj : j < 8 := by
      have := (List.getElem?_eq_some_iff.1 hv).1
      rwa [Array.length_toList, c8_size] at this
    rw [h.cell, hk j hj, ← Array.getElem?_toList]; exact hv) Try.underlying67 rfl (by rw [len8]; exact info_mat)
  rwa [Array.toArray_toList] at this
theorem load_yields_at {o : Oper} {a : Act} {w' : World} {ty : TypeId} {x : Operand} {ad : Addr} {v : Value} (ho : o.op = .load ty x) (hx : a.eval x = .pointer (some ad)) (h : (loadVar ty ad).run Try.prog w' = .ok v w') : (execOp a.eval o).run Try.prog w' = .ok (.value v) w' := by
  unfold execOp
  simp only [ho, hx, Instr.loadAt, Instr.sureAddr, Sem.run_bind, Sem.run_pure, Result.andThen_ok, h]
theorem sbox_tower (x : BitVec 8) (w : World) : Calls Try.prog 8 #[.int .u8 (I8 x)] w fun e w' => e = .returned (.bool true) ∧ Below w.heap.size w w' := by
  have HB := Aside0.mk (Below.refl w.heap.size w)
  have CN := Aside0.mk newbox_c
  have CA := Aside0.mk sawake_c
  have C1 := Aside0.mk (rapp_c inF x)
  have C2 := Aside0.mk (rtinv_c (app inF x))
  have C3 := Aside0.mk (rapp_c (mulF bendF outF) (TowMath.tinv (app inF x)))
  have C4 := Aside0.mk (rapp_c (mulF inF straightF) (x ^^^ 99#8))
  have C5 := Aside0.mk (rtinv_c (app (mulF inF straightF) (x ^^^ 99#8)))
  have C6 := Aside0.mk (rapp_c outF (TowMath.tinv (app (mulF inF straightF) (x ^^^ 99#8))))
  rw [matV_eq] at C1 C3 C4 C6
  have e1 : Go.bits .xor .u8 (I8 (app (mulF bendF outF) (TowMath.tinv (app inF x)))) 99 = I8 (subB x) := by rw [sub_tower]; exact xor8 _ 99#8
  have e2 : Go.bits .xor .u8 (I8 x) 99 = I8 (x ^^^ 99#8) := xor8 x 99#8
  rw [← back_tower] at C6
  have D1 := Aside0.mk (fun {w : World} {g : Nat} (h : Box w g) => sub_done h x)
  have D2 := Aside0.mk (fun {w : World} {g : Nat} (h : Box w g) => back_done h x)
  have D3 := Aside0.mk (fun {w : World} {g : Nat} (h : Box w g) => show Calls Try.prog 51 #[.pointer (some ⟨g, 0, none⟩), .int .u8 (I8 (subB x))] w fun e w' => e = .returned (.int .u8 (I8 x)) ∧ w' = w from by have := back_done h (subB x); rwa [back_sub] at this)
  have hap := sub_apart x
  rw [← subB_R] at hap
  have n1 : (I8 (subB x) == I8 x) = false := by rw [beq_eq_false_iff_ne]; exact fun h => hap.1 (I8_inj h)
  have n2 : (I8 (subB x) == 255 - I8 x) = false := by
    rw [beq_eq_false_iff_ne]
    intro h
    have := hap.2
    unfold I8 at h
    omega
  have n3 : IntKind.u8.wrap (255 - I8 x) = 255 - I8 x := by
    have h0 := I8_lo x; have h1 := I8_hi x
    rw [IntKind.wrap_u8]; omega
  have n4 : (255 - I8 x) % 256 = 255 - I8 x := by
    have h0 := I8_lo x; have h1 := I8_hi x
    omega
  have n5 : (I8 (subB x) = I8 x) = False := eq_false (fun h => hap.1 (I8_inj h))
  have n6 : (I8 (subB x) = 255 - I8 x) = False := eq_false (fun h => by have := hap.2; unfold I8 at h; omega)
  have n7 : (I8 (subB x) != I8 x) = true := by simp only [bne, n1]; rfl
  have n8 : (I8 (subB x) != 255 - I8 x) = true := by simp only [bne, n2]; rfl
  clear hap
  generalize app inF x = p0 at *
  generalize TowMath.tinv p0 = v0 at *
  generalize app (mulF bendF outF) v0 = q0 at *
  generalize x ^^^ 99#8 = x9 at *
  generalize app (mulF inF straightF) x9 = p1 at *
  generalize TowMath.tinv p1 = v1 at *
  generalize backB x = bk at *
  generalize subB x = y at *
  go_enter Try.func8, Try.ntmps8
  go_wp2_with (first
    | (go_at_call 48; (with_reducible refine (CN.out _).mono ?_); rintro e w1 ⟨g, rfl, hg, hF, hb1⟩; have H0 := Aside0.mk hF; have HG := Aside0.mk hg; have HB := Aside0.mk (below_step HB.out hb1); clear hg hF hb1)
    | (go_at_call 49; (refine (ways_first H0.out).mono ?_); rintro e w2 ⟨rfl, hX, hc⟩; have HX := Aside0.mk hX; have HB := Aside0.mk (hc.below HB.out HB.out.size HG.out); have HS2 := Aside0.mk HB.out.size; have HZ := Aside0.mk (show (w2.alloc (.cells z32 77)).heap[w2.heap.size]? = some (.cells z32 77 (0, 0)) from by show (w2.heap.push _)[w2.heap.size]? = _; rw [Array.getElem?_push_size]); have HL := Aside0.mk hX.lt; clear hX hc H0)
    | ((with_reducible refine gate_store (t := 77) (p := 4) rfl ?_); refine wpList_store_row rfl 77 (.tmp 4) (.tmp 9) rfl w2.heap.size wcells rfl rfl 77 z32 HZ.out (by rw [wcells_size]; exact info_w4) (by rw [z32_size, wcells_size]) wcells_one ?_))
  have HW := Aside0.mk (show WRow ((w2.alloc (.cells z32 77)).setRow w2.heap.size wcells) w2.heap.size from setRow_heap _ _ _ _ _ _ HZ.out)
  have HX := Aside0.mk ((HX.out.below (below_alloc (Below.refl _ _) (.cells z32 77))).row (g' := w2.heap.size) (by have := HL.out; omega) wcells)
  have HB := Aside0.mk (below_setRow (below_alloc HB.out (.cells z32 77)) (g := w2.heap.size) HS2.out wcells)
  clear HZ
  show Code.wp Try.prog _ _ _ ((w2.alloc (.cells z32 77)).setRow w2.heap.size wcells)
  generalize (w2.alloc (.cells z32 77)).setRow w2.heap.size wcells = wz at *
  obtain ⟨b4, hb4⟩ : ∃ b, b = w2.heap.size := ⟨_, rfl⟩
  rw [← hb4] at HW ⊢
  clear hb4
  go_wp2
  have hl0 := w_load (WRow.below HW.out (below_drew (Below.refl _ _))) wk8
  have hl1 := w_load (WRow.below HW.out (below_drew (Below.refl _ _))) wk0
  refine start_ (n := 10) (S := fun w' => (loadVar 67 ⟨b4, 8, none⟩).run Try.prog w' = .ok (.agg (c8 (mulF bendF outF))) w' ∧ (loadVar 67 ⟨b4, 0, none⟩).run Try.prog w' = .ok (.agg (c8 inF)) w') (ds := []) #[false, false, false, false, false, false, false, false, false, false] (by kernel_rfl) rfl rfl ⟨hl0, hl1⟩ (fun hHeld => ?_)
  refine pure_ (i := 0) (N := some 10) (v := ?_) (a' := ?_) #[true, false, false, false, false, false, false, false, false, false] rfl rfl (by kernel_rfl) (fun _ _ _ h => h) (Or.inl ⟨by rfl, ?_⟩) ?_ ?_
  rotate_left
  · intro w'
    go_simp
    with_reducible rfl
  rotate_left
  · simp only [Act.put, List.setIfInBounds_toArray, List.set_cons_zero, List.set_cons_succ, i64_w, i32_w]
    rfl
  refine pure_ (i := 2) (N := some 12) (v := ?_) (a' := ?_) #[true, false, true, false, false, false, false, false, false, false] rfl rfl (by kernel_rfl) (fun _ _ _ h => h) (Or.inl ⟨by rfl, ?_⟩) ?_ ?_
  rotate_left
  · intro w'
    go_simp
    with_reducible rfl
  rotate_left
  · simp only [Act.put, List.setIfInBounds_toArray, List.set_cons_zero, List.set_cons_succ, i64_w, i32_w]
    rfl
  refine pure_ (i := 4) (N := some 14) (v := ?_) (a' := ?_) #[true, false, true, false, true, false, false, false, false, false] rfl rfl (by kernel_rfl) (fun _ _ _ h => h) (Or.inl ⟨by rfl, ?_⟩) ?_ ?_
  rotate_left
  · intro w'
    go_simp
    with_reducible rfl
  rotate_left
  · simp only [Act.put, List.setIfInBounds_toArray, List.set_cons_zero, List.set_cons_succ, i64_w, i32_w]
    rfl
  refine take_ (i := 1) (N := some 11) (v := ?_) (a' := ?_) #[true, true, true, false, true, false, false, false, false, false] rfl rfl (by kernel_rfl) (fun _ _ _ h => h) (Or.inl ⟨by rfl, ?_⟩) hHeld ?_ ?_
  rotate_left
  · rintro w' ⟨s0, s1⟩
    refine (load_yields_at rfl rfl s0).trans ?_
    with_reducible rfl
  rotate_left
  · simp only [Act.put, List.setIfInBounds_toArray, List.set_cons_zero, List.set_cons_succ, i64_w, i32_w]
    rfl
  refine take_ (i := 3) (N := some 13) (v := ?_) (a' := ?_) #[true, true, true, true, true, false, false, false, false, false] rfl rfl (by kernel_rfl) (fun _ _ _ h => h) (Or.inl ⟨by rfl, ?_⟩) hHeld ?_ ?_
  rotate_left
  · rintro w' ⟨s0, s1⟩
    refine (load_yields_at rfl rfl s1).trans ?_
    with_reducible rfl
  rotate_left
  · simp only [Act.put, List.setIfInBounds_toArray, List.set_cons_zero, List.set_cons_succ, i64_w, i32_w]
    rfl
  refine one_ (i := 5) (N := some 15) #[true, true, true, true, true, true, false, false, false, false] rfl rfl (by kernel_rfl) (by decide) (fun K hK => ?_)
  refine goes_ Try.func43 (by kernel_rfl) rfl #[.agg (c8 inF), .int .u8 (I8 x)] (by rfl) rfl rfl (by simp only [List.map_toArray, List.map_cons, List.map_nil]; rfl) ?_
  with_reducible refine (C1.out.q _).mono ?_
  rintro e w95 ⟨rfl, hb95⟩
  refine ⟨_, rfl, ?_⟩
  have HW := Aside0.mk (WRow.below HW.out (below_drew (Below.refl _ _)))
  have HX := Aside0.mk (HX.out.below (below_drew (Below.refl _ _)))
  have HB := Aside0.mk (below_drew HB.out)
  have HW := Aside0.mk (WRow.below HW.out hb95)
  have HX := Aside0.mk (HX.out.below hb95)
  have HB := Aside0.mk (below_step HB.out hb95)
  refine hK.out _ _ ⟨(w_load HW.out wk8), (w_load HW.out wk0)⟩ (fun hHeld => ?_)
  clear hK K
  refine norm_ (a' := ?_) ?_ ?_
  rotate_left
  · show Act.put _ (some 15) _ = _
    simp only [Act.put, List.setIfInBounds_toArray, List.set_cons_zero, List.set_cons_succ, i64_w, i32_w]
    rfl
  refine one_ (i := 6) (N := some 16) #[true, true, true, true, true, true, true, false, false, false] rfl rfl (by kernel_rfl) (by decide) (fun K hK => ?_)
  refine goes_ Try.func39 (by kernel_rfl) rfl #[.int .u8 (I8 p0)] (by rfl) rfl rfl (by simp only [List.map_toArray, List.map_cons, List.map_nil]; rfl) ?_
  with_reducible refine (C2.out.q _).mono ?_
  rintro e w96 ⟨rfl, hb96⟩
  refine ⟨_, rfl, ?_⟩
  have HW := Aside0.mk (WRow.below HW.out hb96)
  have HX := Aside0.mk (HX.out.below hb96)
  have HB := Aside0.mk (below_step HB.out hb96)
  refine hK.out _ _ ⟨(w_load HW.out wk8), (w_load HW.out wk0)⟩ (fun hHeld => ?_)
  clear hK K
  refine norm_ (a' := ?_) ?_ ?_
  rotate_left
  · show Act.put _ (some 16) _ = _
    simp only [Act.put, List.setIfInBounds_toArray, List.set_cons_zero, List.set_cons_succ, i64_w, i32_w]
    rfl
  refine one_ (i := 7) (N := some 17) #[true, true, true, true, true, true, true, true, false, false] rfl rfl (by kernel_rfl) (by decide) (fun K hK => ?_)
  refine goes_ Try.func43 (by kernel_rfl) rfl #[.agg (c8 (mulF bendF outF)), .int .u8 (I8 v0)] (by rfl) rfl rfl (by simp only [List.map_toArray, List.map_cons, List.map_nil]; rfl) ?_
  with_reducible refine (C3.out.q _).mono ?_
  rintro e w97 ⟨rfl, hb97⟩
  refine ⟨_, rfl, ?_⟩
  have HW := Aside0.mk (WRow.below HW.out hb97)
  have HX := Aside0.mk (HX.out.below hb97)
  have HB := Aside0.mk (below_step HB.out hb97)
  refine hK.out _ _ ⟨(w_load HW.out wk8), (w_load HW.out wk0)⟩ (fun hHeld => ?_)
  clear hK K
  refine norm_ (a' := ?_) ?_ ?_
  rotate_left
  · show Act.put _ (some 17) _ = _
    simp only [Act.put, List.setIfInBounds_toArray, List.set_cons_zero, List.set_cons_succ, i64_w, i32_w]
    rfl
  refine pure_ (i := 8) (N := some 18) (v := ?_) (a' := ?_) #[true, true, true, true, true, true, true, true, true, false] rfl rfl (by kernel_rfl) (fun _ _ _ h => h) (Or.inl ⟨by rfl, ?_⟩) ?_ ?_
  rotate_left
  · intro w'
    go_simp
    with_reducible rfl
  rotate_left
  · simp only [Act.put, List.setIfInBounds_toArray, List.set_cons_zero, List.set_cons_succ, i64_w, i32_w]
    rfl
  refine pure_ (i := 9) (N := some 5) (v := ?_) (a' := ?_) #[true, true, true, true, true, true, true, true, true, true] rfl rfl (by kernel_rfl) (fun _ _ _ h => h) (Or.inl ⟨by rfl, ?_⟩) ?_ ?_
  rotate_left
  · intro w'
    go_simp
    with_reducible rfl
  rotate_left
  · simp only [Act.put, List.setIfInBounds_toArray, List.set_cons_zero, List.set_cons_succ, i64_w, i32_w]
    rfl
  refine done_ (by kernel_rfl) ?_
  clear hl0 hl1
  go_wp2
  have hl0 := w_load (WRow.below HW.out (below_drew (Below.refl _ _))) wk24
  have hl1 := w_load (WRow.below HW.out (below_drew (Below.refl _ _))) wk16
  refine start_ (n := 10) (S := fun w' => (loadVar 67 ⟨b4, 24, none⟩).run Try.prog w' = .ok (.agg (c8 outF)) w' ∧ (loadVar 67 ⟨b4, 16, none⟩).run Try.prog w' = .ok (.agg (c8 (mulF inF straightF))) w') (ds := []) #[false, false, false, false, false, false, false, false, false, false] (by kernel_rfl) rfl rfl ⟨hl0, hl1⟩ (fun hHeld => ?_)
  refine pure_ (i := 0) (N := some 19) (v := ?_) (a' := ?_) #[true, false, false, false, false, false, false, false, false, false] rfl rfl (by kernel_rfl) (fun _ _ _ h => h) (Or.inl ⟨by rfl, ?_⟩) ?_ ?_
  rotate_left
  · intro w'
    go_simp
    with_reducible rfl
  rotate_left
  · simp only [Act.put, List.setIfInBounds_toArray, List.set_cons_zero, List.set_cons_succ, i64_w, i32_w]
    rfl
  refine pure_ (i := 2) (N := some 21) (v := ?_) (a' := ?_) #[true, false, true, false, false, false, false, false, false, false] rfl rfl (by kernel_rfl) (fun _ _ _ h => h) (Or.inl ⟨by rfl, ?_⟩) ?_ ?_
  rotate_left
  · intro w'
    go_simp
    with_reducible rfl
  rotate_left
  · simp only [Act.put, List.setIfInBounds_toArray, List.set_cons_zero, List.set_cons_succ, i64_w, i32_w]
    rfl
  refine pure_ (i := 4) (N := some 23) (v := ?_) (a' := ?_) #[true, false, true, false, true, false, false, false, false, false] rfl rfl (by kernel_rfl) (fun _ _ _ h => h) (Or.inl ⟨by rfl, ?_⟩) ?_ ?_
  rotate_left
  · intro w'
    go_simp
    with_reducible rfl
  rotate_left
  · simp only [Act.put, List.setIfInBounds_toArray, List.set_cons_zero, List.set_cons_succ, i64_w, i32_w]
    rfl
  refine pure_ (i := 5) (N := some 24) (v := ?_) (a' := ?_) #[true, false, true, false, true, true, false, false, false, false] rfl rfl (by kernel_rfl) (fun _ _ _ h => h) (Or.inl ⟨by rfl, ?_⟩) ?_ ?_
  rotate_left
  · intro w'
    go_simp
    with_reducible rfl
  rotate_left
  · simp only [Act.put, List.setIfInBounds_toArray, List.set_cons_zero, List.set_cons_succ, i64_w, i32_w]
    rfl
  refine take_ (i := 1) (N := some 20) (v := ?_) (a' := ?_) #[true, true, true, false, true, true, false, false, false, false] rfl rfl (by kernel_rfl) (fun _ _ _ h => h) (Or.inl ⟨by rfl, ?_⟩) hHeld ?_ ?_
  rotate_left
  · rintro w' ⟨s0, s1⟩
    refine (load_yields_at rfl rfl s0).trans ?_
    with_reducible rfl
  rotate_left
  · simp only [Act.put, List.setIfInBounds_toArray, List.set_cons_zero, List.set_cons_succ, i64_w, i32_w]
    rfl
  refine take_ (i := 3) (N := some 22) (v := ?_) (a' := ?_) #[true, true, true, true, true, true, false, false, false, false] rfl rfl (by kernel_rfl) (fun _ _ _ h => h) (Or.inl ⟨by rfl, ?_⟩) hHeld ?_ ?_
  rotate_left
  · rintro w' ⟨s0, s1⟩
    refine (load_yields_at rfl rfl s1).trans ?_
    with_reducible rfl
  rotate_left
  · simp only [Act.put, List.setIfInBounds_toArray, List.set_cons_zero, List.set_cons_succ, i64_w, i32_w]
    rfl
  refine one_ (i := 6) (N := some 25) #[true, true, true, true, true, true, true, false, false, false] rfl rfl (by kernel_rfl) (by decide) (fun K hK => ?_)
  refine goes_ Try.func43 (by kernel_rfl) rfl #[.agg (c8 (mulF inF straightF)), .int .u8 (I8 x9)] (by rfl) rfl rfl (by simp only [List.map_toArray, List.map_cons, List.map_nil]; rfl) ?_
  with_reducible refine (C4.out.q _).mono ?_
  rintro e w106 ⟨rfl, hb106⟩
  refine ⟨_, rfl, ?_⟩
  have HW := Aside0.mk (WRow.below HW.out (below_drew (Below.refl _ _)))
  have HX := Aside0.mk (HX.out.below (below_drew (Below.refl _ _)))
  have HB := Aside0.mk (below_drew HB.out)
  have HW := Aside0.mk (WRow.below HW.out hb106)
  have HX := Aside0.mk (HX.out.below hb106)
  have HB := Aside0.mk (below_step HB.out hb106)
  refine hK.out _ _ ⟨(w_load HW.out wk24), (w_load HW.out wk16)⟩ (fun hHeld => ?_)
  clear hK K
  refine norm_ (a' := ?_) ?_ ?_
  rotate_left
  · show Act.put _ (some 25) _ = _
    simp only [Act.put, List.setIfInBounds_toArray, List.set_cons_zero, List.set_cons_succ, i64_w, i32_w]
    rfl
  refine one_ (i := 7) (N := some 26) #[true, true, true, true, true, true, true, true, false, false] rfl rfl (by kernel_rfl) (by decide) (fun K hK => ?_)
  refine goes_ Try.func39 (by kernel_rfl) rfl #[.int .u8 (I8 p1)] (by rfl) rfl rfl (by simp only [List.map_toArray, List.map_cons, List.map_nil]; rfl) ?_
  with_reducible refine (C5.out.q _).mono ?_
  rintro e w107 ⟨rfl, hb107⟩
  refine ⟨_, rfl, ?_⟩
  have HW := Aside0.mk (WRow.below HW.out hb107)
  have HX := Aside0.mk (HX.out.below hb107)
  have HB := Aside0.mk (below_step HB.out hb107)
  refine hK.out _ _ ⟨(w_load HW.out wk24), (w_load HW.out wk16)⟩ (fun hHeld => ?_)
  clear hK K
  refine norm_ (a' := ?_) ?_ ?_
  rotate_left
  · show Act.put _ (some 26) _ = _
    simp only [Act.put, List.setIfInBounds_toArray, List.set_cons_zero, List.set_cons_succ, i64_w, i32_w]
    rfl
  refine one_ (i := 8) (N := some 27) #[true, true, true, true, true, true, true, true, true, false] rfl rfl (by kernel_rfl) (by decide) (fun K hK => ?_)
  refine goes_ Try.func43 (by kernel_rfl) rfl #[.agg (c8 outF), .int .u8 (I8 v1)] (by rfl) rfl rfl (by simp only [List.map_toArray, List.map_cons, List.map_nil]; rfl) ?_
  with_reducible refine (C6.out.q _).mono ?_
  rintro e w108 ⟨rfl, hb108⟩
  refine ⟨_, rfl, ?_⟩
  have HW := Aside0.mk (WRow.below HW.out hb108)
  have HX := Aside0.mk (HX.out.below hb108)
  have HB := Aside0.mk (below_step HB.out hb108)
  refine hK.out _ _ ⟨(w_load HW.out wk24), (w_load HW.out wk16)⟩ (fun hHeld => ?_)
  clear hK K
  refine norm_ (a' := ?_) ?_ ?_
  rotate_left
  · show Act.put _ (some 27) _ = _
    simp only [Act.put, List.setIfInBounds_toArray, List.set_cons_zero, List.set_cons_succ, i64_w, i32_w]
    rfl
  refine pure_ (i := 9) (N := some 6) (v := ?_) (a' := ?_) #[true, true, true, true, true, true, true, true, true, true] rfl rfl (by kernel_rfl) (fun _ _ _ h => h) (Or.inl ⟨by rfl, ?_⟩) ?_ ?_
  rotate_left
  · intro w'
    go_simp
    with_reducible rfl
  rotate_left
  · simp only [Act.put, List.setIfInBounds_toArray, List.set_cons_zero, List.set_cons_succ, i64_w, i32_w]
    rfl
  refine done_ (by kernel_rfl) ?_
  clear hl0 hl1
  go_wp2_with (first
    | (go_at_call 50; (with_reducible refine (D1.out HX.out).mono ?_); rintro e w' ⟨rfl, rfl⟩)
    | (go_at_call 51; (with_reducible refine (D2.out HX.out).mono ?_); rintro e w' ⟨rfl, rfl⟩)
    | (go_at_call 51; (with_reducible refine (D3.out HX.out).mono ?_); rintro e w' ⟨rfl, rfl⟩)
    | (go_at_call 52; (with_reducible refine (CA.out.q _).mono ?_); rintro e w9 ⟨rfl, hb9⟩; have HB := Aside0.mk (below_step HB.out hb9)))
  go_ret
  exact ⟨rfl, HB.out⟩
theorem sbox_tower_walk (x : Int) (w : World) (wx : (Lit.int .u8 x).wf = true) : Calls Try.prog 8 #[.int .u8 x] w fun e w' => e = .returned (.bool true) ∧ Below w.heap.size w w' := by
  obtain ⟨x, rfl⟩ := byte_of wx
  exact sbox_tower x w
end Go.Proofs.Ytphdlidaigalkaa.Mat
