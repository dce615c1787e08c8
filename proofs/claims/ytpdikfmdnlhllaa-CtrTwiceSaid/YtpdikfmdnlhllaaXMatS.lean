/-
  Merged texts, what is reached of them: MatA, MatB, MatC, MatD, MatE, MatT, MatF, MatU, MatG, MatI: walks and plain lemmas; no condition.
-/
import Derived.Test.YtpdikfmdnlhllaaXKit
import Derived.Test.YtpdikfmdnlhllaaXArrEq
import Derived.Lib.BitFns
namespace Go.Proofs.Ytpdikfmdnlhllaa.Mat
open Go.RowKit Go.Proofs.YtpdikfmdnlhllaaW.PrintWords Byte Arr Mem Gives ArrEq
set_option linter.unusedVariables false
set_option linter.unusedSimpArgs false
/-- Is the number of ones odd? -/
def par (v : BitVec 8) : Bool := v.getLsbD 0 ^^ v.getLsbD 1 ^^ v.getLsbD 2 ^^ v.getLsbD 3 ^^ v.getLsbD 4 ^^ v.getLsbD 5 ^^ v.getLsbD 6 ^^ v.getLsbD 7
/-- The byte of the first n bits of g. -/
def ofB (g : Nat → Bool) : Nat → BitVec 8
  | 0 => 0#8
  | n + 1 => ofB g n ||| ((if g n then 1#8 else 0#8) <<< n)
theorem ofB_bit (g : Nat → Bool) : ∀ n, n ≤ 8 → ∀ i, (ofB g n).getLsbD i = (decide (i < n) && g i)
  | 0, _, i => by simp [ofB]
  | n + 1, hn, i => by
    rw [ofB, BitVec.getLsbD_or, ofB_bit g n (by omega) i, BitVec.getLsbD_shiftLeft]
    by_cases h1 : i < n
    · simp [h1, show i < n + 1 by omega]
    · by_cases h2 : i = n
      · subst h2
        cases hg : g i <;> simp [show i < 8 by omega]
      · have : ∀ b : Bool, (if b then 1#8 else 0#8).getLsbD (i - n) = false := by
          intro b
          cases b
          · simp
          · simp; omega
        simp [h1, show ¬ i < n + 1 by omega, this]
theorem ext8 {a b : BitVec 8} (h : ∀ i, i < 8 → a.getLsbD i = b.getLsbD i) : a = b := BitVec.eq_of_getLsbD_eq fun i hi => h i hi
theorem ofB_congr {g g' : Nat → Bool} : ∀ n, (∀ i, i < n → g i = g' i) → ofB g n = ofB g' n
  | 0, _ => rfl
  | n + 1, h => by rw [ofB, ofB, ofB_congr n (fun i hi => h i (by omega)), h n (by omega)]
abbrev Rows := Nat → BitVec 8
/-- What a matrix makes of a byte. -/
def app (f : Rows) (x : BitVec 8) : BitVec 8 := ofB (fun i => par (f i &&& x)) 8
def cells8 (f : Rows) : List Int := byI 8 fun i => I8 (f i)
def matV (f : Rows) : Value := arrV .u8 (cells8 f)
theorem matV_eq (f : Rows) : matV f = .agg (cellsOf .u8 (cells8 f)) := rfl
theorem cells8_length (f : Rows) : (cells8 f).length = 8 := byI_length _ _
theorem cells8_get (f : Rows) (i : Nat) (h : i < 8) : (cells8 f).getD i 0 = I8 (f i) := byI_get _ _ i h
theorem cells8_congr {f g : Rows} (h : ∀ i, i < 8 → f i = g i) : cells8 f = cells8 g := byI_ext 8 _ _ (cells8_length f) fun i hi => by rw [cells8_get f i hi, h i hi]
theorem cells8_inj {f g : Rows} (h : cells8 f = cells8 g) (i : Nat) (hi : i < 8) : f i = g i := by
  have := congrArg (·.getD i 0) h
  simp only [cells8_get _ i hi] at this
  exact I8_inj this
/-- A row is another one. -/
def put (f : Rows) (i : Nat) (x : BitVec 8) : Rows := fun k => if k = i then x else f k
theorem cells8_set (f : Rows) (i : Nat) (hi : i < 8) (x : BitVec 8) : (cells8 f).set i (I8 x) = cells8 (put f i x) := by
  refine List.ext_getElem? fun k => ?_
  rcases Nat.lt_or_ge k 8 with hk | hk
  · rw [List.getElem?_set, cells8_length]
    simp only [cells8, byI, List.getElem?_map, List.getElem?_range hk, Option.map_some]
    by_cases h : i = k
    · subst h; simp [hi, put]
    · simp [h, put, Ne.symm h]
  · rw [List.getElem?_eq_none (by rw [List.length_set, cells8_length]; exact hk), List.getElem?_eq_none (by rw [cells8_length]; exact hk)]
theorem info_mat : (Try.prog.info? 113).map (·.size) = some 8 := by kernel_rfl
theorem info_c8 : (Try.prog.info? 112).map (·.size) = some 8 := by kernel_rfl
theorem info_w8 : (Try.prog.info? 5).map (·.size) = some 1 := by kernel_rfl
def zrow : Rows := fun _ => 0#8
theorem built8 : Try.prog.built 113 [] = some (cellsOf .u8 (cells8 zrow)) := by kernel_rfl
def popN (v : BitVec 8) : Nat := Lib.onesCount v.toNat
def parN (v : BitVec 8) : Nat := if par v then 1 else 0
theorem pop_par : ∀ v : BitVec 8, popN v % 2 = parN v ∧ popN v < 256 ∧ Lib.pop8 (v.toNat : Int) = (popN v : Int) := by decide +kernel
theorem pop_c (v : BitVec 8) : Gives 113 #[.int .u8 (I8 v)] (.int .i64 (popN v : Nat)) := by
  intro w
  have h0 := I8_lo v
  have h1 : I8 v ≤ 255 := by have := I8_hi v; omega
  have h2 : Lib.pop8 (I8 v) = (popN v : Int) := (pop_par v).2.2
  have h3 := (pop_par v).2.1
  have h4 : (popN v : Int) < 256 := by omega
  generalize popN v = p at *
  generalize I8 v = x at *
  go_enter Try.func113, Try.ntmps113
  go_wp2
  go_ret
  exact ⟨rfl, ⟨0, rfl⟩⟩
def bitB (b : Bool) : BitVec 8 := if b then 1#8 else 0#8
theorem shl8 (a : BitVec 8) (j : Nat) : I8 a * 2 ^ j % 256 = I8 (a <<< j) := by
  unfold I8
  rw [BitVec.toNat_shiftLeft, Nat.shiftLeft_eq]
  rfl
theorem shl1 (j : Nat) : (2 : Int) ^ j % 256 = I8 (1#8 <<< j) := by
  have := shl8 1#8 j
  rwa [show I8 1#8 = 1 from rfl, Int.one_mul] at this
theorem shr8 (a : BitVec 8) (j : Nat) : I8 a / 2 ^ j = I8 (a >>> j) := by
  unfold I8
  rw [BitVec.toNat_ushiftRight, Nat.shiftRight_eq_div_pow]
  rfl
theorem and_one8 (a : BitVec 8) : Go.bits .and .u8 (I8 a) 1 = I8 (bitB (a.getLsbD 0)) := by
  rw [show Go.bits .and .u8 (I8 a) 1 = I8 (a &&& 1#8) from and8 a 1#8, and8_one]; rfl
theorem shr_bit (a : BitVec 8) (j : Nat) : (a >>> j).getLsbD 0 = a.getLsbD j := by simp
theorem parN_I8 (v : BitVec 8) : ((parN v : Nat) : Int) = I8 (bitB (par v)) := by unfold parN; cases par v <;> rfl
theorem put_congr {f g : Rows} {j : Nat} {x : BitVec 8} (h : ∀ k, k < 8 → (if k = j then x else f k) = g k) : cells8 (put f j x) = cells8 g := cells8_congr h
end Go.Proofs.Ytpdikfmdnlhllaa.Mat
namespace Go.Proofs.Ytpdikfmdnlhllaa.Mat
open Go.RowKit Go.Proofs.YtpdikfmdnlhllaaW.PrintWords Go.Proofs.YtpdikfmdnlhllaaW.PrintLast Go.Proofs.YtpdikfmdnlhllaaW.PrintMore Byte Sl Arr Mem Gives ArrEq
set_option linter.unusedVariables false
set_option linter.unusedSimpArgs false
set_option maxHeartbeats 4000000
set_option maxRecDepth 100000
theorem app_c (f : Rows) (x : BitVec 8) : GivesB 102 #[matV f, .int .u8 (I8 x)] (.int .u8 (I8 (app f x))) := by
  intro w
  rw [matV_eq]
  have M1 := Aside0.mk (Mem.new .u8 w 113 (cells8 f))
  have HB := Aside0.mk (below_alloc (Below.refl w.heap.size w) (.cells (cellsOf .u8 (cells8 f)) 113))
  go_enter Try.func102, Try.ntmps102
  go_wp2_with (first
    | ((with_reducible refine gate_dst (N := 8) rfl ?_); refine Mem.load M1.out rfl 113 (.tmp 2) rfl rfl Try.underlying113 (by rw [cells8_length]; exact info_mat) ?_))
  go_loopg [5, 9] 8 (fun kq o i w' => ∃ j : Nat, j + kq = 8 ∧ o = .int .u8 (I8 (ofB (fun i => par (f i &&& x)) j)) ∧ i = .int .i64 j ∧ Aside0 (Below w.heap.size w w'))
  case atStart => exact ⟨0, by omega, rfl, rfl, HB⟩
  case round =>
    clear M1 HB
    obtain ⟨j, hj, rfl, rfl, HB⟩ := hrel
    cases gk with
    | zero =>
      obtain rfl : j = 8 := by omega
      go_wp2
      go_ret
      exact ⟨rfl, HB.out⟩
    | succ k1 =>
      have hlt : j < 8 := by omega
      have HJ := Aside0.mk hj
      clear hj
      have hix := run_index_arr (k := .u8) (P := Try.prog) (l := cells8 f) Try.underlying113 Try.underlying5 info_w8 (cells8_length f) j hlt
      rw [cells8_get f j hlt] at hix
      have ha := and8 (f j) x
      have HC := Aside0.mk (pop_c (f j &&& x))
      have hp := and_i64_one (popN (f j &&& x)) (by have := (pop_par (f j &&& x)).2.1; omega)
      rw [(pop_par _).1, parN_I8] at hp
      have hb1 : (j : Int) < 8 := by omega
      have hb2 : (j : Int) ≤ 8 := by omega
      have hb3 : (0 : Int) ≤ (j : Int) := by omega
      have hs := shl8 (bitB (par (f j &&& x))) j
      have ho := or8 (ofB (fun i => par (f i &&& x)) j) (bitB (par (f j &&& x)) <<< j)
      have hc : I8 (bitB (par (f j &&& x))) % 256 = I8 (bitB (par (f j &&& x))) := Int.emod_eq_of_lt (I8_lo _) (I8_hi _)
      have hpb : (0 : Int) ≤ I8 (bitB (par (f j &&& x))) ∧ I8 (bitB (par (f j &&& x))) ≤ 255 := by have := I8_lo (bitB (par (f j &&& x))); have := I8_hi (bitB (par (f j &&& x))); omega
      go_wp2_with (first
        | (go_at_call 113; (with_reducible refine (HC.out.q _).mono ?_); rintro e w' ⟨rfl, ⟨n1, rfl⟩⟩))
      go_roundg k1
      case measure => omega
      case rel => exact ⟨j + 1, by have := HJ.out; omega, rfl, by go_num, ⟨pw_below_drewN HB.out _⟩⟩
/-- What turns nothing. -/
def oneF : Rows := fun i => 1#8 <<< i
def oneTo (j : Nat) : Rows := fun i => if i < j then 1#8 <<< i else 0#8
theorem one_c : GivesB 115 #[] (matV oneF) := by
  intro w
  have M1 := Aside0.mk (Mem.alloc (Mem.new .u8 w 113 (cells8 zrow)) (.cells (cellsOf .u8 (cells8 zrow)) 113))
  have M2 := Aside0.mk (Mem.new2 .u8 w (.cells (cellsOf .u8 (cells8 zrow)) 113) 113 (cells8 zrow))
  have HB := Aside0.mk (below_alloc (below_alloc (Below.refl w.heap.size w) (.cells (cellsOf .u8 (cells8 zrow)) 113)) (.cells (cellsOf .u8 (cells8 zrow)) 113))
  go_enter Try.func115, Try.ntmps115
  go_wp2
  go_loopg [3] 8 (fun kq i w' => ∃ j : Nat, j + kq = 8 ∧ i = .int .i64 j ∧ Aside0 (Mem .u8 w' w.heap.size 113 (cells8 zrow)) ∧ Aside0 (Mem .u8 w' (w.heap.size + 1) 113 (cells8 (oneTo j))) ∧ Aside0 (Below w.heap.size w w'))
  case atStart => exact ⟨0, by omega, rfl, M1, ⟨by rw [cells8_congr (f := oneTo 0) (g := zrow) (fun i _ => rfl)]; exact M2.out⟩, HB⟩
  case round =>
    clear M1 M2 HB
    obtain ⟨j, hj, rfl, M1, M2, HB⟩ := hrel
    cases gk with
    | zero =>
      obtain rfl : j = 8 := by omega
      rw [cells8_congr (f := oneTo 8) (g := oneF) (fun i hi => by simp [oneTo, oneF, hi])] at M2
      go_wp2_with (first
        | ((with_reducible refine gate_dst (N := 11) rfl ?_); refine Mem.load M2.out rfl 113 (.tmp 1) rfl rfl Try.underlying113 (by rw [cells8_length]; exact info_mat) ?_)
        | ((with_reducible refine gate_store (t := 113) (p := 0) rfl ?_); refine Mem.store (l' := cells8 oneF) M1.out rfl 113 (.tmp 0) (.tmp 11) rfl rfl rfl (by rw [cells8_length]; exact info_mat) (by rw [cells8_length, cells8_length]) ?_))
      refine bodyPost_ret (v := .agg (cellsOf .u8 (cells8 (oneF)))) (results_cell_row rfl _ _ _ _ _ _ _ rfl (Mem.put M1.out (cells8 (oneF))) Try.underlying113 rfl (by rw [cellsOf_size, cells8_length]; exact info_mat)) rfl ⟨rfl, below_setRow HB.out (by omega) _⟩
    | succ k1 =>
      have hlt : j < 8 := by omega
      have HJ := Aside0.mk hj
      clear hj
      have hf := M2.out.free j
      have hx := M2.out.cell j (by rw [cells8_length]; exact hlt)
      have hb1 : (j : Int) < 8 := by omega
      have hb2 : (j : Int) ≤ 8 := by omega
      have hb3 : (0 : Int) ≤ (j : Int) := by omega
      have hs := shl1 j
      have HV := Aside0.mk ((cells8_set (oneTo j) j hlt (1#8 <<< j)).trans (put_congr (g := oneTo (j + 1)) (fun k _ => by
        unfold oneTo
        by_cases h : k = j
        · subst h; simp
        · by_cases h2 : k < j
          · simp [h, h2, show k < j + 1 by omega]
          · simp [h, h2, show ¬ k < j + 1 by omega])))
      go_wp2
      go_roundg k1
      case measure => omega
      case rel => exact ⟨j + 1, by have := HJ.out; omega, by go_num, ⟨Mem.other M1.out (g' := w.heap.size + 1) (by omega) _ _⟩, ⟨by rw [← HV.out]; exact Mem.set M2.out _ _⟩, ⟨below_set HB.out (by omega)⟩⟩
/-- Rows as columns. -/
def flipF (f : Rows) : Rows := fun j => ofB (fun i => (f i).getLsbD j) 8
def flipTo (f : Rows) (i j : Nat) : Rows := fun k => ofB (fun i => (f i).getLsbD k) (if k < j then i + 1 else i)
theorem flipTo_zero (f : Rows) : cells8 (flipTo f 0 0) = cells8 zrow := cells8_congr fun k _ => rfl
theorem flipTo_next (f : Rows) (i : Nat) : cells8 (flipTo f i 8) = cells8 (flipTo f (i + 1) 0) := cells8_congr fun k hk => by simp [flipTo, hk]
theorem flipTo_end (f : Rows) : cells8 (flipTo f 8 0) = cells8 (flipF f) := cells8_congr fun k hk => by simp [flipTo, flipF]
theorem flipTo_set (f : Rows) (i j : Nat) (hj : j < 8) : (cells8 (flipTo f i j)).set j (I8 (flipTo f i j j ||| (bitB ((f i).getLsbD j) <<< i))) = cells8 (flipTo f i (j + 1)) := by
  rw [cells8_set _ _ hj]
  refine put_congr fun k _ => ?_
  unfold flipTo
  by_cases h : k = j
  · subst h
    rw [if_pos rfl, if_neg (by omega), if_pos (by omega)]; rfl
  · rw [if_neg h]
    by_cases h2 : k < j
    · rw [if_pos h2, if_pos (by omega)]
    · rw [if_neg h2, if_neg (by omega)]
theorem flip_c (f : Rows) : GivesB 144 #[matV f] (matV (flipF f)) := by
  intro w
  rw [matV_eq]
  have M1 := Aside0.mk (Mem.alloc (Mem.alloc (Mem.new .u8 w 113 (cells8 f)) (.cells (cellsOf .u8 (cells8 zrow)) 113)) (.cells (cellsOf .u8 (cells8 zrow)) 113))
  have M2 := Aside0.mk (Mem.alloc (Mem.new2 .u8 w (.cells (cellsOf .u8 (cells8 f)) 113) 113 (cells8 zrow)) (.cells (cellsOf .u8 (cells8 zrow)) 113))
  have M3 := Aside0.mk (Mem.new3 .u8 w (.cells (cellsOf .u8 (cells8 f)) 113) (.cells (cellsOf .u8 (cells8 zrow)) 113) 113 (cells8 zrow))
  have HB := Aside0.mk (below_alloc (below_alloc (below_alloc (Below.refl w.heap.size w) (.cells (cellsOf .u8 (cells8 f)) 113)) (.cells (cellsOf .u8 (cells8 zrow)) 113)) (.cells (cellsOf .u8 (cells8 zrow)) 113))
  go_enter Try.func144, Try.ntmps144
  go_wp2_with (first
    | ((with_reducible refine gate_dst (N := 7) rfl ?_); refine Mem.load M1.out rfl 113 (.tmp 1) rfl rfl Try.underlying113 (by rw [cells8_length]; exact info_mat) ?_))
  go_loopg [8] 8 (fun kq i w' => ∃ j : Nat, j + kq = 8 ∧ i = .int .i64 j ∧ Aside0 (Mem .u8 w' (w.heap.size + 1) 113 (cells8 zrow)) ∧ Aside0 (Mem .u8 w' (w.heap.size + 2) 113 (cells8 (flipTo f j 0))) ∧ Aside0 (Below w.heap.size w w'))
  case atStart => exact ⟨0, by omega, rfl, M2, ⟨by rw [flipTo_zero]; exact M3.out⟩, HB⟩
  case round =>
    clear M1 M2 M3 HB
    obtain ⟨i, hi, rfl, M2, M3, HB⟩ := hrel
    cases gk with
    | zero =>
      obtain rfl : i = 8 := by omega
      rw [flipTo_end] at M3
      go_wp2_with (first
        | ((with_reducible refine gate_dst (N := 28) rfl ?_); refine Mem.load M3.out rfl 113 (.tmp 3) rfl rfl Try.underlying113 (by rw [cells8_length]; exact info_mat) ?_)
        | ((with_reducible refine gate_store (t := 113) (p := 2) rfl ?_); refine Mem.store (l' := cells8 (flipF f)) M2.out rfl 113 (.tmp 2) (.tmp 28) rfl rfl rfl (by rw [cells8_length]; exact info_mat) (by rw [cells8_length, cells8_length]) ?_))
      refine bodyPost_ret (v := .agg (cellsOf .u8 (cells8 (flipF f)))) (results_cell_row rfl _ _ _ _ _ _ _ rfl (Mem.put M2.out (cells8 (flipF f))) Try.underlying113 rfl (by rw [cellsOf_size, cells8_length]; exact info_mat)) rfl ⟨rfl, below_setRow HB.out (by omega) _⟩
    | succ k1 =>
      have hil : i < 8 := by omega
      have HI := Aside0.mk hi
      clear hi
      have hix := run_index_arr (k := .u8) (P := Try.prog) (l := cells8 f) Try.underlying113 Try.underlying5 info_w8 (cells8_length f) i hil
      rw [cells8_get f i hil] at hix
      have hb1 : (i : Int) < 8 := by omega
      have hb2 : (i : Int) ≤ 8 := by omega
      have hb3 : (0 : Int) ≤ (i : Int) := by omega
      go_wp2
      clear hix
      go_loopg [12] 8 (fun kq q w' => ∃ j : Nat, j + kq = 8 ∧ q = .int .i64 j ∧ Aside0 (Mem .u8 w' (w.heap.size + 1) 113 (cells8 zrow)) ∧ Aside0 (Mem .u8 w' (w.heap.size + 2) 113 (cells8 (flipTo f i j))) ∧ Aside0 (Below w.heap.size w w'))
      case atStart => exact ⟨0, by omega, rfl, M2, M3, HB⟩
      case round =>
        clear M2 M3 HB
        obtain ⟨j, hj, rfl, M2, M3, HB⟩ := hrel
        cases gk with
        | zero =>
          obtain rfl : j = 8 := by omega
          go_wp2
          go_roundg k1
          case measure => omega
          case rel => exact ⟨i + 1, by have := HI.out; omega, by go_num, M2, ⟨by rw [← flipTo_next]; exact M3.out⟩, HB⟩
        | succ k2 =>
          have hjl : j < 8 := by omega
          have HJ := Aside0.mk hj
          clear hj
          have HV := Aside0.mk (flipTo_set f i j hjl)
          have hx := M3.out.cell j (by rw [cells8_length]; exact hjl)
          rw [cells8_get _ _ hjl] at hx
          have hf := M3.out.free j
          have hj1 : (j : Int) < 8 := by omega
          have hj2 : (j : Int) ≤ 8 := by omega
          have hj3 : (0 : Int) ≤ (j : Int) := by omega
          have hs := shr8 (f i) j
          have ha := and_one8 (f i >>> j)
          rw [shr_bit] at ha
          have hl := shl8 (bitB ((f i).getLsbD j)) i
          have ho := or8 (flipTo f i j j) (bitB ((f i).getLsbD j) <<< i)
          generalize flipTo f i j j = row at *
          generalize bitB ((f i).getLsbD j) = b at *
          generalize f i >>> j = s at *
          rw [← ho, ← hl] at HV
          clear hl ho
          go_wp2
          refine start_ (n := 12) (S := fun w' => w'.cell? ⟨w.heap.size + 2, j, none⟩ = some (.int .u8 (I8 row))) (ds := [11]) #[false, false, false, false, false, false, false, false, false, false, false, false] (by kernel_rfl) rfl rfl (hx) (fun hHeld => ?_)
          refine pure_ (i := 0) (N := some 15) (v := ?_) (a' := ?_) #[true, false, false, false, false, false, false, false, false, false, false, false] rfl rfl (by kernel_rfl) (fun _ _ _ h => h) (Or.inl ⟨by rfl, ?_⟩) ?_ ?_
          rotate_left
          · intro w'
            go_simp
            with_reducible rfl
          rotate_left
          · simp only [Act.put, List.setIfInBounds_toArray, List.set_cons_zero, List.set_cons_succ, i64_w, i32_w]
            rfl
          refine pure_ (i := 1) (N := some 16) (v := ?_) (a' := ?_) #[true, true, false, false, false, false, false, false, false, false, false, false] rfl rfl (by kernel_rfl) (fun _ _ _ h => h) (Or.inl ⟨by rfl, ?_⟩) ?_ ?_
          rotate_left
          · intro w'
            go_simp
            with_reducible rfl
          rotate_left
          · simp only [Act.put, List.setIfInBounds_toArray, List.set_cons_zero, List.set_cons_succ, i64_w, i32_w]
            rfl
          refine pure_ (i := 3) (N := some 18) (v := ?_) (a' := ?_) #[true, true, false, true, false, false, false, false, false, false, false, false] rfl rfl (by kernel_rfl) (fun _ _ _ h => h) (Or.inl ⟨by rfl, ?_⟩) ?_ ?_
          rotate_left
          · intro w'
            go_simp
            with_reducible rfl
          rotate_left
          · simp only [Act.put, List.setIfInBounds_toArray, List.set_cons_zero, List.set_cons_succ, i64_w, i32_w]
            rfl
          refine pure_ (i := 4) (N := some 19) (v := ?_) (a' := ?_) #[true, true, false, true, true, false, false, false, false, false, false, false] rfl rfl (by kernel_rfl) (fun _ _ _ h => h) (Or.inl ⟨by rfl, ?_⟩) ?_ ?_
          rotate_left
          · intro w'
            go_simp
            with_reducible rfl
          rotate_left
          · simp only [Act.put, List.setIfInBounds_toArray, List.set_cons_zero, List.set_cons_succ, i64_w, i32_w]
            rfl
          refine pure_ (i := 5) (N := some 20) (v := ?_) (a' := ?_) #[true, true, false, true, true, true, false, false, false, false, false, false] rfl rfl (by kernel_rfl) (fun _ _ _ h => h) (Or.inl ⟨by rfl, ?_⟩) ?_ ?_
          rotate_left
          · intro w'
            go_simp
            with_reducible rfl
          rotate_left
          · simp only [Act.put, List.setIfInBounds_toArray, List.set_cons_zero, List.set_cons_succ, i64_w, i32_w]
            rfl
          refine pure_ (i := 6) (N := some 21) (v := ?_) (a' := ?_) #[true, true, false, true, true, true, true, false, false, false, false, false] rfl rfl (by kernel_rfl) (fun _ _ _ h => h) (Or.inl ⟨by rfl, ?_⟩) ?_ ?_
          rotate_left
          · intro w'
            go_simp
            with_reducible rfl
          rotate_left
          · simp only [Act.put, List.setIfInBounds_toArray, List.set_cons_zero, List.set_cons_succ, i64_w, i32_w]
            rfl
          refine pure_ (i := 7) (N := some 22) (v := ?_) (a' := ?_) #[true, true, false, true, true, true, true, true, false, false, false, false] rfl rfl (by kernel_rfl) (fun _ _ _ h => h) (Or.inl ⟨by rfl, ?_⟩) ?_ ?_
          rotate_left
          · intro w'
            go_simp
            with_reducible rfl
          rotate_left
          · simp only [Act.put, List.setIfInBounds_toArray, List.set_cons_zero, List.set_cons_succ, i64_w, i32_w]
            rfl
          refine pure_ (i := 8) (N := some 23) (v := ?_) (a' := ?_) #[true, true, false, true, true, true, true, true, true, false, false, false] rfl rfl (by kernel_rfl) (fun _ _ _ h => h) (Or.inl ⟨by rfl, ?_⟩) ?_ ?_
          rotate_left
          · intro w'
            go_simp
            with_reducible rfl
          rotate_left
          · simp only [Act.put, List.setIfInBounds_toArray, List.set_cons_zero, List.set_cons_succ, i64_w, i32_w]
            rfl
          refine take_ (i := 2) (N := some 17) (v := ?_) (a' := ?_) #[true, true, true, true, true, true, true, true, true, false, false, false] rfl rfl (by kernel_rfl) (fun _ _ _ h => h) (Or.inl ⟨by rfl, ?_⟩) hHeld ?_ ?_
          rotate_left
          · intro w' s0
            go_simp
            with_reducible rfl
          rotate_left
          · simp only [Act.put, List.setIfInBounds_toArray, List.set_cons_zero, List.set_cons_succ, i64_w, i32_w]
            rfl
          refine pure_ (i := 9) (N := some 24) (v := ?_) (a' := ?_) #[true, true, true, true, true, true, true, true, true, true, false, false] rfl rfl (by kernel_rfl) (fun _ _ _ h => h) (Or.inl ⟨by rfl, ?_⟩) ?_ ?_
          rotate_left
          · intro w'
            go_simp
            with_reducible rfl
          rotate_left
          · simp only [Act.put, List.setIfInBounds_toArray, List.set_cons_zero, List.set_cons_succ, i64_w, i32_w]
            rfl
          refine pure_ (i := 10) (N := some 25) (v := ?_) (a' := ?_) #[true, true, true, true, true, true, true, true, true, true, true, false] rfl rfl (by kernel_rfl) (fun _ _ _ h => h) (Or.inl ⟨by rfl, ?_⟩) ?_ ?_
          rotate_left
          · intro w'
            go_simp
            with_reducible rfl
          rotate_left
          · simp only [Act.put, List.setIfInBounds_toArray, List.set_cons_zero, List.set_cons_succ, i64_w, i32_w]
            rfl
          refine last_ (i := 11) (N := none) #[true, true, true, true, true, true, true, true, true, true, true, true] rfl rfl (by kernel_rfl) (by decide) (fun K hK => ?_)
          refine skip_ (w1 := ?_) (by rfl) rfl ?_ ?_
          rotate_left
          · go_simp
            rfl
          refine hK.out _ _ ?_
          clear hK K
          refine done_ (by kernel_rfl) ?_
          go_wp2
          go_roundg k2
          case measure => omega
          case rel => exact ⟨j + 1, by have := HJ.out; omega, by go_num, ⟨Mem.drew (Mem.other M2.out (g' := w.heap.size + 2) (by omega) _ _)⟩, ⟨by rw [← HV.out]; exact Mem.drew (Mem.set M3.out _ _)⟩, ⟨below_drew (below_set HB.out (by omega))⟩⟩
theorem columns_c (f : Rows) : GivesB 133 #[matV f] (matV (flipF f)) := by
  intro w
  have HC := Aside0.mk (flip_c f)
  rw [matV_eq, matV_eq] at HC
  rw [matV_eq]
  have M1 := Aside0.mk (Mem.alloc (Mem.new .u8 w 112 (cells8 f)) (.cells (cellsOf .u8 (cells8 zrow)) 113))
  have M2 := Aside0.mk (Mem.new2 .u8 w (.cells (cellsOf .u8 (cells8 f)) 112) 113 (cells8 zrow))
  have HB := Aside0.mk (below_alloc (below_alloc (Below.refl w.heap.size w) (.cells (cellsOf .u8 (cells8 f)) 112)) (.cells (cellsOf .u8 (cells8 zrow)) 113))
  go_enter Try.func133, Try.ntmps133
  go_wp2_with (first
    | ((with_reducible refine gate_dst (N := 3) rfl ?_); refine Mem.load M1.out rfl 112 (.tmp 1) rfl rfl Try.underlying112 (by rw [cells8_length]; exact info_c8) ?_)
    | (go_at_call 144; (with_reducible refine (HC.out.q _).mono ?_); rintro e w1 ⟨rfl, hb1⟩; have M2 := Aside0.mk (Mem.below M2.out hb1); have HB := Aside0.mk (below_step HB.out hb1))
    | ((with_reducible refine gate_store (t := 113) (p := 2) rfl ?_); refine Mem.store (l' := cells8 (flipF f)) M2.out rfl 113 (.tmp 2) (.tmp 4) rfl rfl rfl (by rw [cells8_length]; exact info_mat) (by rw [cells8_length, cells8_length]) ?_))
  refine bodyPost_ret (v := .agg (cellsOf .u8 (cells8 (flipF f)))) (results_cell_row rfl _ _ _ _ _ _ _ rfl (Mem.put M2.out (cells8 (flipF f))) Try.underlying113 rfl (by rw [cellsOf_size, cells8_length]; exact info_mat)) rfl ⟨rfl, below_setRow HB.out (by omega) _⟩
end Go.Proofs.Ytpdikfmdnlhllaa.Mat
namespace Go.Proofs.Ytpdikfmdnlhllaa.Mat
open Go.RowKit Go.Proofs.YtpdikfmdnlhllaaW.PrintWords Go.Proofs.YtpdikfmdnlhllaaW.PrintLast Go.Proofs.YtpdikfmdnlhllaaW.PrintMore Byte Sl Arr Mem Gives ArrEq
set_option linter.unusedVariables false
set_option linter.unusedSimpArgs false
set_option maxHeartbeats 4000000
set_option maxRecDepth 100000
/-- The first n bits, summed. -/
def xorTo (g : Nat → Bool) : Nat → Bool
  | 0 => false
  | n + 1 => xorTo g n ^^ g n
theorem par_eq (v : BitVec 8) : par v = xorTo (fun j => v.getLsbD j) 8 := by simp [par, xorTo]
end Go.Proofs.Ytpdikfmdnlhllaa.Mat
namespace Go.Proofs.Ytpdikfmdnlhllaa.Mat
open Go.RowKit Go.Proofs.YtpdikfmdnlhllaaW.PrintWords Go.Proofs.YtpdikfmdnlhllaaW.PrintLast Go.Proofs.YtpdikfmdnlhllaaW.PrintMore Byte Sl Arr Mem Gives ArrEq
set_option linter.unusedVariables false
set_option linter.unusedSimpArgs false
set_option maxHeartbeats 4000000
set_option maxRecDepth 100000
theorem new4 (k : IntKind) (w : World) (o1 o2 o3 : Obj) (t : TypeId) (l : List Int) : Mem k ((((w.alloc o1).alloc o2).alloc o3).alloc (.cells (cellsOf k l) t)) (w.heap.size + 3) t l := by
  have h := Mem.new k (((w.alloc o1).alloc o2).alloc o3) t l
  have hs : (((w.alloc o1).alloc o2).alloc o3).heap.size = w.heap.size + 3 := by
    show (((w.heap.push o1).push o2).push o3).size = _
    simp
  rwa [hs] at h
theorem load_yields {o : Oper} {a : Act} {w' : World} {ty : TypeId} {x : Operand} {g : Nat} {v : Value} (ho : o.op = .load ty x) (hx : a.eval x = .pointer (some ⟨g, 0, none⟩)) (h : (loadVar ty ⟨g, 0, none⟩).run Try.prog w' = .ok v w') : (execOp a.eval o).run Try.prog w' = .ok (.value v) w' := by
  unfold execOp
  simp only [ho, hx, Instr.loadAt, Instr.sureAddr, Sem.run_bind, Sem.run_pure, Result.andThen_ok, h]
theorem eql_yields {o : Oper} {a : Act} {w' : World} {op : BinOp} {ty z : TypeId} {x y : Operand} {xs ys : Array Value} {v : Value} (ho : o.op = .binOp op ty x y z) (hx : a.eval x = .agg xs) (hy : a.eval y = .agg ys) (hm : Try.prog.eqGuardType Try.prog.depth ty = false) (h : (binOp op ty (.agg xs) (.agg ys)).run Try.prog w' = .ok v w') : (execOp a.eval o).run Try.prog w' = .ok (.value v) w' := by
  unfold execOp
  simp only [ho, hx, hy, Sem.run_bind, Sem.run_pure, Result.andThen_ok, run_eqGuard_agg _ _ _ _ _ _ _ hm, h]
theorem guardM : Try.prog.eqGuardType Try.prog.depth 113 = false := by kernel_rfl
theorem mem_loads {w : World} {g : Nat} {f : Rows} (h : Mem .u8 w g 113 (cells8 f)) : (loadVar 113 ⟨g, 0, none⟩).run Try.prog w = .ok (.agg (cellsOf .u8 (cells8 f))) w :=
  run_loadVar_row w g _ _ _ _ _ h Try.underlying113 rfl (by rw [cellsOf_size, cells8_length]; exact info_mat)
theorem neqs (f g : Rows) (w : World) : (binOp .neq 113 (.agg (cellsOf .u8 (cells8 f))) (.agg (cellsOf .u8 (cells8 g)))).run Try.prog w = .ok (.bool (!decide (cells8 f = cells8 g))) w :=
  run_neq_arr Try.underlying113 Try.underlying5 info_w8 _ _ (cells8_length _) (cells8_length _) w
def mrow (f g : Rows) (k : Nat) : Nat → BitVec 8
  | 0 => 0#8
  | n + 1 => mrow f g k n ^^^ (if (f k).getLsbD n then g n else 0#8)
def mulF (f g : Rows) : Rows := fun k => mrow f g k 8
def mulTo (f g : Rows) (i j : Nat) : Rows := fun k => mrow f g k (if k < i then 8 else if k = i then j else 0)
theorem mulTo_zero (f g : Rows) : cells8 (mulTo f g 0 0) = cells8 zrow := cells8_congr fun k _ => by
  unfold mulTo
  rw [if_neg (by omega), ite_self]; rfl
theorem mulTo_next (f g : Rows) (i : Nat) : cells8 (mulTo f g i 8) = cells8 (mulTo f g (i + 1) 0) := cells8_congr fun k _ => by
  unfold mulTo
  by_cases h : k < i
  · rw [if_pos h, if_pos (by omega)]
  · by_cases h2 : k = i
    · rw [if_neg h, if_pos h2, if_pos (by omega)]
    · rw [if_neg h, if_neg h2, if_neg (by omega), ite_self]
theorem mulTo_end (f g : Rows) : cells8 (mulTo f g 8 0) = cells8 (mulF f g) := cells8_congr fun k hk => by
  unfold mulTo
  rw [if_pos hk]; rfl
theorem mulTo_set (f g : Rows) (i j : Nat) (hi : i < 8) : (cells8 (mulTo f g i j)).set i (I8 (mulTo f g i j i ^^^ (if (f i).getLsbD j then g j else 0#8))) = cells8 (mulTo f g i (j + 1)) := by
  rw [cells8_set _ _ hi]
  refine put_congr fun k _ => ?_
  unfold mulTo
  by_cases h : k = i
  · subst h
    simp [mrow]
  · rw [if_neg h]
    by_cases h2 : k < i
    · rw [if_pos h2, if_pos h2]
    · rw [if_neg h2, if_neg h, if_neg h2, if_neg h]
theorem mulTo_no (f g : Rows) (i j : Nat) (hb : (f i).getLsbD j = false) : cells8 (mulTo f g i (j + 1)) = cells8 (mulTo f g i j) := cells8_congr fun k _ => by
  unfold mulTo
  by_cases h : k = i
  · subst h
    simp [mrow, hb]
  · by_cases h2 : k < i
    · rw [if_pos h2, if_pos h2]
    · rw [if_neg h2, if_neg h, if_neg h2, if_neg h]
theorem mul_c (f g : Rows) : GivesB 107 #[matV f, matV g] (matV (mulF f g)) := by
  intro w
  rw [matV_eq, matV_eq, matV_eq]
  have M1 := Aside0.mk (Mem.alloc (Mem.alloc (Mem.alloc (Mem.new .u8 w 113 (cells8 f)) (.cells (cellsOf .u8 (cells8 g)) 113)) (.cells (cellsOf .u8 (cells8 zrow)) 113)) (.cells (cellsOf .u8 (cells8 zrow)) 113))
  have M2 := Aside0.mk (Mem.alloc (Mem.alloc (Mem.new2 .u8 w (.cells (cellsOf .u8 (cells8 f)) 113) 113 (cells8 g)) (.cells (cellsOf .u8 (cells8 zrow)) 113)) (.cells (cellsOf .u8 (cells8 zrow)) 113))
  have M3 := Aside0.mk (Mem.alloc (Mem.new3 .u8 w (.cells (cellsOf .u8 (cells8 f)) 113) (.cells (cellsOf .u8 (cells8 g)) 113) 113 (cells8 zrow)) (.cells (cellsOf .u8 (cells8 zrow)) 113))
  have M4 := Aside0.mk (new4 .u8 w (.cells (cellsOf .u8 (cells8 f)) 113) (.cells (cellsOf .u8 (cells8 g)) 113) (.cells (cellsOf .u8 (cells8 zrow)) 113) 113 (cells8 zrow))
  have HB := Aside0.mk (below_alloc (below_alloc (below_alloc (below_alloc (Below.refl w.heap.size w) (.cells (cellsOf .u8 (cells8 f)) 113)) (.cells (cellsOf .u8 (cells8 g)) 113)) (.cells (cellsOf .u8 (cells8 zrow)) 113)) (.cells (cellsOf .u8 (cells8 zrow)) 113))
  go_enter Try.func107, Try.ntmps107
  go_wp2_with (first
    | ((with_reducible refine gate_dst (N := 9) rfl ?_); refine Mem.load M1.out rfl 113 (.tmp 2) rfl rfl Try.underlying113 (by rw [cells8_length]; exact info_mat) ?_))
  go_loopg [10] 8 (fun kq i w' => ∃ j : Nat, j + kq = 8 ∧ i = .int .i64 j ∧ Aside0 (Mem .u8 w' (w.heap.size + 1) 113 (cells8 g)) ∧ Aside0 (Mem .u8 w' (w.heap.size + 2) 113 (cells8 zrow)) ∧ Aside0 (Mem .u8 w' (w.heap.size + 3) 113 (cells8 (mulTo f g j 0))) ∧ Aside0 (Below w.heap.size w w'))
  case atStart => exact ⟨0, by omega, rfl, M2, M3, ⟨by rw [mulTo_zero]; exact M4.out⟩, HB⟩
  case round =>
    clear M1 M2 M3 M4 HB
    obtain ⟨i, hi, rfl, M2, M3, M4, HB⟩ := hrel
    cases gk with
    | zero =>
      obtain rfl : i = 8 := by omega
      rw [mulTo_end] at M4
      go_wp2_with (first
        | ((with_reducible refine gate_dst (N := 32) rfl ?_); refine Mem.load M4.out rfl 113 (.tmp 5) rfl rfl Try.underlying113 (by rw [cells8_length]; exact info_mat) ?_)
        | ((with_reducible refine gate_store (t := 113) (p := 4) rfl ?_); refine Mem.store (l' := cells8 (mulF f g)) M3.out rfl 113 (.tmp 4) (.tmp 32) rfl rfl rfl (by rw [cells8_length]; exact info_mat) (by simp only [cells8_length]) ?_))
      refine bodyPost_ret (v := .agg (cellsOf .u8 (cells8 (mulF f g)))) (results_cell_row rfl _ _ _ _ _ _ _ rfl (Mem.put M3.out (cells8 (mulF f g))) Try.underlying113 rfl (by rw [cellsOf_size, cells8_length]; exact info_mat)) rfl ⟨rfl, below_setRow HB.out (by omega) _⟩
    | succ k1 =>
      have hil : i < 8 := by omega
      have HI := Aside0.mk hi
      clear hi
      have hix := run_index_arr (k := .u8) (P := Try.prog) (l := cells8 f) Try.underlying113 Try.underlying5 info_w8 (cells8_length f) i hil
      rw [cells8_get f i hil] at hix
      have hb1 : (i : Int) < 8 := by omega
      have hb2 : (i : Int) ≤ 8 := by omega
      have hb3 : (0 : Int) ≤ (i : Int) := by omega
      go_wp2
      clear hix
      go_loopg [14] 8 (fun kq q w' => ∃ j : Nat, j + kq = 8 ∧ q = .int .i64 j ∧ Aside0 (Mem .u8 w' (w.heap.size + 1) 113 (cells8 g)) ∧ Aside0 (Mem .u8 w' (w.heap.size + 2) 113 (cells8 zrow)) ∧ Aside0 (Mem .u8 w' (w.heap.size + 3) 113 (cells8 (mulTo f g i j))) ∧ Aside0 (Below w.heap.size w w'))
      case atStart => exact ⟨0, by omega, rfl, M2, M3, M4, HB⟩
      case round =>
        clear M2 M3 M4 HB
        obtain ⟨j, hj, rfl, M2, M3, M4, HB⟩ := hrel
        cases gk with
        | zero =>
          obtain rfl : j = 8 := by omega
          go_wp2
          go_roundg k1
          case measure => omega
          case rel => exact ⟨i + 1, by have := HI.out; omega, by go_num, M2, M3, ⟨by rw [← mulTo_next]; exact M4.out⟩, HB⟩
        | succ k2 =>
          have hjl : j < 8 := by omega
          have HJ := Aside0.mk hj
          clear hj
          have hj1 : (j : Int) < 8 := by omega
          have hj2 : (j : Int) ≤ 8 := by omega
          have hj3 : (0 : Int) ≤ (j : Int) := by omega
          have hs := shr8 (f i) j
          have ha := and_one8 (f i >>> j)
          rw [shr_bit] at ha
          rcases Bool.eq_false_or_eq_true ((f i).getLsbD j) with hb | hb
          · have HV := Aside0.mk (mulTo_set f g i j hil)
            rw [if_pos hb] at HV
            rw [hb] at ha
            have ha1 : Go.bits .and .u8 (I8 (f i >>> j)) 1 = 1 := ha
            clear hb ha
            have hx := M4.out.cell i (by rw [cells8_length]; exact hil)
            rw [cells8_get _ _ hil] at hx
            have hy := M2.out.cell j (by rw [cells8_length]; exact hjl)
            rw [cells8_get _ _ hjl] at hy
            have hf := M4.out.free i
            rw [← xor8] at HV
            generalize mulTo f g i j i = row at *
            generalize f i >>> j = s at *
            go_wp2
            refine start_ (n := 9) (S := fun w' => w'.cell? ⟨w.heap.size + 3, i, none⟩ = some (.int .u8 (I8 row)) ∧ w'.cell? ⟨w.heap.size + 1, j, none⟩ = some (.int .u8 (I8 (g j)))) (ds := [8]) #[false, false, false, false, false, false, false, false, false] (by kernel_rfl) rfl rfl ⟨hx, hy⟩ (fun hHeld => ?_)
            refine pure_ (i := 0) (N := some 22) (v := ?_) (a' := ?_) #[true, false, false, false, false, false, false, false, false] rfl rfl (by kernel_rfl) (fun _ _ _ h => h) (Or.inl ⟨by rfl, ?_⟩) ?_ ?_
            rotate_left
            · intro w'
              go_simp
              with_reducible rfl
            rotate_left
            · simp only [Act.put, List.setIfInBounds_toArray, List.set_cons_zero, List.set_cons_succ, i64_w, i32_w]
              rfl
            refine pure_ (i := 1) (N := some 23) (v := ?_) (a' := ?_) #[true, true, false, false, false, false, false, false, false] rfl rfl (by kernel_rfl) (fun _ _ _ h => h) (Or.inl ⟨by rfl, ?_⟩) ?_ ?_
            rotate_left
            · intro w'
              go_simp
              with_reducible rfl
            rotate_left
            · simp only [Act.put, List.setIfInBounds_toArray, List.set_cons_zero, List.set_cons_succ, i64_w, i32_w]
              rfl
            refine pure_ (i := 3) (N := some 25) (v := ?_) (a' := ?_) #[true, true, false, true, false, false, false, false, false] rfl rfl (by kernel_rfl) (fun _ _ _ h => h) (Or.inl ⟨by rfl, ?_⟩) ?_ ?_
            rotate_left
            · intro w'
              go_simp
              with_reducible rfl
            rotate_left
            · simp only [Act.put, List.setIfInBounds_toArray, List.set_cons_zero, List.set_cons_succ, i64_w, i32_w]
              rfl
            refine pure_ (i := 4) (N := some 26) (v := ?_) (a' := ?_) #[true, true, false, true, true, false, false, false, false] rfl rfl (by kernel_rfl) (fun _ _ _ h => h) (Or.inl ⟨by rfl, ?_⟩) ?_ ?_
            rotate_left
            · intro w'
              go_simp
              with_reducible rfl
            rotate_left
            · simp only [Act.put, List.setIfInBounds_toArray, List.set_cons_zero, List.set_cons_succ, i64_w, i32_w]
              rfl
            refine take_ (i := 2) (N := some 24) (v := ?_) (a' := ?_) #[true, true, true, true, true, false, false, false, false] rfl rfl (by kernel_rfl) (fun _ _ _ h => h) (Or.inl ⟨by rfl, ?_⟩) hHeld ?_ ?_
            rotate_left
            · rintro w' ⟨s0, s1⟩
              go_simp
              with_reducible rfl
            rotate_left
            · simp only [Act.put, List.setIfInBounds_toArray, List.set_cons_zero, List.set_cons_succ, i64_w, i32_w]
              rfl
            refine take_ (i := 5) (N := some 27) (v := ?_) (a' := ?_) #[true, true, true, true, true, true, false, false, false] rfl rfl (by kernel_rfl) (fun _ _ _ h => h) (Or.inl ⟨by rfl, ?_⟩) hHeld ?_ ?_
            rotate_left
            · rintro w' ⟨s0, s1⟩
              go_simp
              with_reducible rfl
            rotate_left
            · simp only [Act.put, List.setIfInBounds_toArray, List.set_cons_zero, List.set_cons_succ, i64_w, i32_w]
              rfl
            refine pure_ (i := 6) (N := some 28) (v := ?_) (a' := ?_) #[true, true, true, true, true, true, true, false, false] rfl rfl (by kernel_rfl) (fun _ _ _ h => h) (Or.inl ⟨by rfl, ?_⟩) ?_ ?_
            rotate_left
            · intro w'
              go_simp
              with_reducible rfl
            rotate_left
            · simp only [Act.put, List.setIfInBounds_toArray, List.set_cons_zero, List.set_cons_succ, i64_w, i32_w]
              rfl
            refine pure_ (i := 7) (N := some 29) (v := ?_) (a' := ?_) #[true, true, true, true, true, true, true, true, false] rfl rfl (by kernel_rfl) (fun _ _ _ h => h) (Or.inl ⟨by rfl, ?_⟩) ?_ ?_
            rotate_left
            · intro w'
              go_simp
              with_reducible rfl
            rotate_left
            · simp only [Act.put, List.setIfInBounds_toArray, List.set_cons_zero, List.set_cons_succ, i64_w, i32_w]
              rfl
            refine last_ (i := 8) (N := none) #[true, true, true, true, true, true, true, true, true] rfl rfl (by kernel_rfl) (by decide) (fun K hK => ?_)
            refine skip_ (w1 := ?_) (by rfl) rfl ?_ ?_
            rotate_left
            · go_simp
              rfl
            refine hK.out _ _ ?_
            clear hK K
            refine done_ (by kernel_rfl) ?_
            go_wp2
            go_roundg k2
            case measure => omega
            case rel => exact ⟨j + 1, by have := HJ.out; omega, by go_num, ⟨Mem.drew (Mem.other M2.out (g' := w.heap.size + 3) (by omega) _ _)⟩, ⟨Mem.drew (Mem.other M3.out (g' := w.heap.size + 3) (by omega) _ _)⟩, ⟨by rw [← HV.out]; exact Mem.drew (Mem.set M4.out _ _)⟩, ⟨below_drew (below_set HB.out (by omega))⟩⟩
          · have HV := Aside0.mk (mulTo_no f g i j hb)
            rw [hb] at ha
            have ha1 : Go.bits .and .u8 (I8 (f i >>> j)) 1 = 0 := ha
            clear hb ha
            generalize f i >>> j = s at *
            go_wp2
            go_roundg k2
            case measure => omega
            case rel => exact ⟨j + 1, by have := HJ.out; omega, by go_num, M2, M3, ⟨by rw [HV.out]; exact M4.out⟩, HB⟩
def rmulC (f g : Rows) : Rows := fun k => app f (app g (1#8 <<< k))
end Go.Proofs.Ytpdikfmdnlhllaa.Mat
namespace Go.Proofs.Ytpdikfmdnlhllaa.Mat
open Go.RowKit Go.Proofs.YtpdikfmdnlhllaaW.PrintWords Go.Proofs.YtpdikfmdnlhllaaW.PrintLast Go.Proofs.YtpdikfmdnlhllaaW.PrintMore Byte Sl Arr Mem Gives ArrEq
set_option linter.unusedVariables false
set_option linter.unusedSimpArgs false
set_option maxHeartbeats 4000000
set_option maxRecDepth 100000
theorem store_yields {o : Oper} {a : Act} {w : World} {ty t : TypeId} {x y : Operand} {g : Nat} {old cells : Array Value} (ho : o.op = .store ty x y) (hx : a.eval x = .pointer (some ⟨g, 0, none⟩)) (hy : a.eval y = .agg cells) (hg : w.heap[g]? = some (.cells old t (0, 0))) (hi : (Try.prog.info? ty).map (·.size) = some cells.size)
    (hold : old.size = cells.size) (h1 : cells.all (·.oneCell') = true) : (execOp a.eval o).run Try.prog w = .ok .skip (w.setRow g cells) := by
  unfold execOp
  simp only [ho, hx, hy, Instr.storeAt, Instr.sureAddr, Sem.run_bind, Sem.run_pure, Result.andThen_ok, run_storeVar_row w g t ty old cells hg hi hold h1]
theorem mat_store_yields {o : Oper} {a : Act} {w : World} {x y : Operand} {g : Nat} {f f2 : Rows} (h : Mem .u8 w g 113 (cells8 f)) (ho : o.op = .store 113 x y) (hx : a.eval x = .pointer (some ⟨g, 0, none⟩)) (hy : a.eval y = .agg (cellsOf .u8 (cells8 f2))) : (execOp a.eval o).run Try.prog w = .ok .skip (w.setRow g (cellsOf .u8 (cells8 f2))) :=
  store_yields ho hx hy h (by rw [cellsOf_size, cells8_length]; exact info_mat) (by rw [cellsOf_size, cellsOf_size, cells8_length, cells8_length]) (by simp [cellsOf, Value.oneCell'])
def clrTo (f g : Rows) (r c j : Nat) : Rows := fun k => if k < j ∧ k ≠ r ∧ (f k).getLsbD c = true then g k ^^^ g r else g k
def clrF (f g : Rows) (r c : Nat) : Rows := fun k => if k ≠ r ∧ (f k).getLsbD c = true then g k ^^^ g r else g k
theorem clrTo_zero (f g : Rows) (r c : Nat) : cells8 (clrTo f g r c 0) = cells8 g := cells8_congr fun k _ => by simp [clrTo]
theorem clrTo_end (f g : Rows) (r c : Nat) : cells8 (clrTo f g r c 8) = cells8 (clrF f g r c) := cells8_congr fun k hk => by simp [clrTo, clrF, hk]
theorem clrTo_at (f g : Rows) (r c j : Nat) : clrTo f g r c j j = g j := by simp [clrTo]
theorem clrTo_row (f g : Rows) (r c j : Nat) : clrTo f g r c j r = g r := by simp [clrTo]
theorem clrTo_set (f g : Rows) (r c j : Nat) (hj : j < 8) (hr : j ≠ r) (hb : (f j).getLsbD c = true) : (cells8 (clrTo f g r c j)).set j (I8 (g j ^^^ g r)) = cells8 (clrTo f g r c (j + 1)) := by
  rw [cells8_set _ _ hj]
  refine put_congr fun k _ => ?_
  unfold clrTo
  by_cases h : k = j
  · subst h
    rw [if_pos rfl, if_pos ⟨by omega, hr, hb⟩]
  · rw [if_neg h]
    have e : (k < j + 1) = (k < j) := by simp; omega
    simp only [e]
theorem clrTo_no (f g : Rows) (r c j : Nat) (h : j = r ∨ (f j).getLsbD c = false) : cells8 (clrTo f g r c (j + 1)) = cells8 (clrTo f g r c j) := cells8_congr fun k _ => by
  unfold clrTo
  by_cases hk : k = j
  · subst hk
    rw [if_neg, if_neg (by omega)]
    rintro ⟨_, h1, h2⟩
    rcases h with h | h
    · exact h1 h
    · rw [h] at h2; cases h2
  · have e : (k < j + 1) = (k < j) := by simp; omega
    simp only [e]
theorem clear_c (f g : Rows) (r c : Nat) (hr : r < 8) (hc : c < 8) : GivesB 121 #[matV f, matV g, .int .i64 r, .int .i64 c] (.tuple #[matV (clrF f f r c), matV (clrF f g r c)]) := by
  intro w
  rw [matV_eq, matV_eq, matV_eq, matV_eq]
  have M1 := Aside0.mk (Mem.alloc (Mem.alloc (Mem.alloc (Mem.new .u8 w 113 (cells8 f)) (.cells (cellsOf .u8 (cells8 g)) 113)) (.cells (cellsOf .u8 (cells8 zrow)) 113)) (.cells (cellsOf .u8 (cells8 zrow)) 113))
  have M2 := Aside0.mk (Mem.alloc (Mem.alloc (Mem.new2 .u8 w (.cells (cellsOf .u8 (cells8 f)) 113) 113 (cells8 g)) (.cells (cellsOf .u8 (cells8 zrow)) 113)) (.cells (cellsOf .u8 (cells8 zrow)) 113))
  have M3 := Aside0.mk (Mem.alloc (Mem.new3 .u8 w (.cells (cellsOf .u8 (cells8 f)) 113) (.cells (cellsOf .u8 (cells8 g)) 113) 113 (cells8 zrow)) (.cells (cellsOf .u8 (cells8 zrow)) 113))
  have M4 := Aside0.mk (new4 .u8 w (.cells (cellsOf .u8 (cells8 f)) 113) (.cells (cellsOf .u8 (cells8 g)) 113) (.cells (cellsOf .u8 (cells8 zrow)) 113) 113 (cells8 zrow))
  have HB := Aside0.mk (below_alloc (below_alloc (below_alloc (below_alloc (Below.refl w.heap.size w) (.cells (cellsOf .u8 (cells8 f)) 113)) (.cells (cellsOf .u8 (cells8 g)) 113)) (.cells (cellsOf .u8 (cells8 zrow)) 113)) (.cells (cellsOf .u8 (cells8 zrow)) 113))
  have hr1 : (r : Int) < 8 := by omega
  have hr3 : (0 : Int) ≤ (r : Int) := by omega
  have hc1 : (c : Int) < 8 := by omega
  have hc2 : (c : Int) ≤ 8 := by omega
  have hc3 : (0 : Int) ≤ (c : Int) := by omega
  go_enter Try.func121, Try.ntmps121
  go_wp2
  go_loopg [11] 8 (fun kq i w' => ∃ j : Nat, j + kq = 8 ∧ i = .int .i64 j ∧ Aside0 (Mem .u8 w' w.heap.size 113 (cells8 (clrTo f f r c j))) ∧ Aside0 (Mem .u8 w' (w.heap.size + 1) 113 (cells8 (clrTo f g r c j))) ∧ Aside0 (Mem .u8 w' (w.heap.size + 2) 113 (cells8 zrow)) ∧ Aside0 (Mem .u8 w' (w.heap.size + 3) 113 (cells8 zrow)) ∧ Aside0 (Below w.heap.size w w'))
  case atStart => exact ⟨0, by omega, rfl, ⟨by rw [clrTo_zero]; exact M1.out⟩, ⟨by rw [clrTo_zero]; exact M2.out⟩, M3, M4, HB⟩
  case round =>
    clear M1 M2 M3 M4 HB
    obtain ⟨j, hj, rfl, M1, M2, M3, M4, HB⟩ := hrel
    cases gk with
    | zero =>
      obtain rfl : j = 8 := by omega
      rw [clrTo_end] at M1 M2
      have hl0 := mem_loads (Mem.drew M1.out)
      have hl1 := mem_loads (Mem.drew M2.out)
      obtain ⟨p, hp⟩ : ∃ z, z = clrF f f r c := ⟨_, rfl⟩
      obtain ⟨q, hq⟩ : ∃ z, z = clrF f g r c := ⟨_, rfl⟩
      rw [← hp] at M1 hl0
      rw [← hq] at M2 hl1
      have HPQ := Aside0.mk (And.intro hp hq)
      clear hp hq
      go_wp2
      refine start_ (n := 4) (S := fun w' => (loadVar 113 ⟨w.heap.size, 0, none⟩).run Try.prog w' = .ok (.agg (cellsOf .u8 (cells8 p))) w' ∧ (loadVar 113 ⟨w.heap.size + 1, 0, none⟩).run Try.prog w' = .ok (.agg (cellsOf .u8 (cells8 q))) w') (ds := [3]) #[false, false, false, false] (by kernel_rfl) rfl rfl ⟨hl0, hl1⟩ (fun hHeld => ?_)
      refine take_ (i := 0) (N := some 43) (v := ?_) (a' := ?_) #[true, false, false, false] rfl rfl (by kernel_rfl) (fun _ _ _ h => h) (Or.inl ⟨by rfl, ?_⟩) hHeld ?_ ?_
      rotate_left
      · rintro w' ⟨s0, s1⟩
        refine (load_yields rfl rfl s0).trans ?_
        with_reducible rfl
      rotate_left
      · simp only [Act.put, List.setIfInBounds_toArray, List.set_cons_zero, List.set_cons_succ, i64_w, i32_w]
        rfl
      refine take_ (i := 1) (N := some 44) (v := ?_) (a' := ?_) #[true, true, false, false] rfl rfl (by kernel_rfl) (fun _ _ _ h => h) (Or.inl ⟨by rfl, ?_⟩) hHeld ?_ ?_
      rotate_left
      · rintro w' ⟨s0, s1⟩
        refine (load_yields rfl rfl s1).trans ?_
        with_reducible rfl
      rotate_left
      · simp only [Act.put, List.setIfInBounds_toArray, List.set_cons_zero, List.set_cons_succ, i64_w, i32_w]
        rfl
      refine one_ (i := 2) (N := none) #[true, true, true, false] rfl rfl (by kernel_rfl) (by decide) (fun K hK => ?_)
      refine skip_ (w1 := ?_) (by rfl) rfl ?_ ?_
      rotate_left
      · refine mat_store_yields (f2 := p) (x := .tmp 8) (y := .tmp 43) (Mem.drew M3.out) ?_ ?_ ?_ <;> rfl
      have M1 := Aside0.mk (Mem.row (Mem.drew M1.out) (g' := w.heap.size + 2) (by omega) (cellsOf .u8 (cells8 p)))
      have M2 := Aside0.mk (Mem.row (Mem.drew M2.out) (g' := w.heap.size + 2) (by omega) (cellsOf .u8 (cells8 p)))
      have M4 := Aside0.mk (Mem.row (Mem.drew M4.out) (g' := w.heap.size + 2) (by omega) (cellsOf .u8 (cells8 p)))
      have M3 := Aside0.mk (Mem.put (Mem.drew M3.out) (cells8 p))
      have HB := Aside0.mk (below_setRow (below_drew HB.out) (g := w.heap.size + 2) (by omega) (cellsOf .u8 (cells8 p)))
      refine hK.out _ _ ⟨(mem_loads M1.out), (mem_loads M2.out)⟩ (fun hHeld => ?_)
      clear hK K
      refine last_ (i := 3) (N := none) #[true, true, true, true] rfl rfl (by kernel_rfl) (by decide) (fun K hK => ?_)
      refine skip_ (w1 := ?_) (by rfl) rfl ?_ ?_
      rotate_left
      · refine mat_store_yields (f2 := q) (x := .tmp 9) (y := .tmp 44) M4.out ?_ ?_ ?_ <;> rfl
      have M3 := Aside0.mk (Mem.row M3.out (g' := w.heap.size + 3) (by omega) (cellsOf .u8 (cells8 q)))
      have M4 := Aside0.mk (Mem.put M4.out (cells8 q))
      have HB := Aside0.mk (below_setRow HB.out (g := w.heap.size + 3) (by omega) (cellsOf .u8 (cells8 q)))
      refine hK.out _ _ ?_
      clear hK K
      refine done_ (by kernel_rfl) ?_
      go_wp2
      have hp := HPQ.out.1
      have hq := HPQ.out.2
      subst hp
      subst hq
      refine bodyPost_ret (results_cc rfl _ _ _ _ _ _ _ _ _ _ _ _ rfl M3.out Try.underlying113 rfl (by rw [cellsOf_size, cells8_length]; exact info_mat) rfl M4.out Try.underlying113 rfl (by rw [cellsOf_size, cells8_length]; exact info_mat)) rfl ⟨rfl, HB.out⟩
    | succ k1 =>
      have hlt : j < 8 := by omega
      have HJ := Aside0.mk hj
      clear hj
      have hj1 : (j : Int) < 8 := by omega
      have hj2 : (j : Int) ≤ 8 := by omega
      have hj3 : (0 : Int) ≤ (j : Int) := by omega
      by_cases hjr : j = r
      · subst hjr
        have HV1 := Aside0.mk (clrTo_no f f j c j (.inl rfl))
        have HV2 := Aside0.mk (clrTo_no f g j c j (.inl rfl))
        go_wp2
        go_roundg k1
        case measure => omega
        case rel => exact ⟨j + 1, by have := HJ.out; omega, by go_num, ⟨by rw [HV1.out]; exact M1.out⟩, ⟨by rw [HV2.out]; exact M2.out⟩, M3, M4, HB⟩
      · have hne : ((j : Int) == (r : Int)) = false := by rw [beq_eq_false_iff_ne]; omega
        have hne2 : ((j : Int) != (r : Int)) = true := by simp only [bne, hne]; rfl
        have hx := M1.out.cell j (by rw [cells8_length]; exact hlt)
        rw [cells8_get _ _ hlt, clrTo_at] at hx
        have hs := shr8 (f j) c
        have ha := and_one8 (f j >>> c)
        rw [shr_bit] at ha
        rcases Bool.eq_false_or_eq_true ((f j).getLsbD c) with hb | hb
        · have HV1 := Aside0.mk (clrTo_set f f r c j hlt hjr hb)
          have HV2 := Aside0.mk (clrTo_set f g r c j hlt hjr hb)
          rw [← xor8] at HV1 HV2
          rw [hb] at ha
          have ha1 : Go.bits .and .u8 (I8 (f j >>> c)) 1 = 1 := ha
          clear hb ha hjr
          have hz := M1.out.cell r (by rw [cells8_length]; exact hr)
          rw [cells8_get _ _ hr, clrTo_row] at hz
          have hf := M1.out.free j
          generalize f j >>> c = s at *
          go_wp2
          refine start_ (n := 9) (S := fun w' => w'.cell? ⟨w.heap.size, j, none⟩ = some (.int .u8 (I8 (f j))) ∧ w'.cell? ⟨w.heap.size, r, none⟩ = some (.int .u8 (I8 (f r)))) (ds := [8]) #[false, false, false, false, false, false, false, false, false] (by kernel_rfl) rfl rfl ⟨hx, hz⟩ (fun hHeld => ?_)
          refine pure_ (i := 0) (N := some 26) (v := ?_) (a' := ?_) #[true, false, false, false, false, false, false, false, false] rfl rfl (by kernel_rfl) (fun _ _ _ h => h) (Or.inl ⟨by rfl, ?_⟩) ?_ ?_
          rotate_left
          · intro w'
            go_simp
            with_reducible rfl
          rotate_left
          · simp only [Act.put, List.setIfInBounds_toArray, List.set_cons_zero, List.set_cons_succ, i64_w, i32_w]
            rfl
          refine pure_ (i := 1) (N := some 27) (v := ?_) (a' := ?_) #[true, true, false, false, false, false, false, false, false] rfl rfl (by kernel_rfl) (fun _ _ _ h => h) (Or.inl ⟨by rfl, ?_⟩) ?_ ?_
          rotate_left
          · intro w'
            go_simp
            with_reducible rfl
          rotate_left
          · simp only [Act.put, List.setIfInBounds_toArray, List.set_cons_zero, List.set_cons_succ, i64_w, i32_w]
            rfl
          refine pure_ (i := 3) (N := some 29) (v := ?_) (a' := ?_) #[true, true, false, true, false, false, false, false, false] rfl rfl (by kernel_rfl) (fun _ _ _ h => h) (Or.inl ⟨by rfl, ?_⟩) ?_ ?_
          rotate_left
          · intro w'
            go_simp
            with_reducible rfl
          rotate_left
          · simp only [Act.put, List.setIfInBounds_toArray, List.set_cons_zero, List.set_cons_succ, i64_w, i32_w]
            rfl
          refine pure_ (i := 4) (N := some 30) (v := ?_) (a' := ?_) #[true, true, false, true, true, false, false, false, false] rfl rfl (by kernel_rfl) (fun _ _ _ h => h) (Or.inl ⟨by rfl, ?_⟩) ?_ ?_
          rotate_left
          · intro w'
            go_simp
            with_reducible rfl
          rotate_left
          · simp only [Act.put, List.setIfInBounds_toArray, List.set_cons_zero, List.set_cons_succ, i64_w, i32_w]
            rfl
          refine take_ (i := 2) (N := some 28) (v := ?_) (a' := ?_) #[true, true, true, true, true, false, false, false, false] rfl rfl (by kernel_rfl) (fun _ _ _ h => h) (Or.inl ⟨by rfl, ?_⟩) hHeld ?_ ?_
          rotate_left
          · rintro w' ⟨s0, s1⟩
            go_simp
            with_reducible rfl
          rotate_left
          · simp only [Act.put, List.setIfInBounds_toArray, List.set_cons_zero, List.set_cons_succ, i64_w, i32_w]
            rfl
          refine take_ (i := 5) (N := some 31) (v := ?_) (a' := ?_) #[true, true, true, true, true, true, false, false, false] rfl rfl (by kernel_rfl) (fun _ _ _ h => h) (Or.inl ⟨by rfl, ?_⟩) hHeld ?_ ?_
          rotate_left
          · rintro w' ⟨s0, s1⟩
            go_simp
            with_reducible rfl
          rotate_left
          · simp only [Act.put, List.setIfInBounds_toArray, List.set_cons_zero, List.set_cons_succ, i64_w, i32_w]
            rfl
          refine pure_ (i := 6) (N := some 32) (v := ?_) (a' := ?_) #[true, true, true, true, true, true, true, false, false] rfl rfl (by kernel_rfl) (fun _ _ _ h => h) (Or.inl ⟨by rfl, ?_⟩) ?_ ?_
          rotate_left
          · intro w'
            go_simp
            with_reducible rfl
          rotate_left
          · simp only [Act.put, List.setIfInBounds_toArray, List.set_cons_zero, List.set_cons_succ, i64_w, i32_w]
            rfl
          refine pure_ (i := 7) (N := some 33) (v := ?_) (a' := ?_) #[true, true, true, true, true, true, true, true, false] rfl rfl (by kernel_rfl) (fun _ _ _ h => h) (Or.inl ⟨by rfl, ?_⟩) ?_ ?_
          rotate_left
          · intro w'
            go_simp
            with_reducible rfl
          rotate_left
          · simp only [Act.put, List.setIfInBounds_toArray, List.set_cons_zero, List.set_cons_succ, i64_w, i32_w]
            rfl
          refine last_ (i := 8) (N := none) #[true, true, true, true, true, true, true, true, true] rfl rfl (by kernel_rfl) (by decide) (fun K hK => ?_)
          refine skip_ (w1 := ?_) (by rfl) rfl ?_ ?_
          rotate_left
          · go_simp
            rfl
          refine hK.out _ _ ?_
          clear hK K
          refine done_ (by kernel_rfl) ?_
          have M1 := Aside0.mk (Mem.drew (Mem.set M1.out j (Go.bits .xor .u8 (I8 (f j)) (I8 (f r)))))
          have M2 := Aside0.mk (Mem.drew (Mem.other M2.out (g' := w.heap.size) (by omega) j (.int .u8 (Go.bits .xor .u8 (I8 (f j)) (I8 (f r))))))
          have M3 := Aside0.mk (Mem.drew (Mem.other M3.out (g' := w.heap.size) (by omega) j (.int .u8 (Go.bits .xor .u8 (I8 (f j)) (I8 (f r))))))
          have M4 := Aside0.mk (Mem.drew (Mem.other M4.out (g' := w.heap.size) (by omega) j (.int .u8 (Go.bits .xor .u8 (I8 (f j)) (I8 (f r))))))
          have HB := Aside0.mk (show Below w.heap.size w (wr.setCell ⟨w.heap.size, j, none⟩ (.int .u8 (Go.bits .xor .u8 (I8 (f j)) (I8 (f r))))).drew from below_drew (below_set HB.out (Nat.le_refl _)))
          rw [HV1.out] at M1
          have hx2 := M2.out.cell j (by rw [cells8_length]; exact hlt)
          rw [cells8_get _ _ hlt, clrTo_at] at hx2
          have hz2 := M2.out.cell r (by rw [cells8_length]; exact hr)
          rw [cells8_get _ _ hr, clrTo_row] at hz2
          have hf2 := M2.out.free j
          clear hx hz hf
          go_wp2
          refine start_ (n := 9) (S := fun w' => w'.cell? ⟨w.heap.size + 1, j, none⟩ = some (.int .u8 (I8 (g j))) ∧ w'.cell? ⟨w.heap.size + 1, r, none⟩ = some (.int .u8 (I8 (g r)))) (ds := [8]) #[false, false, false, false, false, false, false, false, false] (by kernel_rfl) rfl rfl ⟨hx2, hz2⟩ (fun hHeld => ?_)
          refine pure_ (i := 0) (N := some 34) (v := ?_) (a' := ?_) #[true, false, false, false, false, false, false, false, false] rfl rfl (by kernel_rfl) (fun _ _ _ h => h) (Or.inl ⟨by rfl, ?_⟩) ?_ ?_
          rotate_left
          · intro w'
            go_simp
            with_reducible rfl
          rotate_left
          · simp only [Act.put, List.setIfInBounds_toArray, List.set_cons_zero, List.set_cons_succ, i64_w, i32_w]
            rfl
          refine pure_ (i := 1) (N := some 35) (v := ?_) (a' := ?_) #[true, true, false, false, false, false, false, false, false] rfl rfl (by kernel_rfl) (fun _ _ _ h => h) (Or.inl ⟨by rfl, ?_⟩) ?_ ?_
          rotate_left
          · intro w'
            go_simp
            with_reducible rfl
          rotate_left
          · simp only [Act.put, List.setIfInBounds_toArray, List.set_cons_zero, List.set_cons_succ, i64_w, i32_w]
            rfl
          refine pure_ (i := 3) (N := some 37) (v := ?_) (a' := ?_) #[true, true, false, true, false, false, false, false, false] rfl rfl (by kernel_rfl) (fun _ _ _ h => h) (Or.inl ⟨by rfl, ?_⟩) ?_ ?_
          rotate_left
          · intro w'
            go_simp
            with_reducible rfl
          rotate_left
          · simp only [Act.put, List.setIfInBounds_toArray, List.set_cons_zero, List.set_cons_succ, i64_w, i32_w]
            rfl
          refine pure_ (i := 4) (N := some 38) (v := ?_) (a' := ?_) #[true, true, false, true, true, false, false, false, false] rfl rfl (by kernel_rfl) (fun _ _ _ h => h) (Or.inl ⟨by rfl, ?_⟩) ?_ ?_
          rotate_left
          · intro w'
            go_simp
            with_reducible rfl
          rotate_left
          · simp only [Act.put, List.setIfInBounds_toArray, List.set_cons_zero, List.set_cons_succ, i64_w, i32_w]
            rfl
          refine take_ (i := 2) (N := some 36) (v := ?_) (a' := ?_) #[true, true, true, true, true, false, false, false, false] rfl rfl (by kernel_rfl) (fun _ _ _ h => h) (Or.inl ⟨by rfl, ?_⟩) hHeld ?_ ?_
          rotate_left
          · rintro w' ⟨s0, s1⟩
            go_simp
            with_reducible rfl
          rotate_left
          · simp only [Act.put, List.setIfInBounds_toArray, List.set_cons_zero, List.set_cons_succ, i64_w, i32_w]
            rfl
          refine take_ (i := 5) (N := some 39) (v := ?_) (a' := ?_) #[true, true, true, true, true, true, false, false, false] rfl rfl (by kernel_rfl) (fun _ _ _ h => h) (Or.inl ⟨by rfl, ?_⟩) hHeld ?_ ?_
          rotate_left
          · rintro w' ⟨s0, s1⟩
            go_simp
            with_reducible rfl
          rotate_left
          · simp only [Act.put, List.setIfInBounds_toArray, List.set_cons_zero, List.set_cons_succ, i64_w, i32_w]
            rfl
          refine pure_ (i := 6) (N := some 40) (v := ?_) (a' := ?_) #[true, true, true, true, true, true, true, false, false] rfl rfl (by kernel_rfl) (fun _ _ _ h => h) (Or.inl ⟨by rfl, ?_⟩) ?_ ?_
          rotate_left
          · intro w'
            go_simp
            with_reducible rfl
          rotate_left
          · simp only [Act.put, List.setIfInBounds_toArray, List.set_cons_zero, List.set_cons_succ, i64_w, i32_w]
            rfl
          refine pure_ (i := 7) (N := some 41) (v := ?_) (a' := ?_) #[true, true, true, true, true, true, true, true, false] rfl rfl (by kernel_rfl) (fun _ _ _ h => h) (Or.inl ⟨by rfl, ?_⟩) ?_ ?_
          rotate_left
          · intro w'
            go_simp
            with_reducible rfl
          rotate_left
          · simp only [Act.put, List.setIfInBounds_toArray, List.set_cons_zero, List.set_cons_succ, i64_w, i32_w]
            rfl
          refine last_ (i := 8) (N := none) #[true, true, true, true, true, true, true, true, true] rfl rfl (by kernel_rfl) (by decide) (fun K hK => ?_)
          refine skip_ (w1 := ?_) (by rfl) rfl ?_ ?_
          rotate_left
          · go_simp
            rfl
          refine hK.out _ _ ?_
          clear hK K
          refine done_ (by kernel_rfl) ?_
          go_wp2
          go_roundg k1
          case measure => omega
          case rel => exact ⟨j + 1, by have := HJ.out; omega, by go_num, ⟨Mem.drew (Mem.other M1.out (g' := w.heap.size + 1) (by omega) _ _)⟩, ⟨by rw [← HV2.out]; exact Mem.drew (Mem.set M2.out _ _)⟩, ⟨Mem.drew (Mem.other M3.out (g' := w.heap.size + 1) (by omega) _ _)⟩, ⟨Mem.drew (Mem.other M4.out (g' := w.heap.size + 1) (by omega) _ _)⟩, ⟨below_drew (below_set HB.out (by omega))⟩⟩
        · have HV1 := Aside0.mk (clrTo_no f f r c j (.inr hb))
          have HV2 := Aside0.mk (clrTo_no f g r c j (.inr hb))
          rw [hb] at ha
          have ha1 : Go.bits .and .u8 (I8 (f j >>> c)) 1 = 0 := ha
          clear hb ha
          generalize f j >>> c = s at *
          go_wp2
          go_roundg k1
          case measure => omega
          case rel => exact ⟨j + 1, by have := HJ.out; omega, by go_num, ⟨by rw [HV1.out]; exact M1.out⟩, ⟨by rw [HV2.out]; exact M2.out⟩, M3, M4, HB⟩
end Go.Proofs.Ytpdikfmdnlhllaa.Mat
namespace Go.Proofs.Ytpdikfmdnlhllaa.Mat
open Go.RowKit Byte Arr Mem
set_option linter.unusedVariables false
set_option linter.unusedSimpArgs false
theorem xorTo_xor (g h : Nat → Bool) : ∀ n, xorTo (fun i => g i ^^ h i) n = (xorTo g n ^^ xorTo h n)
  | 0 => rfl
  | n + 1 => by
    rw [xorTo, xorTo, xorTo, xorTo_xor g h n]
    cases xorTo g n <;> cases xorTo h n <;> cases g n <;> cases h n <;> rfl
theorem par_xor (a b : BitVec 8) : par (a ^^^ b) = (par a ^^ par b) := by
  rw [par_eq, par_eq, par_eq, ← xorTo_xor]
  simp only [BitVec.getLsbD_xor]
theorem and_xor_l (a b x : BitVec 8) : (a ^^^ b) &&& x = (a &&& x) ^^^ (b &&& x) := ext8 fun i _ => by
  simp only [BitVec.getLsbD_and, BitVec.getLsbD_xor]
  cases a.getLsbD i <;> cases b.getLsbD i <;> cases x.getLsbD i <;> rfl
theorem and_xor_r (a x y : BitVec 8) : a &&& (x ^^^ y) = (a &&& x) ^^^ (a &&& y) := ext8 fun i _ => by
  simp only [BitVec.getLsbD_and, BitVec.getLsbD_xor]
  cases a.getLsbD i <;> cases x.getLsbD i <;> cases y.getLsbD i <;> rfl
theorem par_and_xor (a b x : BitVec 8) : par ((a ^^^ b) &&& x) = (par (a &&& x) ^^ par (b &&& x)) := by rw [and_xor_l, par_xor]
theorem app_bit (f : Rows) (x : BitVec 8) (k : Nat) (hk : k < 8) : (app f x).getLsbD k = par (f k &&& x) := by
  unfold app
  rw [ofB_bit _ _ (Nat.le_refl _)]
  simp [hk]
theorem app_congr {f g : Rows} (h : ∀ i, i < 8 → f i = g i) (x : BitVec 8) : app f x = app g x := ofB_congr 8 fun i hi => by rw [h i hi]
theorem app_xor (f : Rows) (x y : BitVec 8) : app f (x ^^^ y) = app f x ^^^ app f y := ext8 fun k hk => by
  rw [BitVec.getLsbD_xor, app_bit _ _ _ hk, app_bit _ _ _ hk, app_bit _ _ _ hk, and_xor_r, par_xor]
theorem app_zero (f : Rows) : app f 0#8 = 0#8 := ext8 fun k hk => by rw [app_bit _ _ _ hk]; simp [par]
theorem par_unit : ∀ (v : BitVec 8) (j : Fin 8), par (v &&& 1#8 <<< j.val) = v.getLsbD j.val := by decide +kernel
theorem app_unit (f : Rows) (i j : Nat) (hi : i < 8) (hj : j < 8) : (app f (1#8 <<< j)).getLsbD i = (f i).getLsbD j := by
  rw [app_bit _ _ _ hi]; exact par_unit (f i) ⟨j, hj⟩
theorem rows_of_app {f g : Rows} (h : ∀ x, app f x = app g x) (i : Nat) (hi : i < 8) : f i = g i := ext8 fun j hj => by
  rw [← app_unit f i j hi hj, ← app_unit g i j hi hj, h]
theorem one_app (x : BitVec 8) : app oneF x = x := ext8 fun k hk => by
  rw [app_bit _ _ _ hk]
  unfold oneF
  rw [BitVec.and_comm]
  exact par_unit x ⟨k, hk⟩
def swp (f : Rows) (i d : Nat) : Rows := fun k => if k = d then f i else if k = i then f d else f k
def swpB (i d : Nat) (y : BitVec 8) : BitVec 8 := ofB (fun k => y.getLsbD (if k = d then i else if k = i then d else k)) 8
theorem swp_app (f : Rows) (i d : Nat) (hi : i < 8) (hd : d < 8) (x : BitVec 8) : app (swp f i d) x = swpB i d (app f x) := ext8 fun k hk => by
  unfold swpB
  rw [app_bit _ _ _ hk, ofB_bit _ _ (Nat.le_refl _)]
  unfold swp
  split
  · rw [app_bit _ _ _ hi]; simp [hk]
  · split
    · rw [app_bit _ _ _ hd]; simp [hk]
    · rw [app_bit _ _ _ hk]; simp [hk]
theorem swpB_swpB (i d : Nat) (hi : i < 8) (hd : d < 8) (y : BitVec 8) : swpB i d (swpB i d y) = y := ext8 fun k hk => by
  unfold swpB
  simp only [ofB_bit _ _ (Nat.le_refl _), hk, decide_true, Bool.true_and]
  by_cases h1 : k = d
  · subst h1
    by_cases h2 : i = k
    · subst h2; simp [hi]
    · simp [hi, h2]
  · by_cases h2 : k = i
    · subst h2; simp [h1, hd]
    · simp [h1, h2, hk]
def clrB (b : Nat → Bool) (r : Nat) (y : BitVec 8) : BitVec 8 := ofB (fun k => y.getLsbD k ^^ (decide (k ≠ r) && b k && y.getLsbD r)) 8
theorem clr_app (f g : Rows) (r c : Nat) (hr : r < 8) (x : BitVec 8) : app (clrF f g r c) x = clrB (fun k => (f k).getLsbD c) r (app g x) := ext8 fun k hk => by
  unfold clrB
  rw [app_bit _ _ _ hk, ofB_bit _ _ (Nat.le_refl _), app_bit _ _ _ hk, app_bit _ _ _ hr]
  unfold clrF
  by_cases h : k ≠ r ∧ (f k).getLsbD c = true
  · rw [if_pos h, par_and_xor]
    simp only [hk, h.1, h.2, decide_true, Bool.true_and, ne_eq, not_false_eq_true]
  · rw [if_neg h]
    have : (decide (k ≠ r) && (f k).getLsbD c) = false := by
      cases hb : (f k).getLsbD c
      · simp
      · have : k = r := by
          by_cases hkr : k = r
          · exact hkr
          · exact absurd ⟨hkr, hb⟩ h
        simp [this]
    rw [this]; simp [hk]
theorem clrB_clrB (b : Nat → Bool) (r : Nat) (hr : r < 8) (y : BitVec 8) : clrB b r (clrB b r y) = y := ext8 fun k hk => by
  unfold clrB
  simp only [ofB_bit _ _ (Nat.le_refl _), hk, hr, decide_true, Bool.true_and, ne_eq, not_true, decide_false, Bool.false_and, Bool.xor_false]
  cases y.getLsbD k <;> cases (!decide (k = r)) <;> cases b k <;> cases y.getLsbD r <;> simp
/-- m is what f has become by wi, its first col columns reduced, of which done are units. -/
structure Red (f m wi : Rows) (done col : Nat) : Prop where
  le8 : done ≤ 8
  le : done ≤ col
  eq : ∀ x, app m x = app wi (app f x)
  inv : ∃ back : BitVec 8 → BitVec 8, ∀ y, back (app wi y) = y ∧ app wi (back y) = y
  piv : ∃ p : Nat → Nat, (∀ k, k < done → p k < col ∧ ∀ i, i < 8 → (m i).getLsbD (p k) = decide (i = k)) ∧ (done = col → ∀ k, k < done → p k = k)
  zero : ∀ c, c < col → ∀ i, done ≤ i → i < 8 → (m i).getLsbD c = false
theorem Red.start (f : Rows) : Red f f oneF 0 0 where
  le8 := by omega
  le := Nat.le_refl _
  eq x := by rw [one_app]
  inv := ⟨fun y => y, fun y => ⟨one_app y, one_app y⟩⟩
  piv := ⟨fun k => k, fun k hk => by omega, fun _ k _ => rfl⟩
  zero c hc := by omega
theorem Red.skip {f m wi : Rows} {done col : Nat} (h : Red f m wi done col) (hz : ∀ i, done ≤ i → i < 8 → (m i).getLsbD col = false) : Red f m wi done (col + 1) where
  le8 := h.le8
  le := by have := h.le; omega
  eq := h.eq
  inv := h.inv
  piv := by
    obtain ⟨p, h1, h2⟩ := h.piv
    exact ⟨p, fun k hk => ⟨by have := (h1 k hk).1; omega, (h1 k hk).2⟩, fun he => by have := h.le; omega⟩
  zero c hc i hi h8 := by
    rcases Nat.lt_or_ge c col with h1 | h1
    · exact h.zero c h1 i hi h8
    · obtain rfl : c = col := by omega
      exact hz i hi h8
theorem Red.step {f m wi : Rows} {done col i : Nat} (h : Red f m wi done col) (hd : done ≤ i) (hi : i < 8) (hb : (m i).getLsbD col = true) (hcol : col < 8) :
    Red f (clrF (swp m i done) (swp m i done) done col) (clrF (swp m i done) (swp wi i done) done col) (done + 1) (col + 1) where
  le8 := by omega
  le := by have := h.le; omega
  eq x := by rw [clr_app _ _ _ _ (by omega), clr_app _ _ _ _ (by omega), swp_app _ _ _ hi (by omega), swp_app _ _ _ hi (by omega), h.eq]
  inv := by
    obtain ⟨back, hback⟩ := h.inv
    refine ⟨fun y => back (swpB i done (clrB (fun k => (swp m i done k).getLsbD col) done y)), fun y => ⟨?_, ?_⟩⟩
    · show back (swpB i done (clrB (fun k => (swp m i done k).getLsbD col) done (app (clrF (swp m i done) (swp wi i done) done col) y))) = y
      rw [clr_app _ _ _ _ (by omega), swp_app _ _ _ hi (by omega), clrB_clrB _ _ (by omega), swpB_swpB _ _ hi (by omega), (hback y).1]
    · show app _ (back _) = y
      rw [clr_app _ _ _ _ (by omega), swp_app _ _ _ hi (by omega), (hback _).2, swpB_swpB _ _ hi (by omega), clrB_clrB _ _ (by omega)]
  piv := by
    obtain ⟨p, h1, h2⟩ := h.piv
    refine ⟨fun k => if k = done then col else p k, fun k hk => ?_, fun he k hk => ?_⟩
    · by_cases hkd : k = done
      · subst hkd
        simp only [if_true]
        refine ⟨by omega, fun j hj => ?_⟩
        unfold clrF
        by_cases hjk : j = k
        · subst hjk
          rw [if_neg (by simp)]
          simp [swp, hb]
        · by_cases hbj : (swp m i k j).getLsbD col = true
          · rw [if_pos ⟨hjk, hbj⟩, BitVec.getLsbD_xor, hbj]
            simp [swp, hb, hjk]
          · rw [if_neg (fun hh => hbj hh.2)]
            simp [hjk] at hbj ⊢
            exact hbj
      · simp only [if_neg hkd]
        have hk' : k < done := by omega
        have hp := h1 k hk'
        refine ⟨by omega, fun j hj => ?_⟩
        have hdone : (swp m i done done).getLsbD (p k) = false := by
          simp only [swp, if_true]
          rw [hp.2 i hi]; simp; omega
        have hj1 : (swp m i done j).getLsbD (p k) = decide (j = k) := by
          unfold swp
          split
          · rename_i e; subst e; rw [hp.2 i hi]; simp; omega
          · split
            · rename_i e; subst e; rw [hp.2 done (by omega)]; simp; omega
            · exact hp.2 j hj
        unfold clrF
        split
        · rw [BitVec.getLsbD_xor, hj1, hdone]; simp
        · exact hj1
    · have he' : done = col := by omega
      by_cases hkd : k = done
      · simp [hkd, he']
      · simp only [if_neg hkd]
        exact h2 he' k (by omega)
  zero c hc j hj h8 := by
    have hz : c < col → ∀ j, done ≤ j → j < 8 → (swp m i done j).getLsbD c = false := by
      intro hc j hj h8
      unfold swp
      split
      · exact h.zero c hc i hd hi
      · split
        · exact h.zero c hc done (Nat.le_refl _) (by omega)
        · exact h.zero c hc j hj h8
    rcases Nat.lt_or_ge c col with h1 | h1
    · unfold clrF
      split
      · rw [BitVec.getLsbD_xor, hz h1 j (by omega) h8, hz h1 done (Nat.le_refl _) (by omega)]; rfl
      · exact hz h1 j (by omega) h8
    · obtain rfl : c = col := by omega
      unfold clrF
      by_cases hbj : (swp m i done j).getLsbD c = true
      · rw [if_pos ⟨by omega, hbj⟩, BitVec.getLsbD_xor, hbj]
        simp [swp, hb]
      · rw [if_neg (fun hh => hbj hh.2)]
        simpa using hbj
theorem swp_cells (f : Rows) (i d : Nat) (hi : i < 8) (hd : d < 8) : ((cells8 f).set i (I8 (f d))).set d (I8 (f i)) = cells8 (swp f i d) := by
  rw [cells8_set _ _ hi, cells8_set _ _ hd]
  refine put_congr fun k _ => ?_
  unfold swp put
  rfl
end Go.Proofs.Ytpdikfmdnlhllaa.Mat
namespace Go.Proofs.Ytpdikfmdnlhllaa.Mat
open Go.RowKit Go.Proofs.YtpdikfmdnlhllaaW.PrintWords Go.Proofs.YtpdikfmdnlhllaaW.PrintLast Go.Proofs.YtpdikfmdnlhllaaW.PrintMore Byte Sl Arr Mem Gives ArrEq
set_option linter.unusedVariables false
set_option linter.unusedSimpArgs false
set_option maxHeartbeats 4000000
set_option maxRecDepth 100000
theorem cell_yields {o : Oper} {a : Act} {w : World} {x y : Operand} {t : TypeId} {g j : Nat} {l : List Int} {v : Int} (h : Mem .u8 w g t l) (hj : j < l.length) (ho : o.op = .store 5 x y) (hx : a.eval x = .pointer (some ⟨g, j, none⟩)) (hy : a.eval y = .int .u8 v) : (execOp a.eval o).run Try.prog w = .ok .skip (w.setCell ⟨g, j, none⟩ (.int .u8 v)) := by
  have hc := h.cell j hj
  have hf := h.free j
  unfold execOp
  rw [ho]
  simp only [hx, hy]
  go_simp
theorem results_cct {P : Program} {fn : Func} {p p' u : Tmp} {ty ty' : TypeId} (h : fn.results = #[.cell p ty, .cell p' ty', .tmp u]) (tmps : Array Value) (w : World) (g g' : Nat) (t t' : TypeId) (cs cs' : Array Value) (fr fr' : Nat × Nat) (d d' : TypeDesc)
    (hp : tmps.getD p undef = .pointer (some ⟨g, 0, none⟩)) (hg : w.heap[g]? = some (.cells cs t fr))
    (hu : P.underlying ty = some d) (hd : (match d with | .struct _ | .array _ _ => true | _ => false) = true) (hi : (P.info? ty).map (·.size) = some cs.size)
    (hp' : tmps.getD p' undef = .pointer (some ⟨g', 0, none⟩)) (hg' : w.heap[g']? = some (.cells cs' t' fr'))
    (hu' : P.underlying ty' = some d') (hd' : (match d' with | .struct _ | .array _ _ => true | _ => false) = true) (hi' : (P.info? ty').map (·.size) = some cs'.size) :
    (results fn tmps).run P w = .ok (.tuple #[.agg cs, .agg cs', tmps.getD u undef]) w := by
  have h1 : tmps[p]?.getD undef = .pointer (some ⟨g, 0, none⟩) := by simpa using hp
  have h2 : tmps[p']?.getD undef = .pointer (some ⟨g', 0, none⟩) := by simpa using hp'
  simp [results, h, h1, h2, asAddr, run_loadVar_row w g t ty cs fr d hg hu hd hi, run_loadVar_row w g' t' ty' cs' fr' d' hg' hu' hd' hi']
theorem reduce_c (f : Rows) (w : World) : Calls Try.prog 114 #[matV f] w fun e w' => ∃ m wi done, e = .returned (.tuple #[matV m, matV wi, .int .i64 (done : Nat)]) ∧ Red f m wi done 8 ∧ Below w.heap.size w w' := by
  rw [matV_eq]
  have M1 := Aside0.mk (Mem.alloc (Mem.alloc (Mem.new .u8 w 113 (cells8 f)) (.cells (cellsOf .u8 (cells8 zrow)) 113)) (.cells (cellsOf .u8 (cells8 zrow)) 113))
  have M2 := Aside0.mk (Mem.alloc (Mem.new2 .u8 w (.cells (cellsOf .u8 (cells8 f)) 113) 113 (cells8 zrow)) (.cells (cellsOf .u8 (cells8 zrow)) 113))
  have M3 := Aside0.mk (Mem.new3 .u8 w (.cells (cellsOf .u8 (cells8 f)) 113) (.cells (cellsOf .u8 (cells8 zrow)) 113) 113 (cells8 zrow))
  have HB := Aside0.mk (below_alloc (below_alloc (below_alloc (Below.refl w.heap.size w) (.cells (cellsOf .u8 (cells8 f)) 113)) (.cells (cellsOf .u8 (cells8 zrow)) 113)) (.cells (cellsOf .u8 (cells8 zrow)) 113))
  have HC := Aside0.mk one_c
  rw [matV_eq] at HC
  go_enter Try.func114, Try.ntmps114
  go_wp2_with (first
    | (go_at_call 115; (with_reducible refine (HC.out.q _).mono ?_); rintro e w1 ⟨rfl, hb1⟩; have M1 := Aside0.mk (Mem.below M1.out hb1); have M2 := Aside0.mk (Mem.below M2.out hb1); have M3 := Aside0.mk (Mem.below M3.out hb1); have HB := Aside0.mk (below_step HB.out hb1); have N1 := Aside0.mk (Mem.alloc M1.out (.cells (cellsOf .u8 (cells8 zrow)) 113)); have N2 := Aside0.mk (Mem.alloc M2.out (.cells (cellsOf .u8 (cells8 zrow)) 113)); have N3 := Aside0.mk (Mem.alloc M3.out (.cells (cellsOf .u8 (cells8 zrow)) 113)); have N5 := Aside0.mk (Mem.new .u8 w1 113 (cells8 zrow)); have NB := Aside0.mk (below_alloc HB.out (.cells (cellsOf .u8 (cells8 zrow)) 113)); have hg5 := M3.out.lt; have HS := Aside0.mk HB.out.size)
    | ((with_reducible refine gate_store (t := 113) (p := 5) rfl ?_); refine Mem.store (l' := cells8 oneF) N5.out rfl 113 (.tmp 5) (.tmp 9) rfl rfl rfl (by rw [cells8_length]; exact info_mat) (by simp only [cells8_length]) ?_))
  have P1 := Aside0.mk (Mem.row N1.out (g' := w1.heap.size) (by omega) (cellsOf .u8 (cells8 oneF)))
  have P2 := Aside0.mk (Mem.row N2.out (g' := w1.heap.size) (by omega) (cellsOf .u8 (cells8 oneF)))
  have P3 := Aside0.mk (Mem.row N3.out (g' := w1.heap.size) (by omega) (cellsOf .u8 (cells8 oneF)))
  have P5 := Aside0.mk (Mem.put N5.out (cells8 oneF))
  have PB := Aside0.mk (below_setRow NB.out (g := w1.heap.size) HS.out (cellsOf .u8 (cells8 oneF)))
  have HG := Aside0.mk hg5
  clear M1 M2 M3 HB N1 N2 N3 N5 NB hg5
  generalize hg : w1.heap.size = g5 at *
  clear hg
  have R0 := Aside0.mk (Red.start f)
  go_loopg [6, 10] 8 (fun kq dv cv w' => ∃ (done col : Nat) (m wi : Rows), col + kq = 8 ∧ dv = .int .i64 done ∧ cv = .int .i64 col ∧ Aside0 (Red f m wi done col) ∧ Aside0 (Mem .u8 w' w.heap.size 113 (cells8 m)) ∧ Aside0 (Mem .u8 w' (w.heap.size + 1) 113 (cells8 zrow)) ∧ Aside0 (Mem .u8 w' (w.heap.size + 2) 113 (cells8 zrow)) ∧ Aside0 (Mem .u8 w' g5 113 (cells8 wi)) ∧ Aside0 (Below w.heap.size w w'))
  case atStart => exact ⟨0, 0, f, oneF, by omega, rfl, rfl, R0, P1, P2, P3, P5, PB⟩
  case round =>
    clear P1 P2 P3 P5 PB R0
    obtain ⟨done, col, m, wi, hcol, rfl, rfl, HR, M1, M2, M3, M5, HB⟩ := hrel
    cases gk with
    | zero =>
      obtain rfl : col = 8 := by omega
      have hl0 := mem_loads (Mem.drew M1.out)
      have hl1 := mem_loads (Mem.drew M5.out)
      have hg5 := HG.out
      have hsz := HS.out
      go_wp2
      refine start_ (n := 6) (S := fun w' => (loadVar 113 ⟨w.heap.size, 0, none⟩).run Try.prog w' = .ok (.agg (cellsOf .u8 (cells8 m))) w' ∧ (loadVar 113 ⟨g5, 0, none⟩).run Try.prog w' = .ok (.agg (cellsOf .u8 (cells8 wi))) w') (ds := [4]) #[false, false, false, false, false, false] (by kernel_rfl) rfl rfl ⟨hl0, hl1⟩ (fun hHeld => ?_)
      refine pure_ (i := 2) (N := some 58) (v := ?_) (a' := ?_) #[false, false, true, false, false, false] rfl rfl (by kernel_rfl) (fun _ _ _ h => h) (Or.inl ⟨by rfl, ?_⟩) ?_ ?_
      rotate_left
      · intro w'
        go_simp
        with_reducible rfl
      rotate_left
      · simp only [Act.put, List.setIfInBounds_toArray, List.set_cons_zero, List.set_cons_succ, i64_w, i32_w]
        rfl
      refine take_ (i := 0) (N := some 56) (v := ?_) (a' := ?_) #[true, false, true, false, false, false] rfl rfl (by kernel_rfl) (fun _ _ _ h => h) (Or.inl ⟨by rfl, ?_⟩) hHeld ?_ ?_
      rotate_left
      · rintro w' ⟨s0, s1⟩
        refine (load_yields rfl rfl s0).trans ?_
        with_reducible rfl
      rotate_left
      · simp only [Act.put, List.setIfInBounds_toArray, List.set_cons_zero, List.set_cons_succ, i64_w, i32_w]
        rfl
      refine take_ (i := 1) (N := some 57) (v := ?_) (a' := ?_) #[true, true, true, false, false, false] rfl rfl (by kernel_rfl) (fun _ _ _ h => h) (Or.inl ⟨by rfl, ?_⟩) hHeld ?_ ?_
      rotate_left
      · rintro w' ⟨s0, s1⟩
        refine (load_yields rfl rfl s1).trans ?_
        with_reducible rfl
      rotate_left
      · simp only [Act.put, List.setIfInBounds_toArray, List.set_cons_zero, List.set_cons_succ, i64_w, i32_w]
        rfl
      refine one_ (i := 3) (N := none) #[true, true, true, true, false, false] rfl rfl (by kernel_rfl) (by decide) (fun K hK => ?_)
      refine skip_ (w1 := ?_) (by rfl) rfl ?_ ?_
      rotate_left
      · refine mat_store_yields (f2 := m) (x := .tmp 2) (y := .tmp 56) (Mem.drew M2.out) ?_ ?_ ?_ <;> rfl
      have M1 := Aside0.mk (Mem.drew M1.out)
      have M2 := Aside0.mk (Mem.drew M2.out)
      have M3 := Aside0.mk (Mem.drew M3.out)
      have M5 := Aside0.mk (Mem.drew M5.out)
      have HB := Aside0.mk (below_drew HB.out)
      have M1 := Aside0.mk (Mem.row M1.out (g' := w.heap.size + 1) (by omega) (cellsOf .u8 (cells8 m)))
      have M3 := Aside0.mk (Mem.row M3.out (g' := w.heap.size + 1) (by omega) (cellsOf .u8 (cells8 m)))
      have M5 := Aside0.mk (Mem.row M5.out (g' := w.heap.size + 1) (by omega) (cellsOf .u8 (cells8 m)))
      have M2 := Aside0.mk (Mem.put M2.out (cells8 m))
      have HB := Aside0.mk (below_setRow HB.out (g := w.heap.size + 1) (by omega) (cellsOf .u8 (cells8 m)))
      refine hK.out _ _ ⟨(mem_loads M1.out), (mem_loads M5.out)⟩ (fun hHeld => ?_)
      clear hK K
      refine last_ (i := 4) (N := none) #[true, true, true, true, true, false] rfl rfl (by kernel_rfl) (by decide) (fun K hK => ?_)
      refine skip_ (w1 := ?_) (by rfl) rfl ?_ ?_
      rotate_left
      · refine mat_store_yields (f2 := wi) (x := .tmp 3) (y := .tmp 57) M3.out ?_ ?_ ?_ <;> rfl
      have M1 := Aside0.mk (Mem.row M1.out (g' := w.heap.size + 2) (by omega) (cellsOf .u8 (cells8 wi)))
      have M2 := Aside0.mk (Mem.row M2.out (g' := w.heap.size + 2) (by omega) (cellsOf .u8 (cells8 wi)))
      have M5 := Aside0.mk (Mem.row M5.out (g' := w.heap.size + 2) (by omega) (cellsOf .u8 (cells8 wi)))
      have M3 := Aside0.mk (Mem.put M3.out (cells8 wi))
      have HB := Aside0.mk (below_setRow HB.out (g := w.heap.size + 2) (by omega) (cellsOf .u8 (cells8 wi)))
      refine hK.out _ _ ?_
      clear hK K
      refine pure_ (i := 5) (N := some 4) (v := ?_) (a' := ?_) #[true, true, true, true, true, true] rfl rfl (by kernel_rfl) (fun _ _ _ h => h) (Or.inl ⟨by rfl, ?_⟩) ?_ ?_
      rotate_left
      · intro w'
        go_simp
        with_reducible rfl
      rotate_left
      · simp only [Act.put, List.setIfInBounds_toArray, List.set_cons_zero, List.set_cons_succ, i64_w, i32_w]
        rfl
      refine done_ (by kernel_rfl) ?_
      go_wp2
      refine bodyPost_ret (results_cct rfl _ _ _ _ _ _ _ _ _ _ _ _ rfl M2.out Try.underlying113 rfl (by rw [cellsOf_size, cells8_length]; exact info_mat) rfl M3.out Try.underlying113 rfl (by rw [cellsOf_size, cells8_length]; exact info_mat)) rfl ⟨m, wi, done, rfl, HR.out, HB.out⟩
    | succ k1 =>
      have hcl : col < 8 := by omega
      have HCOL := Aside0.mk hcol
      clear hcol
      have hc1 : (col : Int) < 8 := by omega
      have hc2 : (col : Int) ≤ 8 := by omega
      have hc3 : (0 : Int) ≤ (col : Int) := by omega
      have hd8 := HR.out.le8
      have hdc := HR.out.le
      have hg5 := HG.out
      have hsz := HS.out
      go_wp2
      go_loopg [6, 8] (8 - done) (fun kq dv iv w' => ∃ i : Nat, i + kq = 8 ∧ done ≤ i ∧ dv = .int .i64 done ∧ iv = .int .i64 i ∧ Aside0 (∀ k, done ≤ k → k < i → (m k).getLsbD col = false) ∧ Aside0 (Mem .u8 w' w.heap.size 113 (cells8 m)) ∧ Aside0 (Mem .u8 w' (w.heap.size + 1) 113 (cells8 zrow)) ∧ Aside0 (Mem .u8 w' (w.heap.size + 2) 113 (cells8 zrow)) ∧ Aside0 (Mem .u8 w' g5 113 (cells8 wi)) ∧ Aside0 (Below w.heap.size w w'))
      case atStart => exact ⟨done, by omega, Nat.le_refl _, rfl, rfl, ⟨fun k h1 h2 => absurd h2 (by omega)⟩, M1, M2, M3, M5, HB⟩
      case round =>
        clear M1 M2 M3 M5 HB
        obtain ⟨i, hi, hdi, rfl, rfl, HZ, M1, M2, M3, M5, HB⟩ := hrel
        cases gk with
        | zero =>
          obtain rfl : i = 8 := by omega
          go_wp2
          go_roundg k1
          case measure => omega
          case rel => exact ⟨done, col + 1, m, wi, by have := HCOL.out; omega, rfl, by go_num, ⟨HR.out.skip HZ.out⟩, M1, M2, M3, M5, HB⟩
        | succ k2 =>
          have hil : i < 8 := by omega
          have HI := Aside0.mk hi
          clear hi
          have hi1 : (i : Int) < 8 := by omega
          have hi3 : (0 : Int) ≤ (i : Int) := by omega
          have hx := M1.out.cell i (by rw [cells8_length]; exact hil)
          rw [cells8_get _ _ hil] at hx
          have hs := shr8 (m i) col
          have ha := and_one8 (m i >>> col)
          rw [shr_bit] at ha
          rcases Bool.eq_false_or_eq_true ((m i).getLsbD col) with hb | hb
          · have HRS := Aside0.mk (HR.out.step hdi hil hb hcl)
            have HSW1 := Aside0.mk (swp_cells m i done hil (by omega))
            have HSW2 := Aside0.mk (swp_cells wi i done hil (by omega))
            have HCL := Aside0.mk (clear_c (swp m i done) (swp wi i done) done col (by omega) hcl)
            rw [matV_eq, matV_eq, matV_eq, matV_eq] at HCL
            rw [hb] at ha
            have ha1 : Go.bits .and .u8 (I8 (m i >>> col)) 1 = 1 := ha
            clear hb ha
            have hdl : done < 8 := by omega
            have hd1 : (done : Int) < 8 := by omega
            have hd3 : (0 : Int) ≤ (done : Int) := by omega
            generalize m i >>> col = s at *
            go_wp2
            have hx1 := M1.out.cell done (by rw [cells8_length]; exact hdl)
            rw [cells8_get _ _ hdl] at hx1
            have hx2 := M1.out.cell i (by rw [cells8_length]; exact hil)
            rw [cells8_get _ _ hil] at hx2
            refine start_ (n := 12) (S := fun w' => w'.cell? ⟨w.heap.size, done, none⟩ = some (.int .u8 (I8 (m done))) ∧ w'.cell? ⟨w.heap.size, i, none⟩ = some (.int .u8 (I8 (m i)))) (ds := [9, 11]) #[false, false, false, false, false, false, false, false, false, false, false, false] (by kernel_rfl) rfl rfl ⟨hx1, hx2⟩ (fun hHeld => ?_)
            refine pure_ (i := 0) (N := some 25) (v := ?_) (a' := ?_) #[true, false, false, false, false, false, false, false, false, false, false, false] rfl rfl (by kernel_rfl) (fun _ _ _ h => h) (Or.inl ⟨by rfl, ?_⟩) ?_ ?_
            rotate_left
            · intro w'
              go_simp
              with_reducible rfl
            rotate_left
            · simp only [Act.put, List.setIfInBounds_toArray, List.set_cons_zero, List.set_cons_succ, i64_w, i32_w]
              rfl
            refine pure_ (i := 1) (N := some 26) (v := ?_) (a' := ?_) #[true, true, false, false, false, false, false, false, false, false, false, false] rfl rfl (by kernel_rfl) (fun _ _ _ h => h) (Or.inl ⟨by rfl, ?_⟩) ?_ ?_
            rotate_left
            · intro w'
              go_simp
              with_reducible rfl
            rotate_left
            · simp only [Act.put, List.setIfInBounds_toArray, List.set_cons_zero, List.set_cons_succ, i64_w, i32_w]
              rfl
            refine pure_ (i := 2) (N := some 27) (v := ?_) (a' := ?_) #[true, true, true, false, false, false, false, false, false, false, false, false] rfl rfl (by kernel_rfl) (fun _ _ _ h => h) (Or.inl ⟨by rfl, ?_⟩) ?_ ?_
            rotate_left
            · intro w'
              go_simp
              with_reducible rfl
            rotate_left
            · simp only [Act.put, List.setIfInBounds_toArray, List.set_cons_zero, List.set_cons_succ, i64_w, i32_w]
              rfl
            refine pure_ (i := 3) (N := some 28) (v := ?_) (a' := ?_) #[true, true, true, true, false, false, false, false, false, false, false, false] rfl rfl (by kernel_rfl) (fun _ _ _ h => h) (Or.inl ⟨by rfl, ?_⟩) ?_ ?_
            rotate_left
            · intro w'
              go_simp
              with_reducible rfl
            rotate_left
            · simp only [Act.put, List.setIfInBounds_toArray, List.set_cons_zero, List.set_cons_succ, i64_w, i32_w]
              rfl
            refine pure_ (i := 5) (N := some 30) (v := ?_) (a' := ?_) #[true, true, true, true, false, true, false, false, false, false, false, false] rfl rfl (by kernel_rfl) (fun _ _ _ h => h) (Or.inl ⟨by rfl, ?_⟩) ?_ ?_
            rotate_left
            · intro w'
              go_simp
              with_reducible rfl
            rotate_left
            · simp only [Act.put, List.setIfInBounds_toArray, List.set_cons_zero, List.set_cons_succ, i64_w, i32_w]
              rfl
            refine pure_ (i := 6) (N := some 31) (v := ?_) (a' := ?_) #[true, true, true, true, false, true, true, false, false, false, false, false] rfl rfl (by kernel_rfl) (fun _ _ _ h => h) (Or.inl ⟨by rfl, ?_⟩) ?_ ?_
            rotate_left
            · intro w'
              go_simp
              with_reducible rfl
            rotate_left
            · simp only [Act.put, List.setIfInBounds_toArray, List.set_cons_zero, List.set_cons_succ, i64_w, i32_w]
              rfl
            refine take_ (i := 4) (N := some 29) (v := ?_) (a' := ?_) #[true, true, true, true, true, true, true, false, false, false, false, false] rfl rfl (by kernel_rfl) (fun _ _ _ h => h) (Or.inl ⟨by rfl, ?_⟩) hHeld ?_ ?_
            rotate_left
            · rintro w' ⟨s0, s1⟩
              go_simp
              with_reducible rfl
            rotate_left
            · simp only [Act.put, List.setIfInBounds_toArray, List.set_cons_zero, List.set_cons_succ, i64_w, i32_w]
              rfl
            refine take_ (i := 7) (N := some 32) (v := ?_) (a' := ?_) #[true, true, true, true, true, true, true, true, false, false, false, false] rfl rfl (by kernel_rfl) (fun _ _ _ h => h) (Or.inl ⟨by rfl, ?_⟩) hHeld ?_ ?_
            rotate_left
            · rintro w' ⟨s0, s1⟩
              go_simp
              with_reducible rfl
            rotate_left
            · simp only [Act.put, List.setIfInBounds_toArray, List.set_cons_zero, List.set_cons_succ, i64_w, i32_w]
              rfl
            refine pure_ (i := 8) (N := some 33) (v := ?_) (a' := ?_) #[true, true, true, true, true, true, true, true, true, false, false, false] rfl rfl (by kernel_rfl) (fun _ _ _ h => h) (Or.inl ⟨by rfl, ?_⟩) ?_ ?_
            rotate_left
            · intro w'
              go_simp
              with_reducible rfl
            rotate_left
            · simp only [Act.put, List.setIfInBounds_toArray, List.set_cons_zero, List.set_cons_succ, i64_w, i32_w]
              rfl
            refine last_ (i := 9) (N := none) #[true, true, true, true, true, true, true, true, true, true, false, false] rfl rfl (by kernel_rfl) (by decide) (fun K hK => ?_)
            refine skip_ (w1 := ?_) (by rfl) rfl ?_ ?_
            rotate_left
            · refine cell_yields (x := .tmp 33) (y := .tmp 29) (j := i) (v := I8 (m done)) (Mem.drew M1.out) (by simp only [List.length_set, cells8_length]; omega) ?_ ?_ ?_ <;> rfl
            have M2 := Aside0.mk (Mem.drew M2.out)
            have M3 := Aside0.mk (Mem.drew M3.out)
            have M5 := Aside0.mk (Mem.drew M5.out)
            have M1 := Aside0.mk (Mem.drew M1.out)
            have HB := Aside0.mk (below_drew HB.out)
            have M2 := Aside0.mk (Mem.other M2.out (g' := w.heap.size) (by omega) i (.int .u8 (I8 (m done))))
            have M3 := Aside0.mk (Mem.other M3.out (g' := w.heap.size) (by omega) i (.int .u8 (I8 (m done))))
            have M5 := Aside0.mk (Mem.other M5.out (g' := w.heap.size) (by omega) i (.int .u8 (I8 (m done))))
            have M1 := Aside0.mk (Mem.set M1.out i (I8 (m done)))
            have HB := Aside0.mk (below_set (g := w.heap.size) (j := i) (v := .int .u8 (I8 (m done))) HB.out (by omega))
            refine hK.out _ _ ?_
            clear hK K
            refine pure_ (i := 10) (N := some 34) (v := ?_) (a' := ?_) #[true, true, true, true, true, true, true, true, true, true, true, false] rfl rfl (by kernel_rfl) (fun _ _ _ h => h) (Or.inl ⟨by rfl, ?_⟩) ?_ ?_
            rotate_left
            · intro w'
              go_simp
              with_reducible rfl
            rotate_left
            · simp only [Act.put, List.setIfInBounds_toArray, List.set_cons_zero, List.set_cons_succ, i64_w, i32_w]
              rfl
            refine last_ (i := 11) (N := none) #[true, true, true, true, true, true, true, true, true, true, true, true] rfl rfl (by kernel_rfl) (by decide) (fun K hK => ?_)
            refine skip_ (w1 := ?_) (by rfl) rfl ?_ ?_
            rotate_left
            · refine cell_yields (x := .tmp 34) (y := .tmp 32) (j := done) (v := I8 (m i)) M1.out (by simp only [List.length_set, cells8_length]; omega) ?_ ?_ ?_ <;> rfl
            have M2 := Aside0.mk (Mem.other M2.out (g' := w.heap.size) (by omega) done (.int .u8 (I8 (m i))))
            have M3 := Aside0.mk (Mem.other M3.out (g' := w.heap.size) (by omega) done (.int .u8 (I8 (m i))))
            have M5 := Aside0.mk (Mem.other M5.out (g' := w.heap.size) (by omega) done (.int .u8 (I8 (m i))))
            have M1 := Aside0.mk (Mem.set M1.out done (I8 (m i)))
            have HB := Aside0.mk (below_set (g := w.heap.size) (j := done) (v := .int .u8 (I8 (m i))) HB.out (by omega))
            refine hK.out _ _ ?_
            clear hK K
            refine done_ (by kernel_rfl) ?_
            rw [HSW1.out] at M1
            clear hx hx1 hx2
            go_wp2
            have hx1 := M5.out.cell done (by rw [cells8_length]; exact hdl)
            rw [cells8_get _ _ hdl] at hx1
            have hx2 := M5.out.cell i (by rw [cells8_length]; exact hil)
            rw [cells8_get _ _ hil] at hx2
            refine start_ (n := 12) (S := fun w' => w'.cell? ⟨g5, done, none⟩ = some (.int .u8 (I8 (wi done))) ∧ w'.cell? ⟨g5, i, none⟩ = some (.int .u8 (I8 (wi i)))) (ds := [9, 11]) #[false, false, false, false, false, false, false, false, false, false, false, false] (by kernel_rfl) rfl rfl ⟨hx1, hx2⟩ (fun hHeld => ?_)
            refine pure_ (i := 0) (N := some 35) (v := ?_) (a' := ?_) #[true, false, false, false, false, false, false, false, false, false, false, false] rfl rfl (by kernel_rfl) (fun _ _ _ h => h) (Or.inl ⟨by rfl, ?_⟩) ?_ ?_
            rotate_left
            · intro w'
              go_simp
              with_reducible rfl
            rotate_left
            · simp only [Act.put, List.setIfInBounds_toArray, List.set_cons_zero, List.set_cons_succ, i64_w, i32_w]
              rfl
            refine pure_ (i := 1) (N := some 36) (v := ?_) (a' := ?_) #[true, true, false, false, false, false, false, false, false, false, false, false] rfl rfl (by kernel_rfl) (fun _ _ _ h => h) (Or.inl ⟨by rfl, ?_⟩) ?_ ?_
            rotate_left
            · intro w'
              go_simp
              with_reducible rfl
            rotate_left
            · simp only [Act.put, List.setIfInBounds_toArray, List.set_cons_zero, List.set_cons_succ, i64_w, i32_w]
              rfl
            refine pure_ (i := 2) (N := some 37) (v := ?_) (a' := ?_) #[true, true, true, false, false, false, false, false, false, false, false, false] rfl rfl (by kernel_rfl) (fun _ _ _ h => h) (Or.inl ⟨by rfl, ?_⟩) ?_ ?_
            rotate_left
            · intro w'
              go_simp
              with_reducible rfl
            rotate_left
            · simp only [Act.put, List.setIfInBounds_toArray, List.set_cons_zero, List.set_cons_succ, i64_w, i32_w]
              rfl
            refine pure_ (i := 3) (N := some 38) (v := ?_) (a' := ?_) #[true, true, true, true, false, false, false, false, false, false, false, false] rfl rfl (by kernel_rfl) (fun _ _ _ h => h) (Or.inl ⟨by rfl, ?_⟩) ?_ ?_
            rotate_left
            · intro w'
              go_simp
              with_reducible rfl
            rotate_left
            · simp only [Act.put, List.setIfInBounds_toArray, List.set_cons_zero, List.set_cons_succ, i64_w, i32_w]
              rfl
            refine pure_ (i := 5) (N := some 40) (v := ?_) (a' := ?_) #[true, true, true, true, false, true, false, false, false, false, false, false] rfl rfl (by kernel_rfl) (fun _ _ _ h => h) (Or.inl ⟨by rfl, ?_⟩) ?_ ?_
            rotate_left
            · intro w'
              go_simp
              with_reducible rfl
            rotate_left
            · simp only [Act.put, List.setIfInBounds_toArray, List.set_cons_zero, List.set_cons_succ, i64_w, i32_w]
              rfl
            refine pure_ (i := 6) (N := some 41) (v := ?_) (a' := ?_) #[true, true, true, true, false, true, true, false, false, false, false, false] rfl rfl (by kernel_rfl) (fun _ _ _ h => h) (Or.inl ⟨by rfl, ?_⟩) ?_ ?_
            rotate_left
            · intro w'
              go_simp
              with_reducible rfl
            rotate_left
            · simp only [Act.put, List.setIfInBounds_toArray, List.set_cons_zero, List.set_cons_succ, i64_w, i32_w]
              rfl
            refine take_ (i := 4) (N := some 39) (v := ?_) (a' := ?_) #[true, true, true, true, true, true, true, false, false, false, false, false] rfl rfl (by kernel_rfl) (fun _ _ _ h => h) (Or.inl ⟨by rfl, ?_⟩) hHeld ?_ ?_
            rotate_left
            · rintro w' ⟨s0, s1⟩
              go_simp
              with_reducible rfl
            rotate_left
            · simp only [Act.put, List.setIfInBounds_toArray, List.set_cons_zero, List.set_cons_succ, i64_w, i32_w]
              rfl
            refine take_ (i := 7) (N := some 42) (v := ?_) (a' := ?_) #[true, true, true, true, true, true, true, true, false, false, false, false] rfl rfl (by kernel_rfl) (fun _ _ _ h => h) (Or.inl ⟨by rfl, ?_⟩) hHeld ?_ ?_
            rotate_left
            · rintro w' ⟨s0, s1⟩
              go_simp
              with_reducible rfl
            rotate_left
            · simp only [Act.put, List.setIfInBounds_toArray, List.set_cons_zero, List.set_cons_succ, i64_w, i32_w]
              rfl
            refine pure_ (i := 8) (N := some 43) (v := ?_) (a' := ?_) #[true, true, true, true, true, true, true, true, true, false, false, false] rfl rfl (by kernel_rfl) (fun _ _ _ h => h) (Or.inl ⟨by rfl, ?_⟩) ?_ ?_
            rotate_left
            · intro w'
              go_simp
              with_reducible rfl
            rotate_left
            · simp only [Act.put, List.setIfInBounds_toArray, List.set_cons_zero, List.set_cons_succ, i64_w, i32_w]
              rfl
            refine last_ (i := 9) (N := none) #[true, true, true, true, true, true, true, true, true, true, false, false] rfl rfl (by kernel_rfl) (by decide) (fun K hK => ?_)
            refine skip_ (w1 := ?_) (by rfl) rfl ?_ ?_
            rotate_left
            · refine cell_yields (x := .tmp 43) (y := .tmp 39) (j := i) (v := I8 (wi done)) (Mem.drew M5.out) (by simp only [List.length_set, cells8_length]; omega) ?_ ?_ ?_ <;> rfl
            have M1 := Aside0.mk (Mem.drew M1.out)
            have M2 := Aside0.mk (Mem.drew M2.out)
            have M3 := Aside0.mk (Mem.drew M3.out)
            have M5 := Aside0.mk (Mem.drew M5.out)
            have HB := Aside0.mk (below_drew HB.out)
            have M1 := Aside0.mk (Mem.other M1.out (g' := g5) (by omega) i (.int .u8 (I8 (wi done))))
            have M2 := Aside0.mk (Mem.other M2.out (g' := g5) (by omega) i (.int .u8 (I8 (wi done))))
            have M3 := Aside0.mk (Mem.other M3.out (g' := g5) (by omega) i (.int .u8 (I8 (wi done))))
            have M5 := Aside0.mk (Mem.set M5.out i (I8 (wi done)))
            have HB := Aside0.mk (below_set (g := g5) (j := i) (v := .int .u8 (I8 (wi done))) HB.out (by omega))
            refine hK.out _ _ ?_
            clear hK K
            refine pure_ (i := 10) (N := some 44) (v := ?_) (a' := ?_) #[true, true, true, true, true, true, true, true, true, true, true, false] rfl rfl (by kernel_rfl) (fun _ _ _ h => h) (Or.inl ⟨by rfl, ?_⟩) ?_ ?_
            rotate_left
            · intro w'
              go_simp
              with_reducible rfl
            rotate_left
            · simp only [Act.put, List.setIfInBounds_toArray, List.set_cons_zero, List.set_cons_succ, i64_w, i32_w]
              rfl
            refine last_ (i := 11) (N := none) #[true, true, true, true, true, true, true, true, true, true, true, true] rfl rfl (by kernel_rfl) (by decide) (fun K hK => ?_)
            refine skip_ (w1 := ?_) (by rfl) rfl ?_ ?_
            rotate_left
            · refine cell_yields (x := .tmp 44) (y := .tmp 42) (j := done) (v := I8 (wi i)) M5.out (by simp only [List.length_set, cells8_length]; omega) ?_ ?_ ?_ <;> rfl
            have M1 := Aside0.mk (Mem.other M1.out (g' := g5) (by omega) done (.int .u8 (I8 (wi i))))
            have M2 := Aside0.mk (Mem.other M2.out (g' := g5) (by omega) done (.int .u8 (I8 (wi i))))
            have M3 := Aside0.mk (Mem.other M3.out (g' := g5) (by omega) done (.int .u8 (I8 (wi i))))
            have M5 := Aside0.mk (Mem.set M5.out done (I8 (wi i)))
            have HB := Aside0.mk (below_set (g := g5) (j := done) (v := .int .u8 (I8 (wi i))) HB.out (by omega))
            refine hK.out _ _ ?_
            clear hK K
            refine done_ (by kernel_rfl) ?_
            rw [HSW2.out] at M5
            clear hx1 hx2
            generalize swp m i done = m1 at *
            generalize swp wi i done = wi1 at *
            generalize clrF m1 m1 done col = m2 at *
            generalize clrF m1 wi1 done col = wi2 at *
            go_wp2_with (first
              | ((with_reducible refine gate_dst (N := 46) rfl ?_); refine Mem.load M1.out rfl 113 (.tmp 1) rfl rfl Try.underlying113 (by rw [cells8_length]; exact info_mat) ?_)
              | ((with_reducible refine gate_dst (N := 47) rfl ?_); refine Mem.load M5.out rfl 113 (.tmp 5) rfl rfl Try.underlying113 (by rw [cells8_length]; exact info_mat) ?_)
              | (go_at_call 121; (with_reducible refine (HCL.out.q _).mono ?_); rintro e w2 ⟨rfl, hb2⟩; have M1 := Aside0.mk (Mem.below M1.out hb2); have M2 := Aside0.mk (Mem.below M2.out hb2); have M3 := Aside0.mk (Mem.below M3.out hb2); have M5 := Aside0.mk (Mem.below M5.out hb2); have HB := Aside0.mk (below_step HB.out hb2))
              | ((with_reducible refine gate_store (t := 113) (p := 1) rfl ?_); refine Mem.store (l' := cells8 m2) M1.out rfl 113 (.tmp 1) (.tmp 51) rfl rfl rfl (by rw [cells8_length]; exact info_mat) (by simp only [cells8_length]) ?_)
              | ((with_reducible refine gate_store (t := 113) (p := 5) rfl ?_); refine Mem.store (l' := cells8 wi2) (Mem.row M5.out (g' := w.heap.size) (by omega) (cellsOf .u8 (cells8 m2))) rfl 113 (.tmp 5) (.tmp 52) rfl rfl rfl (by rw [cells8_length]; exact info_mat) (by simp only [cells8_length]) ?_))
            go_roundg k1
            case measure => omega
            case rel => exact ⟨done + 1, col + 1, m2, wi2, by have := HCOL.out; omega, by go_num, by go_num, HRS, ⟨Mem.row (Mem.put M1.out (cells8 m2)) (by omega) _⟩, ⟨Mem.row (Mem.row M2.out (by omega) _) (by omega) _⟩, ⟨Mem.row (Mem.row M3.out (by omega) _) (by omega) _⟩, ⟨Mem.put (Mem.row M5.out (by omega) _) (cells8 wi2)⟩, ⟨below_setRow (below_setRow HB.out (by omega) _) (by omega) _⟩⟩
          · rw [hb] at ha
            have ha1 : Go.bits .and .u8 (I8 (m i >>> col)) 1 = 0 := ha
            clear ha
            have HZ := Aside0.mk (show ∀ k, done ≤ k → k < i + 1 → (m k).getLsbD col = false from fun k h1 h2 => by
              rcases Nat.lt_or_ge k i with h | h
              · exact HZ.out k h1 h
              · obtain rfl : k = i := by omega
                exact hb)
            clear hb
            generalize m i >>> col = s at *
            go_wp2
            go_roundg k2
            case measure => omega
            case rel => exact ⟨i + 1, by have := HI.out; omega, by omega, rfl, by go_num, HZ, M1, M2, M3, M5, HB⟩
end Go.Proofs.Ytpdikfmdnlhllaa.Mat
namespace Go.Proofs.Ytpdikfmdnlhllaa.Mat
open Go.RowKit Byte Arr Mem
set_option linter.unusedVariables false
set_option linter.unusedSimpArgs false
theorem xorTo_congr {g h : Nat → Bool} : ∀ n, (∀ i, i < n → g i = h i) → xorTo g n = xorTo h n
  | 0, _ => rfl
  | n + 1, e => by rw [xorTo, xorTo, xorTo_congr n (fun i hi => e i (by omega)), e n (by omega)]
theorem par_and (a x : BitVec 8) : par (a &&& x) = xorTo (fun j => a.getLsbD j && x.getLsbD j) 8 := by
  rw [par_eq]; simp only [BitVec.getLsbD_and]
theorem par_zero : par 0#8 = false := rfl
theorem mrow_par (f g : Rows) (k : Nat) (x : BitVec 8) : ∀ n, par (mrow f g k n &&& x) = xorTo (fun j => (f k).getLsbD j && par (g j &&& x)) n
  | 0 => by simp [mrow, xorTo, par_zero]
  | n + 1 => by
    rw [mrow, par_and_xor, mrow_par f g k x n, xorTo]
    cases h : (f k).getLsbD n
    · simp [par_zero]
    · simp
theorem mul_app (f g : Rows) (x : BitVec 8) : app (mulF f g) x = app f (app g x) := ext8 fun k hk => by
  rw [app_bit _ _ _ hk, app_bit _ _ _ hk, par_and (f k) (app g x)]
  show par (mrow f g k 8 &&& x) = _
  rw [mrow_par]
  exact xorTo_congr 8 fun j hj => by rw [app_bit _ _ _ hj]
theorem flip_bit (f : Rows) (i j : Nat) (hi : i < 8) : (flipF f j).getLsbD i = (f i).getLsbD j := by
  unfold flipF
  rw [ofB_bit _ _ (Nat.le_refl _)]
  simp [hi]
theorem rmul_eq (f g : Rows) : cells8 (flipF (rmulC f g)) = cells8 (mulF f g) := cells8_congr fun i hi => ext8 fun j hj => by
  rw [flip_bit _ _ _ hj]
  unfold rmulC
  rw [← mul_app, app_unit _ _ _ hi hj]
/-- What agrees on the units agrees. -/
theorem app_of_units {F : BitVec 8 → BitVec 8} (hF : ∀ x y, F (x ^^^ y) = F x ^^^ F y) (h : ∀ j, j < 8 → F (1#8 <<< j) = 1#8 <<< j) (x : BitVec 8) : F x = x := by
  have h0 : F 0#8 = 0#8 := by
    have := hF 0#8 0#8
    rw [BitVec.xor_self, BitVec.xor_self] at this
    exact this
  have key : ∀ n, n ≤ 8 → ∀ g : Nat → Bool, F (ofB g n) = ofB g n := by
    intro n
    induction n with
    | zero => intro _ g; exact h0
    | succ n ih =>
      intro hn g
      have e : ofB g (n + 1) = ofB g n ^^^ (if g n then 1#8 <<< n else 0#8) := ext8 fun k hk => by
        rw [BitVec.getLsbD_xor, ofB_bit _ _ hn, ofB_bit _ _ (by omega)]
        by_cases hk1 : k = n
        · subst hk1
          cases hg : g k <;> simp [hg, hk]
        · cases hg : g n
          · by_cases hk2 : k < n
            · simp [hk2, show k < n + 1 by omega]
            · simp [hk2, show ¬ k < n + 1 by omega]
          · by_cases hk2 : k < n
            · simp [hk2, show k < n + 1 by omega]
            · have hk3 : n < k := by omega
              simp [hk2, show ¬ k < n + 1 by omega, hk]
              omega
      rw [e, hF, ih (by omega)]
      cases g n
      · simp only [Bool.false_eq_true, if_false, h0]
      · simp only [if_true, h n (by omega)]
  have e : x = ofB (fun i => x.getLsbD i) 8 := ext8 fun i hi => by rw [ofB_bit _ _ (Nat.le_refl _)]; simp [hi]
  rw [e, key 8 (Nat.le_refl _)]
def cnt (P : Nat → Bool) : Nat → Nat
  | 0 => 0
  | n + 1 => cnt P n + (if P n then 1 else 0)
theorem cnt_congr {P Q : Nat → Bool} : ∀ n, (∀ i, i < n → P i = Q i) → cnt P n = cnt Q n
  | 0, _ => rfl
  | n + 1, h => by rw [cnt, cnt, cnt_congr n (fun i hi => h i (by omega)), h n (by omega)]
theorem cnt_without (Q : Nat → Bool) (a : Nat) : ∀ m, a < m → Q a = true → cnt Q m = cnt (fun i => Q i && decide (i ≠ a)) m + 1
  | 0, h, _ => by omega
  | m + 1, h, hq => by
    rw [cnt, cnt]
    by_cases hm : a = m
    · subst hm
      rw [hq, cnt_congr (Q := fun i => Q i && decide (i ≠ a)) a (fun i hi => by simp; omega)]
      simp
    · rw [cnt_without Q a m (by omega) hq]
      have : decide (m ≠ a) = true := decide_eq_true (fun e => hm e.symm)
      rw [this, Bool.and_true]
      omega
theorem cnt_le {P : Nat → Bool} {m : Nat} (φ : Nat → Nat) : ∀ (n : Nat) (Q : Nat → Bool), (∀ i, i < n → P i = true → φ i < m ∧ Q (φ i) = true) → (∀ i j, i < n → j < n → P i = true → P j = true → φ i = φ j → i = j) → cnt P n ≤ cnt Q m
  | 0, _, _, _ => Nat.zero_le _
  | n + 1, Q, h, hinj => by
    rw [cnt]
    cases hp : P n with
    | false => simpa using cnt_le φ n Q (fun i hi => h i (by omega)) (fun i j hi hj => hinj i j (by omega) (by omega))
    | true =>
      obtain ⟨h1, h2⟩ := h n (by omega) hp
      rw [cnt_without Q (φ n) m h1 h2]
      have := cnt_le (P := P) (m := m) φ n (fun i => Q i && decide (i ≠ φ n)) (fun i hi hpi => by
        obtain ⟨h3, h4⟩ := h i (by omega) hpi
        refine ⟨h3, ?_⟩
        rw [h4, Bool.true_and, decide_eq_true_iff]
        intro e
        have := hinj i n (by omega) (by omega) hpi hp e
        omega) (fun i j hi hj => hinj i j (by omega) (by omega))
      simp only [if_true]
      omega
def byt (n : Nat) : BitVec 8 := BitVec.ofNat 8 n
theorem byt_toNat (x : BitVec 8) : byt x.toNat = x := by unfold byt; simp
theorem toNat_byt (n : Nat) (h : n < 256) : (byt n).toNat = n := by unfold byt; rw [BitVec.toNat_ofNat]; exact Nat.mod_eq_of_lt h
theorem byt_I8 (x : Nat) (h : x < 256) : I8 (byt x) = (x : Int) := by unfold I8; rw [toNat_byt x h]
def cntB (P : BitVec 8 → Bool) : Nat := cnt (fun n => P (byt n)) 256
theorem cntB_le {P Q : BitVec 8 → Bool} (φ : BitVec 8 → BitVec 8) (h : ∀ x, P x = true → Q (φ x) = true) (hi : ∀ x y, P x = true → P y = true → φ x = φ y → x = y) : cntB P ≤ cntB Q :=
  cnt_le (fun n => (φ (byt n)).toNat) 256 _ (fun n _ hp => ⟨(φ (byt n)).isLt, by show Q (byt (φ (byt n)).toNat) = true; rw [byt_toNat]; exact h _ hp⟩)
    (fun i j hi' hj' hp hq e => by
      have := hi _ _ hp hq (BitVec.eq_of_toNat_eq e)
      rw [← toNat_byt i hi', this, toNat_byt j hj'])
theorem cntB_congr {P Q : BitVec 8 → Bool} (h : ∀ x, P x = Q x) : cntB P = cntB Q := cnt_congr 256 fun i _ => h _
def im (f : Rows) (y : BitVec 8) : Bool := (List.range 256).any fun n => app f (byt n) == y
theorem im_iff (f : Rows) (y : BitVec 8) : im f y = true ↔ ∃ x, app f x = y := by
  unfold im
  rw [List.any_eq_true]
  constructor
  · rintro ⟨n, _, h⟩
    exact ⟨byt n, by simpa using h⟩
  · rintro ⟨x, h⟩
    exact ⟨x.toNat, List.mem_range.2 x.isLt, by rw [byt_toNat]; simpa using h⟩
def imN (f : Rows) : Nat := cntB (im f)
theorem xor_cancel (x y : BitVec 8) : x ^^^ y ^^^ y = x := by rw [BitVec.xor_assoc, BitVec.xor_self, BitVec.xor_zero]
theorem small_cnt : ∀ d : Fin 9, cntB (fun y => decide (y.toNat < 2 ^ d.val)) = 2 ^ d.val := by decide +kernel
theorem lt_pow_bits : ∀ (d : Fin 9) (y : BitVec 8), (∀ i : Fin 8, d.val ≤ i.val → y.getLsbD i.val = false) ↔ y.toNat < 2 ^ d.val := by decide +kernel
/-- The sum of the units at p 0, p 1, .. of which y has the bit. -/
def pick (p : Nat → Nat) (y : BitVec 8) : Nat → BitVec 8
  | 0 => 0#8
  | n + 1 => pick p y n ^^^ (if y.getLsbD n then 1#8 <<< p n else 0#8)
theorem Red.tells {f m wi : Rows} {done : Nat} (h : Red f m wi done 8) (y : BitVec 8) : im m y = decide (y.toNat < 2 ^ done) := by
  have h8 := h.le8
  rw [Bool.eq_iff_iff, im_iff, decide_eq_true_iff, ← lt_pow_bits ⟨done, by omega⟩ y]
  constructor
  · rintro ⟨x, rfl⟩ ⟨i, hi⟩ hd
    rw [app_bit _ _ _ hi]
    have : m i = 0#8 := ext8 fun c hc => by rw [h.zero c hc i hd hi]; simp
    rw [this]; simp [par_zero]
  · intro hy
    obtain ⟨p, hp, _⟩ := h.piv
    have key : ∀ n, n ≤ done → ∀ i, i < 8 → (app m (pick p y n)).getLsbD i = (decide (i < n) && y.getLsbD i) := by
      intro n
      induction n with
      | zero => intro _ i hi; simp [pick, app_zero]
      | succ n ih =>
        intro hn i hi
        have hpn := hp n (by omega)
        rw [pick, app_xor, BitVec.getLsbD_xor, ih (by omega) i hi]
        have e : (app m (if y.getLsbD n then 1#8 <<< p n else 0#8)).getLsbD i = (y.getLsbD n && decide (i = n)) := by
          cases hb : y.getLsbD n
          · simp [app_zero]
          · rw [if_pos rfl, app_unit _ _ _ hi hpn.1, hpn.2 i hi]; rfl
        rw [e]
        by_cases hin : i = n
        · subst hin; simp
        · by_cases h2 : i < n
          · simp [hin, h2, show i < n + 1 by omega]
          · simp [hin, h2, show ¬ i < n + 1 by omega]
    refine ⟨pick p y done, ext8 fun i hi => ?_⟩
    rw [key done (Nat.le_refl _) i hi]
    by_cases hid : i < done
    · simp [hid]
    · simp [hid, hy ⟨i, hi⟩ (by simpa using hid)]
theorem Red.imN {f m wi : Rows} {done : Nat} (h : Red f m wi done 8) : imN f = 2 ^ done := by
  obtain ⟨back, hb⟩ := h.inv
  have h8 := h.le8
  rw [← small_cnt ⟨done, by omega⟩]
  refine Nat.le_antisymm (cntB_le (app wi) (fun y hy => ?_) (fun x y _ _ e => by rw [← (hb x).1, e, (hb y).1])) (cntB_le back (fun y hy => ?_) (fun x y _ _ e => by rw [← (hb x).2, e, (hb y).2]))
  · obtain ⟨x, rfl⟩ := (im_iff _ _).1 hy
    rw [← h.eq]
    exact (h.tells _).symm.trans ((im_iff _ _).2 ⟨x, rfl⟩)
  · obtain ⟨x, hx⟩ := (im_iff _ _).1 ((h.tells y).trans hy)
    exact (im_iff _ _).2 ⟨x, by rw [← hx, h.eq, (hb _).1]⟩
def rank (f : Rows) : Nat := (Mat.imN f).log2
theorem Red.rank {f m wi : Rows} {done : Nat} (h : Red f m wi done 8) : rank f = done := by
  unfold Mat.rank
  rw [h.imN, Nat.log2_two_pow]
theorem Red.some (f : Rows) : ∀ col, col ≤ 8 → ∃ m wi done, Red f m wi done col
  | 0, _ => ⟨f, oneF, 0, Red.start f⟩
  | col + 1, hc => by
    obtain ⟨m, wi, done, h⟩ := Red.some f col (by omega)
    by_cases hz : ∀ i, done ≤ i → i < 8 → (m i).getLsbD col = false
    · exact ⟨m, wi, done, h.skip hz⟩
    · obtain ⟨i, h1, h2, h3⟩ : ∃ i, done ≤ i ∧ i < 8 ∧ (m i).getLsbD col = true := by
        refine Classical.byContradiction fun hn => hz fun i h1 h2 => ?_
        cases hb : (m i).getLsbD col
        · rfl
        · exact absurd ⟨i, h1, h2, hb⟩ hn
      exact ⟨_, _, _, h.step h1 h2 h3 (by omega)⟩
theorem rank_full (f : Rows) (h : ∀ y, ∃ x, app f x = y) : rank f = 8 := by
  have e : Mat.imN f = 256 := by
    unfold Mat.imN
    rw [cntB_congr (Q := fun _ => true) (fun y => (im_iff _ _).2 (h y))]
    decide +kernel
  unfold rank
  rw [e]; rfl
/-- The reduced matrix is One just if the rank is 8. -/
theorem Red.one {f m wi : Rows} {done : Nat} (h : Red f m wi done 8) : cells8 m = cells8 oneF ↔ Mat.rank f = 8 := by
  rw [h.rank]
  constructor
  · intro hm
    refine Classical.byContradiction fun hne => ?_
    have h8 := h.le8
    have hd : done < 8 := by omega
    have e := cells8_inj hm done hd
    have z := h.zero done hd done (Nat.le_refl _) hd
    rw [e] at z
    unfold oneF at z
    simp [hd] at z
  · rintro rfl
    obtain ⟨p, hp, hpp⟩ := h.piv
    refine cells8_congr fun i hi => ext8 fun k hk => ?_
    have := (hp k hk).2 i hi
    rw [hpp rfl k hk] at this
    rw [this]
    unfold oneF
    rw [BitVec.getLsbD_shiftLeft]
    by_cases hik : i = k
    · subst hik; simp [hi]
    · simp [hik, hk]
      intro hik2
      omega
end Go.Proofs.Ytpdikfmdnlhllaa.Mat
namespace Go.Proofs.Ytpdikfmdnlhllaa.Mat
open Go.RowKit Go.Proofs.YtpdikfmdnlhllaaW.PrintWords Go.Proofs.YtpdikfmdnlhllaaW.PrintLast Go.Proofs.YtpdikfmdnlhllaaW.PrintMore Byte Sl Arr Mem Gives ArrEq
set_option linter.unusedVariables false
set_option linter.unusedSimpArgs false
set_option maxHeartbeats 4000000
set_option maxRecDepth 100000
/-- g is what a matrix's inverse is to be. -/
structure InvOf (f g : Rows) (ok : Bool) : Prop where
  full : ok = true ↔ rank f = 8
  back : ok = true → ∀ x, app g (app f x) = x ∧ app f (app g x) = x
  none : ok = false → cells8 g = cells8 zrow
theorem inv_c (f : Rows) (w : World) : Calls Try.prog 105 #[matV f] w fun e w' => ∃ g ok, e = .returned (.tuple #[matV g, .bool ok]) ∧ InvOf f g ok ∧ Below w.heap.size w w' := by
  rw [matV_eq]
  have M1 := Aside0.mk (Mem.alloc (Mem.new .u8 w 113 (cells8 f)) (.cells (cellsOf .u8 (cells8 zrow)) 113))
  have M2 := Aside0.mk (Mem.new2 .u8 w (.cells (cellsOf .u8 (cells8 f)) 113) 113 (cells8 zrow))
  have HB := Aside0.mk (below_alloc (below_alloc (Below.refl w.heap.size w) (.cells (cellsOf .u8 (cells8 f)) 113)) (.cells (cellsOf .u8 (cells8 zrow)) 113))
  have HC := Aside0.mk (reduce_c f)
  rw [matV_eq] at HC
  have HO := Aside0.mk one_c
  rw [matV_eq] at HO
  have LLM2 := Aside0.mk M2.out.lt
  go_enter Try.func105, Try.ntmps105
  go_wp2_with (first
    | ((with_reducible refine gate_dst (N := 8) rfl ?_); refine Mem.load M1.out rfl 113 (.tmp 1) rfl rfl Try.underlying113 (by rw [cells8_length]; exact info_mat) ?_)
    | (go_at_call 114; (with_reducible refine (HC.out _).mono ?_); rintro e w1 ⟨m, wi, done, rfl, hR, hb1⟩; have HR := Aside0.mk hR; have M2 := Aside0.mk (Mem.alloc (Mem.alloc (Mem.below M2.out hb1) (.cells (cellsOf .u8 (cells8 zrow)) 113)) (.cells (cellsOf .u8 (cells8 zrow)) 113)); have N1 := Aside0.mk (Mem.alloc (Mem.new .u8 w1 113 (cells8 zrow)) (.cells (cellsOf .u8 (cells8 zrow)) 113)); have N2 := Aside0.mk (Mem.new2 .u8 w1 (.cells (cellsOf .u8 (cells8 zrow)) 113) 113 (cells8 zrow)); have HS := Aside0.mk (below_step HB.out hb1).size; have HB := Aside0.mk (below_alloc (below_alloc (below_step HB.out hb1) (.cells (cellsOf .u8 (cells8 zrow)) 113)) (.cells (cellsOf .u8 (cells8 zrow)) 113)); have HLM2 := Aside0.mk (Nat.lt_of_lt_of_le LLM2.out hb1.size); clear hR hb1)
    | ((with_reducible refine gate_store (t := 113) (p := 4) rfl ?_); refine Mem.store (l' := cells8 m) N1.out rfl 113 (.tmp 4) (.tmp 10) rfl rfl rfl (by rw [cells8_length]; exact info_mat) (by simp only [cells8_length]) ?_)
    | ((with_reducible refine gate_store (t := 113) (p := 5) rfl ?_); refine Mem.store (l' := cells8 wi) (Mem.row N2.out (g' := w1.heap.size) (by omega) (cellsOf .u8 (cells8 m))) rfl 113 (.tmp 5) (.tmp 11) rfl rfl rfl (by rw [cells8_length]; exact info_mat) (by simp only [cells8_length]) ?_))
  have hS := HS.out
  have hL := HLM2.out
  have P1 := Aside0.mk (Mem.row (Mem.put N1.out (cells8 m)) (g' := w1.heap.size + 1) (by omega) (cellsOf .u8 (cells8 wi)))
  have P2 := Aside0.mk (Mem.put (Mem.row N2.out (g' := w1.heap.size) (by omega) (cellsOf .u8 (cells8 m))) (cells8 wi))
  have P3 := Aside0.mk (Mem.row (Mem.row M2.out (g' := w1.heap.size) (by omega) (cellsOf .u8 (cells8 m))) (g' := w1.heap.size + 1) (by omega) (cellsOf .u8 (cells8 wi)))
  have PB := Aside0.mk (below_setRow (below_setRow HB.out (g := w1.heap.size) (by omega) (cellsOf .u8 (cells8 m))) (g := w1.heap.size + 1) (by omega) (cellsOf .u8 (cells8 wi)))
  clear M1 M2 N1 N2 HB HC
  have hl0 := mem_loads (Mem.drew P1.out)
  have EN := neqs m oneF
  have HE := Aside0.mk HR.out.one
  go_wp2
  refine start_ (n := 3) (S := fun w' => (loadVar 113 ⟨w1.heap.size, 0, none⟩).run Try.prog w' = .ok (.agg (cellsOf .u8 (cells8 m))) w') (ds := []) #[false, false, false] (by kernel_rfl) rfl rfl (hl0) (fun hHeld => ?_)
  refine take_ (i := 0) (N := some 13) (v := ?_) (a' := ?_) #[true, false, false] rfl rfl (by kernel_rfl) (fun _ _ _ h => h) (Or.inl ⟨by rfl, ?_⟩) hHeld ?_ ?_
  rotate_left
  · intro w' s0
    refine (load_yields rfl rfl s0).trans ?_
    with_reducible rfl
  rotate_left
  · simp only [Act.put, List.setIfInBounds_toArray, List.set_cons_zero, List.set_cons_succ, i64_w, i32_w]
    rfl
  refine one_ (i := 1) (N := some 14) #[true, true, false] rfl rfl (by kernel_rfl) (by decide) (fun K hK => ?_)
  refine goes_ Try.func115 (by kernel_rfl) rfl #[] (by rfl) rfl rfl (by simp only [List.map_toArray, List.map_cons, List.map_nil]) ?_
  with_reducible refine (HO.out.q _).mono ?_
  rintro e w2 ⟨rfl, hb2⟩
  refine ⟨_, rfl, ?_⟩
  have P1 := Aside0.mk (Mem.below (Mem.drew P1.out) hb2)
  have P2 := Aside0.mk (Mem.below (Mem.drew P2.out) hb2)
  have P3 := Aside0.mk (Mem.below (Mem.drew P3.out) hb2)
  have PB := Aside0.mk (below_step (below_drew PB.out) hb2)
  refine hK.out _ _ ((mem_loads P1.out)) (fun hHeld => ?_)
  clear hK K
  refine norm_ (a' := ?_) ?_ ?_
  rotate_left
  · show Act.put _ (some 14) _ = _
    simp only [Act.put, List.setIfInBounds_toArray, List.set_cons_zero, List.set_cons_succ, i64_w, i32_w]
    rfl
  refine pure_ (i := 2) (N := some 15) (v := ?_) (a' := ?_) #[true, true, true] rfl rfl (by kernel_rfl) (fun _ _ _ h => h) (Or.inl ⟨by rfl, ?_⟩) ?_ ?_
  rotate_left
  · intro w'
    refine (eql_yields rfl rfl rfl guardM (EN w')).trans ?_
    with_reducible rfl
  rotate_left
  · simp only [Act.put, List.setIfInBounds_toArray, List.set_cons_zero, List.set_cons_succ, i64_w, i32_w]
    rfl
  refine done_ (by kernel_rfl) ?_
  clear hl0 EN
  by_cases he : cells8 m = cells8 oneF
  · have hd : (!decide (cells8 m = cells8 oneF)) = false := by rw [decide_eq_true he]; rfl
    have hrk := Aside0.mk (HE.out.1 he)
    have hmm := Aside0.mk he
    rw [hd]
    clear hd he
    go_wp2_with (first
      | ((with_reducible refine gate_dst (N := 17) rfl ?_); refine Mem.load P2.out rfl 113 (.tmp 5) rfl rfl Try.underlying113 (by rw [cells8_length]; exact info_mat) ?_)
      | ((with_reducible refine gate_store (t := 113) (p := 2) rfl ?_); refine Mem.store (l' := cells8 wi) P3.out rfl 113 (.tmp 2) (.tmp 17) rfl rfl rfl (by rw [cells8_length]; exact info_mat) (by simp only [cells8_length]) ?_))
    refine bodyPost_ret (results_ct rfl _ _ _ _ _ _ _ rfl (Mem.put P3.out (cells8 wi)) Try.underlying113 rfl (by rw [cellsOf_size, cells8_length]; exact info_mat)) rfl ⟨wi, true, rfl, ⟨⟨fun _ => hrk.out, fun _ => rfl⟩, fun _ x => ?_, fun h => by cases h⟩, below_setRow PB.out (by omega) _⟩
    have e1 : ∀ x, app wi (app f x) = x := fun x => by rw [← HR.out.eq, app_congr (cells8_inj hmm.out), one_app]
    obtain ⟨back, hb⟩ := HR.out.inv
    refine ⟨e1 x, ?_⟩
    rw [← (hb (app f (app wi x))).1, e1, (hb x).1]
  · have hd : (!decide (cells8 m = cells8 oneF)) = true := by rw [decide_eq_false he]; rfl
    have hrk := Aside0.mk (fun h => he (HE.out.2 h))
    rw [hd]
    clear hd he
    go_wp2_with (first
      | ((with_reducible refine gate_dst (N := 16) rfl ?_); refine wpList_build_zero rfl 113 rfl _ built8 ?_)
      | ((with_reducible refine gate_store (t := 113) (p := 2) rfl ?_); refine Mem.store (l' := cells8 zrow) P3.out rfl 113 (.tmp 2) (.tmp 16) rfl rfl rfl (by rw [cells8_length]; exact info_mat) (by simp only [cells8_length]) ?_))
    refine bodyPost_ret (results_ct rfl _ _ _ _ _ _ _ rfl (Mem.put P3.out (cells8 zrow)) Try.underlying113 rfl (by rw [cellsOf_size, cells8_length]; exact info_mat)) rfl ⟨zrow, false, rfl, ⟨⟨fun h => (by cases h), fun h => absurd h hrk.out⟩, fun h => (by cases h), fun _ => rfl⟩, below_setRow PB.out (by omega) _⟩
end Go.Proofs.Ytpdikfmdnlhllaa.Mat
namespace Go.Proofs.Ytpdikfmdnlhllaa.Mat
open Go.RowKit Go.Proofs.YtpdikfmdnlhllaaW.PrintWords Go.Proofs.YtpdikfmdnlhllaaW.PrintLast Go.Proofs.YtpdikfmdnlhllaaW.PrintMore Byte Sl Arr Mem Gives ArrEq
set_option linter.unusedVariables false
set_option linter.unusedSimpArgs false
set_option maxHeartbeats 4000000
set_option maxRecDepth 100000
/-- g is what the document's inverse is to be. -/
structure RInvOf (f g : Rows) (ok : Bool) : Prop where
  yes : ok = true → ∀ y, app f (app g y) = y
  no : ok = false → cells8 g = cells8 zrow ∧ ∃ j, j < 8 ∧ ∀ x, app f x ≠ 1#8 <<< j
end Go.Proofs.Ytpdikfmdnlhllaa.Mat
