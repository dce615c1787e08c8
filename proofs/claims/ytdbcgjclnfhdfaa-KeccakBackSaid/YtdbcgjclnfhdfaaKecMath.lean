/-
  Keccak's steps in plain Lean: linear, and undone: chi four times, theta 192 times, the moves.
-/
import Derived.Test.YtdbcgjclnfhdfaaRPerm
namespace Go.Proofs.Ytdbcgjclnfhdfaa.Keccak
set_option linter.unusedVariables false
open Byte OctMath Mem RotC KecT
abbrev B := BitVec 64
/-- A state of 25 words. -/
def St (f : Nat → B) : List Int := byI 25 (fun i => I64 (f i))
theorem St_length (f : Nat → B) : (St f).length = 25 := byI_length _ _
theorem St_words (f : Nat → B) : Words (St f) := byI_words _ _ fun i _ => isWord_I64 _
theorem St_get (f : Nat → B) (i : Nat) (h : i < 25) : (St f).getD i 0 = I64 (f i) := byI_get _ _ _ h
theorem byI_congr (n : Nat) (F G : Nat → Int) (h : ∀ i, i < n → F i = G i) : byI n F = byI n G := List.map_congr_left fun i hi => h i (List.mem_range.1 hi)
theorem St_ext (f g : Nat → B) (h : ∀ i, i < 25 → f i = g i) : St f = St g := byI_congr _ _ _ fun i hi => by rw [h i hi]
theorem St_inj (f g : Nat → B) (h : St f = St g) (i : Nat) (hi : i < 25) : f i = g i := I64_inj (by rw [← St_get f i hi, ← St_get g i hi, h])
theorem St_of (l : List Int) (hl : l.length = 25) (hw : Words l) : ∃ f, l = St f :=
  ⟨fun i => BitVec.ofInt 64 (l.getD i 0), byI_ext 25 _ l hl fun i _ => by
    obtain ⟨a, ha⟩ := I64_of _ (words_getD hw i).1 (words_getD hw i).2
    show l.getD i 0 = I64 (BitVec.ofInt 64 (l.getD i 0))
    rw [ha, of64]⟩
theorem zero64 : (0 : Int) = I64 0#64 := rfl
/-! ### sums -/
theorem sum_St (f g : Nat → B) : sumL (St f) (St g) = St (fun i => f i ^^^ g i) := byI_congr _ _ _ fun i hi => by
  unfold sumF; rw [St_get _ _ hi, St_get _ _ hi, xor64]
/-! ### theta -/
def cB (f : Nat → B) (x : Nat) : B := f x ^^^ f (x + 5) ^^^ f (x + 10) ^^^ f (x + 15) ^^^ f (x + 20)
set_option maxRecDepth 100000 in
set_option maxHeartbeats 4000000 in
theorem col_by (F : Nat → Int) : colTo (byI 25 F) 25 = byI 5 (fun x => Go.bits .xor .u64 (Go.bits .xor .u64 (Go.bits .xor .u64 (Go.bits .xor .u64 (Go.bits .xor .u64 0 (F x)) (F (x + 5))) (F (x + 10))) (F (x + 15))) (F (x + 20))) := by
  kernel_rfl
theorem col_St (f : Nat → B) : colTo (St f) 25 = byI 5 (fun x => I64 (cB f x)) := by
  unfold St
  rw [col_by]
  refine byI_congr _ _ _ fun i hi => ?_
  rw [zero64, xor64, xor64, xor64, xor64, xor64, BitVec.zero_xor]; rfl
def eB (c : Nat → B) (x : Nat) : B := c ((x + 4) % 5) ^^^ rot (c ((x + 1) % 5)) 1
def thB (f : Nat → B) (i : Nat) : B := f i ^^^ eB (cB f) i
theorem theta_St (f : Nat → B) : thetaL (St f) = St (thB f) := by
  refine byI_congr _ _ _ fun i hi => ?_
  unfold thetaF thB eB
  rw [col_St, St_get _ _ hi, byI_get _ _ _ (by omega), byI_get _ _ _ (by omega), rotI_eq, show m64 1 = 1 from rfl, xor64, xor64]
theorem cB_xor (f g : Nat → B) (x : Nat) : cB (fun i => f i ^^^ g i) x = cB f x ^^^ cB g x := by unfold cB; dsimp only; ac_rfl
theorem thB_xor (f g : Nat → B) (i : Nat) : thB (fun i => f i ^^^ g i) i = thB f i ^^^ thB g i := by
  unfold thB eB; rw [cB_xor, cB_xor, rot_xor]; dsimp only; ac_rfl
theorem theta_sum (f g : Nat → B) : thetaL (sumL (St f) (St g)) = sumL (thetaL (St f)) (thetaL (St g)) := by
  rw [sum_St, theta_St, theta_St, theta_St, sum_St]
  exact St_ext _ _ fun i _ => thB_xor f g i
def mB (c : Nat → B) (x : Nat) : B := c x ^^^ eB c x
theorem eB_mod (c : Nat → B) (x k : Nat) : eB c (x + 5 * k) = eB c x := by
  unfold eB
  rw [show (x + 5 * k + 4) % 5 = (x + 4) % 5 by omega, show (x + 5 * k + 1) % 5 = (x + 1) % 5 by omega]
theorem five (a0 a1 a2 a3 a4 e : B) : (a0 ^^^ e) ^^^ (a1 ^^^ e) ^^^ (a2 ^^^ e) ^^^ (a3 ^^^ e) ^^^ (a4 ^^^ e) = (a0 ^^^ a1 ^^^ a2 ^^^ a3 ^^^ a4) ^^^ e := by
  refine BitVec.eq_of_getLsbD_eq fun i hi => ?_
  simp only [BitVec.getLsbD_xor]
  generalize a0.getLsbD i = b0
  generalize a1.getLsbD i = b1
  generalize a2.getLsbD i = b2
  generalize a3.getLsbD i = b3
  generalize a4.getLsbD i = b4
  generalize e.getLsbD i = b5
  revert b0 b1 b2 b3 b4 b5
  decide
theorem cB_th (f : Nat → B) (x : Nat) : cB (thB f) x = mB (cB f) x := by
  have h1 := eB_mod (cB f) x 1
  have h2 := eB_mod (cB f) x 2
  have h3 := eB_mod (cB f) x 3
  have h4 := eB_mod (cB f) x 4
  unfold mB
  rw [show cB (thB f) x = thB f x ^^^ thB f (x + 5) ^^^ thB f (x + 10) ^^^ thB f (x + 15) ^^^ thB f (x + 20) from rfl]
  unfold thB
  rw [h1, h2, h3, h4, five]; rfl
def it (F : (Nat → B) → Nat → B) : Nat → (Nat → B) → Nat → B
  | 0, c => c
  | n + 1, c => F (it F n c)
theorem it_two (F : (Nat → B) → Nat → B) : ∀ n c, it F (2 * n) c = it (fun c => F (F c)) n c
  | 0, _ => rfl
  | n + 1, c => by
    rw [show 2 * (n + 1) = 2 * n + 1 + 1 by omega]
    show F (F (it F (2 * n) c)) = F (F (it (fun c => F (F c)) n c))
    rw [it_two F n c]
theorem cB_it (f : Nat → B) : ∀ n, cB (it thB n f) = it mB n (cB f)
  | 0 => rfl
  | n + 1 => by
    show cB (thB (it thB n f)) = mB (it mB n (cB f))
    rw [← cB_it f n]
    exact funext fun x => cB_th _ x
theorem tele (f a c e : B) : (f ^^^ (a ^^^ c)) ^^^ e = f ^^^ ((a ^^^ e) ^^^ c) := by ac_rfl
theorem th_it (f : Nat → B) (i : Nat) : ∀ n, it thB n f i = f i ^^^ (it mB n (cB f) (i % 5) ^^^ cB f (i % 5))
  | 0 => by show f i = f i ^^^ (cB f (i % 5) ^^^ cB f (i % 5)); simp
  | n + 1 => by
    show it thB n f i ^^^ eB (cB (it thB n f)) i = _
    rw [cB_it, th_it f i n]
    have he : eB (it mB n (cB f)) i = eB (it mB n (cB f)) (i % 5) := by
      have := eB_mod (it mB n (cB f)) (i % 5) (i / 5)
      rwa [show i % 5 + 5 * (i / 5) = i by omega] at this
    rw [he, tele]; rfl
def gB (p q k : Nat) (c : Nat → B) (x : Nat) : B := c x ^^^ c ((x + p) % 5) ^^^ rot (c ((x + q) % 5)) k
theorem mB_g : mB = gB 4 1 1 := by
  funext c x; unfold mB eB gB; ac_rfl
theorem six (A b C D E F : B) : (A ^^^ b ^^^ C) ^^^ (b ^^^ D ^^^ E) ^^^ (C ^^^ E ^^^ F) = A ^^^ D ^^^ F := by
  refine BitVec.eq_of_getLsbD_eq fun i hi => ?_
  simp only [BitVec.getLsbD_xor]
  generalize A.getLsbD i = b0
  generalize b.getLsbD i = b1
  generalize C.getLsbD i = b2
  generalize D.getLsbD i = b3
  generalize E.getLsbD i = b4
  generalize F.getLsbD i = b5
  revert b0 b1 b2 b3 b4 b5
  decide
theorem g_g (p q k : Nat) (hk : k < 64) : (fun c => gB p q k (gB p q k c)) = gB (2 * p) (2 * q) ((k + k) % 64) := by
  funext c x
  unfold gB
  rw [rot_xor, rot_xor, rot_rot _ k k hk hk, show ((x + p) % 5 + p) % 5 = (x + 2 * p) % 5 by omega, show ((x + q) % 5 + q) % 5 = (x + 2 * q) % 5 by omega,
    show ((x + p) % 5 + q) % 5 = (x + (p + q)) % 5 by omega, show ((x + q) % 5 + p) % 5 = (x + (p + q)) % 5 by omega, six]
theorem it_g (p q k n : Nat) (hk : k < 64) (c : Nat → B) : it (gB p q k) (2 * n) c = it (gB (2 * p) (2 * q) ((k + k) % 64)) n c := by
  rw [it_two, g_g p q k hk]
theorem m192 (c : Nat → B) (x : Nat) (hx : x < 5) : it mB 192 c x = c x := by
  rw [mB_g, show (192 : Nat) = 2 * 96 from rfl, it_g _ _ _ _ (by decide), show (96 : Nat) = 2 * 48 from rfl, it_g _ _ _ _ (by decide), show (48 : Nat) = 2 * 24 from rfl, it_g _ _ _ _ (by decide),
    show (24 : Nat) = 2 * 12 from rfl, it_g _ _ _ _ (by decide), show (12 : Nat) = 2 * 6 from rfl, it_g _ _ _ _ (by decide), show (6 : Nat) = 2 * 3 from rfl, it_g _ _ _ _ (by decide)]
  have hg : gB (2 * (2 * (2 * (2 * (2 * (2 * 4)))))) (2 * (2 * (2 * (2 * (2 * (2 * 1)))))) (((((((1 + 1) % 64 + (1 + 1) % 64) % 64 + ((1 + 1) % 64 + (1 + 1) % 64) % 64) % 64 + (((1 + 1) % 64 + (1 + 1) % 64) % 64 + ((1 + 1) % 64 + (1 + 1) % 64) % 64) % 64) % 64 +
            ((((1 + 1) % 64 + (1 + 1) % 64) % 64 + ((1 + 1) % 64 + (1 + 1) % 64) % 64) % 64 + (((1 + 1) % 64 + (1 + 1) % 64) % 64 + ((1 + 1) % 64 + (1 + 1) % 64) % 64) % 64) % 64) % 64 +
          (((((1 + 1) % 64 + (1 + 1) % 64) % 64 + ((1 + 1) % 64 + (1 + 1) % 64) % 64) % 64 + (((1 + 1) % 64 + (1 + 1) % 64) % 64 + ((1 + 1) % 64 + (1 + 1) % 64) % 64) % 64) % 64 +
            ((((1 + 1) % 64 + (1 + 1) % 64) % 64 + ((1 + 1) % 64 + (1 + 1) % 64) % 64) % 64 + (((1 + 1) % 64 + (1 + 1) % 64) % 64 + ((1 + 1) % 64 + (1 + 1) % 64) % 64) % 64) % 64) % 64) % 64) = fun c x => c x ^^^ c ((x + 1) % 5) ^^^ c ((x + 4) % 5) := by
    funext c x
    show c x ^^^ c ((x + 256) % 5) ^^^ rot (c ((x + 64) % 5)) 0 = _
    rw [rot_zero, show (x + 256) % 5 = (x + 1) % 5 by omega, show (x + 64) % 5 = (x + 4) % 5 by omega]
  rw [hg]
  simp only [it]
  have hx' : x = 0 ∨ x = 1 ∨ x = 2 ∨ x = 3 ∨ x = 4 := by omega
  refine BitVec.eq_of_getLsbD_eq fun i hi => ?_
  rcases hx' with rfl | rfl | rfl | rfl | rfl
  all_goals
    simp only [BitVec.getLsbD_xor, Nat.reduceAdd, Nat.reduceMod]
    generalize (c 0).getLsbD i = b0
    generalize (c 1).getLsbD i = b1
    generalize (c 2).getLsbD i = b2
    generalize (c 3).getLsbD i = b3
    generalize (c 4).getLsbD i = b4
    revert b0 b1 b2 b3 b4
    decide
theorem thetaN_St (f : Nat → B) : ∀ n, thetaN (St f) n = St (it thB n f)
  | 0 => rfl
  | n + 1 => by
    show thetaL (thetaN (St f) n) = St (thB (it thB n f))
    rw [thetaN_St f n, theta_St]
theorem theta192 (l : List Int) (hl : l.length = 25) (hw : Words l) : thetaN l 192 = l := by
  obtain ⟨f, rfl⟩ := St_of l hl hw
  rw [thetaN_St]
  refine St_ext _ _ fun i hi => ?_
  rw [th_it, m192 _ _ (by omega), BitVec.xor_self, BitVec.xor_zero]
theorem thetaN_theta (l : List Int) : ∀ n, thetaN (thetaL l) n = thetaN l (n + 1)
  | 0 => rfl
  | n + 1 => by
    show thetaL (thetaN (thetaL l) n) = thetaL (thetaN l (n + 1))
    rw [thetaN_theta l n]
/-! ### chi -/
def chB (f : Nat → B) (i : Nat) : B := f i ^^^ (f (i - i % 5 + (i + 2) % 5) &&& ~~~ f (i - i % 5 + (i + 1) % 5))
theorem chi_St (f : Nat → B) : chiL (St f) = St (chB f) := byI_congr _ _ _ fun i hi => by
  unfold chiF chB
  rw [St_get _ _ hi, St_get _ _ (by omega), St_get _ _ (by omega), andNot64, xor64]
def row5 (h : Nat → Bool) (t : Nat) : Bool := h t ^^ (h ((t + 2) % 5) && !h ((t + 1) % 5))
theorem row5_congr (h h' : Nat → Bool) (hh : ∀ t, t < 5 → h t = h' t) (t : Nat) (ht : t < 5) : row5 h t = row5 h' t := by
  unfold row5; rw [hh t ht, hh _ (by omega), hh _ (by omega)]
theorem row5_four (h : Nat → Bool) (t : Nat) (ht : t < 5) : row5 (row5 (row5 (row5 h))) t = h t := by
  have hx' : t = 0 ∨ t = 1 ∨ t = 2 ∨ t = 3 ∨ t = 4 := by omega
  rcases hx' with rfl | rfl | rfl | rfl | rfl
  all_goals
    simp only [row5, Nat.reduceAdd, Nat.reduceMod]
    generalize h 0 = b0
    generalize h 1 = b1
    generalize h 2 = b2
    generalize h 3 = b3
    generalize h 4 = b4
    revert b0 b1 b2 b3 b4
    decide
theorem chB_bit (f : Nat → B) (k m t : Nat) (hk : k < 64) (ht : t < 5) : (chB f (5 * m + t)).getLsbD k = row5 (fun t => (f (5 * m + t)).getLsbD k) t := by
  unfold chB row5
  rw [show 5 * m + t - (5 * m + t) % 5 + (5 * m + t + 2) % 5 = 5 * m + (t + 2) % 5 by omega, show 5 * m + t - (5 * m + t) % 5 + (5 * m + t + 1) % 5 = 5 * m + (t + 1) % 5 by omega]
  simp [hk]
theorem chi4 (f : Nat → B) (i : Nat) : chB (chB (chB (chB f))) i = f i := by
  refine BitVec.eq_of_getLsbD_eq fun k hk => ?_
  obtain ⟨m, t, rfl, ht⟩ : ∃ m t, i = 5 * m + t ∧ t < 5 := ⟨i / 5, i % 5, by omega, by omega⟩
  rw [chB_bit _ k m t hk ht, row5_congr _ _ (fun t ht => chB_bit _ k m t hk ht) t ht, row5_congr _ _ (fun t ht => row5_congr _ _ (fun t ht => chB_bit _ k m t hk ht) t ht) t ht,
    row5_congr _ _ (fun t ht => row5_congr _ _ (fun t ht => row5_congr _ _ (fun t ht => chB_bit f k m t hk ht) t ht) t ht) t ht, row5_four _ t ht]
theorem chi_bchi (l : List Int) (hl : l.length = 25) (hw : Words l) : chiL (bchiL l) = l := by
  obtain ⟨f, rfl⟩ := St_of l hl hw
  unfold bchiL
  rw [chi_St, chi_St, chi_St, chi_St]
  exact St_ext _ _ fun i _ => chi4 f i
theorem bchi_chi (l : List Int) (hl : l.length = 25) (hw : Words l) : bchiL (chiL l) = l := chi_bchi l hl hw
/-! ### the moves -/
def src (d : Nat) : Nat := (3 * (d / 5) + d % 5) % 5 + 5 * (d % 5)
set_option maxRecDepth 100000 in
set_option maxHeartbeats 4000000 in
theorem moveG_by (T : Nat → Nat → Nat) (R : Int → Int → Int) (F : Nat → Int) : moveG T R (byI 25 F) 25 = byI 25 (fun d => R (F (src d)) (T (src d % 5) (src d / 5))) := by
  kernel_rfl
theorem src_lt (d : Nat) : src d < 25 := by unfold src; omega
theorem src_dst : ∀ i : Fin 25, src (dst i) = i := by decide
theorem dst_src : ∀ i : Fin 25, dst (src i) = i := by decide
theorem dst_lt (i : Nat) (h : i < 25) : dst i < 25 := by unfold dst; omega
def tt (i : Nat) : Nat := turnN (i % 5) (i / 5)
theorem tt_lt (i : Nat) (h : i < 25) : tt i < 64 := turn_lt ⟨i % 5, by omega⟩ ⟨i / 5, by omega⟩
def mvB (f : Nat → B) (d : Nat) : B := rot (f (src d)) (tt (src d))
def bmvB (f : Nat → B) (i : Nat) : B := rot (f (dst i)) ((64 - tt i) % 64)
theorem m64_nat (n : Nat) (h : n < 64) : m64 (n : Int) = n := by unfold m64; omega
theorem m64_neg (n : Nat) (h : n < 64) : m64 (-(n : Int)) = (64 - n) % 64 := by unfold m64; omega
theorem move_St (f : Nat → B) : moveL (St f) = St (mvB f) := by
  unfold moveL St
  rw [moveG_eq, moveG_by]
  refine byI_congr _ _ _ fun d hd => ?_
  show rotI (I64 (f (src d))) ((tt (src d) : Nat) : Int) = _
  rw [rotI_eq, m64_nat _ (tt_lt _ (src_lt d))]; rfl
theorem bmove_St (f : Nat → B) : bmoveL (St f) = St (bmvB f) := by
  refine byI_congr _ _ _ fun i hi => ?_
  unfold bmoveF
  rw [St_get _ _ (dst_lt i hi)]
  show rotI (I64 (f (dst i))) (-((tt i : Nat) : Int)) = _
  rw [rotI_eq, m64_neg _ (tt_lt i hi)]; rfl
theorem rot_back (x : B) (t : Nat) (h : t < 64) : rot (rot x t) ((64 - t) % 64) = x := by
  rw [rot_rot _ _ _ h (by omega), show (t + (64 - t) % 64) % 64 = 0 by omega, rot_zero]
theorem rot_back' (x : B) (t : Nat) (h : t < 64) : rot (rot x ((64 - t) % 64)) t = x := by
  rw [rot_rot _ _ _ (by omega) h, show ((64 - t) % 64 + t) % 64 = 0 by omega, rot_zero]
theorem move_bmove (l : List Int) (hl : l.length = 25) (hw : Words l) : moveL (bmoveL l) = l := by
  obtain ⟨f, rfl⟩ := St_of l hl hw
  rw [bmove_St, move_St]
  refine St_ext _ _ fun d hd => ?_
  unfold mvB bmvB
  rw [dst_src ⟨d, hd⟩, rot_back' _ _ (tt_lt _ (src_lt d))]
theorem bmove_move (l : List Int) (hl : l.length = 25) (hw : Words l) : bmoveL (moveL l) = l := by
  obtain ⟨f, rfl⟩ := St_of l hl hw
  rw [move_St, bmove_St]
  refine St_ext _ _ fun i hi => ?_
  unfold mvB bmvB
  dsimp only
  rw [src_dst ⟨i, hi⟩, rot_back _ _ (tt_lt i hi)]
theorem move_sum (f g : Nat → B) : moveL (sumL (St f) (St g)) = sumL (moveL (St f)) (moveL (St g)) := by
  rw [sum_St, move_St, move_St, move_St, sum_St]
  refine St_ext _ _ fun i _ => ?_
  unfold mvB; rw [rot_xor]
/-! ### the rounds -/
theorem unmix_mix (l : List Int) (hl : l.length = 25) (hw : Words l) : unmixL (mixL l) = l := by
  unfold unmixL mixL
  rw [bchi_chi _ (moveL_length _) (moveL_words _), bmove_move _ (thetaL_length _) (thetaL_words _ hw hl), thetaN_theta, theta192 l hl hw]
theorem mix_unmix (l : List Int) (hl : l.length = 25) (hw : Words l) : mixL (unmixL l) = l := by
  unfold unmixL mixL
  rw [show thetaL (thetaN (bmoveL (bchiL l)) 191) = thetaN (bmoveL (bchiL l)) 192 from rfl, theta192 _ (bmoveL_length _) (bmoveL_words _), move_bmove _ (bchiL_length _) (bchiL_words _ hw), chi_bchi l hl hw]
theorem mark0_mark0 (l : List Int) (i : Nat) (hl : l.length = 25) (hw : Words l) (hi : i < 24) : mark0 (mark0 l i) i = l := by
  unfold mark0
  rw [List.set_set]
  have hg : (l.set 0 (Go.bits .xor .u64 (l.getD 0 0) (markN i))).getD 0 0 = Go.bits .xor .u64 (l.getD 0 0) (markN i) := by
    rw [List.getD_eq_getElem?_getD, List.getElem?_set_self (by omega)]; rfl
  have hx : Go.bits .xor .u64 (Go.bits .xor .u64 (l.getD 0 0) (markN i)) (markN i) = l.getD 0 0 := by
    obtain ⟨a, ha⟩ := I64_of _ (words_getD hw 0).1 (words_getD hw 0).2
    obtain ⟨b, hb⟩ := I64_of _ (mark_word i hi).1 (mark_word i hi).2
    rw [ha, hb, xor64, xor64, BitVec.xor_assoc, BitVec.xor_self, BitVec.xor_zero]
  rw [hg, hx]
  refine List.ext_getElem? fun j => ?_
  rw [List.getElem?_set]
  by_cases h : 0 = j
  · subst h
    rw [if_pos rfl, if_pos (by omega), List.getD_eq_getElem?_getD, List.getElem?_eq_getElem (by omega)]; rfl
  · rw [if_neg h]
theorem back_perm (l : List Int) (hl : l.length = 25) (hw : Words l) : ∀ k, k ≤ 24 → backTo (permTo l 24) k = permTo l (24 - k)
  | 0, _ => rfl
  | k + 1, hk => by
    show unmixL (mark0 (backTo (permTo l 24) k) (23 - k)) = _
    rw [back_perm l hl hw k (by omega), show 24 - k = (23 - k) + 1 by omega]
    show unmixL (mark0 (mark0 (mixL (permTo l (23 - k))) (23 - k)) (23 - k)) = _
    rw [mark0_mark0 _ _ (mixL_length _) (mixL_words _) (by omega), unmix_mix _ (permTo_length l hl _) (permTo_words l hw _ (by omega)), show 24 - (k + 1) = 23 - k by omega]
theorem back_permute (l : List Int) (hl : l.length = 25) (hw : Words l) : backTo (permTo l 24) 24 = l := back_perm l hl hw 24 (Nat.le_refl _)
theorem perm_back_ (l : List Int) (hl : l.length = 25) (hw : Words l) : ∀ k, k ≤ 24 → permTo (backTo l 24) k = backTo l (24 - k)
  | 0, _ => rfl
  | k + 1, hk => by
    show mark0 (mixL (permTo (backTo l 24) k)) k = _
    rw [perm_back_ l hl hw k (by omega), show 24 - k = (23 - k) + 1 by omega]
    show mark0 (mixL (unmixL (mark0 (backTo l (23 - k)) (23 - (23 - k))))) k = _
    have hb := backTo_length l hl (23 - k)
    have hbw := backTo_words l hw (23 - k)
    rw [show 23 - (23 - k) = k by omega, mix_unmix _ (by rw [mark0_length, hb]) (mark0_words _ _ hbw (by omega)), mark0_mark0 _ _ hb hbw (by omega), show 24 - (k + 1) = 23 - k by omega]
theorem permute_back (l : List Int) (hl : l.length = 25) (hw : Words l) : permTo (backTo l 24) 24 = l := perm_back_ l hl hw 24 (Nat.le_refl _)
/-! ### one to one -/
theorem permute_inj (a b : List Int) (ha : a.length = 25) (hb : b.length = 25) (wa : Words a) (wb : Words b) : decide (permTo a 24 = permTo b 24) = decide (a = b) := by
  rw [decide_eq_decide]
  exact ⟨fun h => by rw [← back_permute a ha wa, h, back_permute b hb wb], fun h => by rw [h]⟩
theorem chi_inj (a b : List Int) (ha : a.length = 25) (hb : b.length = 25) (wa : Words a) (wb : Words b) : decide (chiL a = chiL b) = decide (a = b) := by
  rw [decide_eq_decide]
  exact ⟨fun h => by rw [← bchi_chi a ha wa, h, bchi_chi b hb wb], fun h => by rw [h]⟩
theorem theta_inj (a b : List Int) (ha : a.length = 25) (hb : b.length = 25) (wa : Words a) (wb : Words b) : decide (thetaL a = thetaL b) = decide (a = b) := by
  rw [decide_eq_decide]
  exact ⟨fun h => by rw [← theta192 a ha wa, ← theta192 b hb wb, ← thetaN_theta a 191, ← thetaN_theta b 191, h], fun h => by rw [h]⟩
end Go.Proofs.Ytdbcgjclnfhdfaa.Keccak
