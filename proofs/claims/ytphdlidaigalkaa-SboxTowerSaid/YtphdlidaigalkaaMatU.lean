/-
  Matrices of bits: products, rows as columns, and how many bytes are told; the rank. Plain lemmas; no condition.
-/
import Derived.Test.YtphdlidaigalkaaMatT
namespace Go.Proofs.Ytphdlidaigalkaa.Mat
open Go.RowKit Byte Arr Mem
set_option linter.unusedVariables false
set_option linter.unusedSimpArgs false
/-! ### products and columns -/
theorem xorTo_and (b : Bool) (g : Nat → Bool) : ∀ n, xorTo (fun i => b && g i) n = (b && xorTo g n)
  | 0 => by simp [xorTo]
  | n + 1 => by
    rw [xorTo, xorTo, xorTo_and b g n]
    cases b <;> simp
theorem xorTo_false : ∀ n, xorTo (fun _ => false) n = false
  | 0 => rfl
  | n + 1 => by rw [xorTo, xorTo_false n]; rfl
theorem xorTo_congr {g h : Nat → Bool} : ∀ n, (∀ i, i < n → g i = h i) → xorTo g n = xorTo h n
  | 0, _ => rfl
  | n + 1, e => by rw [xorTo, xorTo, xorTo_congr n (fun i hi => e i (by omega)), e n (by omega)]
theorem xorTo_swap (g : Nat → Nat → Bool) (m : Nat) : ∀ n, xorTo (fun i => xorTo (fun j => g i j) m) n = xorTo (fun j => xorTo (fun i => g i j) n) m
  | 0 => by simp only [xorTo, xorTo_false]
  | n + 1 => by
    rw [xorTo, xorTo_swap g m n, ← xorTo_xor]
    rfl
theorem par_and (a x : BitVec 8) : par (a &&& x) = xorTo (fun j => a.getLsbD j && x.getLsbD j) 8 := by
  rw [par_eq]; simp only [BitVec.getLsbD_and]
theorem par_zero : par 0#8 = false := rfl
theorem mrow_par (f g : Rows) (k : Nat) (x : BitVec 8) : ∀ n, par (mrow f g k n &&& x) = xorTo (fun j => (f k).getLsbD j && par (g j &&& x)) n
  | 0 => by simp [mrow, xorTo, par_zero]
  | n + 1 => by
    rw [mrow, par_and_xor, mrow_par f g k x n, xorTo]
    cases h : (f k).getLsbD n
    · simp [par_zero]
    · simp
theorem mul_app (f g : Rows) (x : BitVec 8) : app (mulF f g) x = app f (app g x) := ext8 fun k hk => by
  rw [app_bit _ _ _ hk, app_bit _ _ _ hk, par_and (f k) (app g x)]
  show par (mrow f g k 8 &&& x) = _
  rw [mrow_par]
  exact xorTo_congr 8 fun j hj => by rw [app_bit _ _ _ hj]
theorem flip_bit (f : Rows) (i j : Nat) (hi : i < 8) : (flipF f j).getLsbD i = (f i).getLsbD j := by
  unfold flipF
  rw [ofB_bit _ _ (Nat.le_refl _)]
  simp [hi]
theorem flip_flip (f : Rows) : cells8 (flipF (flipF f)) = cells8 f := cells8_congr fun i hi => ext8 fun j hj => by
  rw [flip_bit _ _ _ hj, flip_bit _ _ _ hi]
theorem flip_app (f : Rows) (j : Nat) (hj : j < 8) : app (flipF f) (1#8 <<< j) = f j := ext8 fun i hi => by
  rw [app_unit _ _ _ hi hj, flip_bit _ _ _ hj]
theorem rmul_eq (f g : Rows) : cells8 (flipF (rmulC f g)) = cells8 (mulF f g) := cells8_congr fun i hi => ext8 fun j hj => by
  rw [flip_bit _ _ _ hj]
  unfold rmulC
  rw [← mul_app, app_unit _ _ _ hi hj]
/-- What agrees on the units agrees. -/
theorem app_of_units {F : BitVec 8 → BitVec 8} (hF : ∀ x y, F (x ^^^ y) = F x ^^^ F y) (h : ∀ j, j < 8 → F (1#8 <<< j) = 1#8 <<< j) (x : BitVec 8) : F x = x := by
  have h0 : F 0#8 = 0#8 := by
    have := hF 0#8 0#8
    rw [BitVec.xor_self, BitVec.xor_self] at this
    exact this
  have key : ∀ n, n ≤ 8 → ∀ g : Nat → Bool, F (ofB g n) = ofB g n := by
    intro n
    induction n with
    | zero => intro _ g; exact h0
    | succ n ih =>
      intro hn g
      have e : ofB g (n + 1) = ofB g n ^^^ (if g n then 1#8 <<< n else 0#8) := ext8 fun k hk => by
        rw [BitVec.getLsbD_xor, ofB_bit _ _ hn, ofB_bit _ _ (by omega)]
        by_cases hk1 : k = n
        · subst hk1
          cases hg : g k <;> simp [hg, hk]
        · cases hg : g n
          · by_cases hk2 : k < n
            · simp [hk2, show k < n + 1 by omega]
            · simp [hk2, show ¬ k < n + 1 by omega]
          · by_cases hk2 : k < n
            · simp [hk2, show k < n + 1 by omega]
            · have hk3 : n < k := by omega
              simp [hk2, show ¬ k < n + 1 by omega, hk]
              omega
      rw [e, hF, ih (by omega)]
      cases g n
      · simp only [Bool.false_eq_true, if_false, h0]
      · simp only [if_true, h n (by omega)]
  have e : x = ofB (fun i => x.getLsbD i) 8 := ext8 fun i hi => by rw [ofB_bit _ _ (Nat.le_refl _)]; simp [hi]
  rw [e, key 8 (Nat.le_refl _)]
/-- y . (f x) = x . (the columns of f, y). -/
theorem pair_flip (f : Rows) (x y : BitVec 8) : par (y &&& app f x) = par (x &&& app (flipF f) y) := by
  rw [par_and, par_and]
  have e1 : ∀ i, i < 8 → (y.getLsbD i && (app f x).getLsbD i) = xorTo (fun j => y.getLsbD i && ((f i).getLsbD j && x.getLsbD j)) 8 := fun i hi => by
    rw [app_bit _ _ _ hi, par_and, ← xorTo_and]
  have e2 : ∀ j, j < 8 → (x.getLsbD j && (app (flipF f) y).getLsbD j) = xorTo (fun i => y.getLsbD i && ((f i).getLsbD j && x.getLsbD j)) 8 := fun j hj => by
    rw [app_bit _ _ _ hj, par_and, ← xorTo_and]
    refine xorTo_congr 8 fun i hi => ?_
    rw [flip_bit _ _ _ hi]
    cases x.getLsbD j <;> cases (f i).getLsbD j <;> cases y.getLsbD i <;> rfl
  rw [xorTo_congr 8 e1, xorTo_swap, xorTo_congr 8 e2]
/-! ### counting -/
def cnt (P : Nat → Bool) : Nat → Nat
  | 0 => 0
  | n + 1 => cnt P n + (if P n then 1 else 0)
def sumN (g : Nat → Nat) : Nat → Nat
  | 0 => 0
  | n + 1 => sumN g n + g n
theorem cnt_congr {P Q : Nat → Bool} : ∀ n, (∀ i, i < n → P i = Q i) → cnt P n = cnt Q n
  | 0, _ => rfl
  | n + 1, h => by rw [cnt, cnt, cnt_congr n (fun i hi => h i (by omega)), h n (by omega)]
theorem sumN_congr {g h : Nat → Nat} : ∀ n, (∀ i, i < n → g i = h i) → sumN g n = sumN h n
  | 0, _ => rfl
  | n + 1, e => by rw [sumN, sumN, sumN_congr n (fun i hi => e i (by omega)), e n (by omega)]
theorem cnt_without (Q : Nat → Bool) (a : Nat) : ∀ m, a < m → Q a = true → cnt Q m = cnt (fun i => Q i && decide (i ≠ a)) m + 1
  | 0, h, _ => by omega
  | m + 1, h, hq => by
    rw [cnt, cnt]
    by_cases hm : a = m
    · subst hm
      rw [hq, cnt_congr (Q := fun i => Q i && decide (i ≠ a)) a (fun i hi => by simp; omega)]
      simp
    · rw [cnt_without Q a m (by omega) hq]
      have : decide (m ≠ a) = true := decide_eq_true (fun e => hm e.symm)
      rw [this, Bool.and_true]
      omega
theorem cnt_le {P : Nat → Bool} {m : Nat} (φ : Nat → Nat) : ∀ (n : Nat) (Q : Nat → Bool), (∀ i, i < n → P i = true → φ i < m ∧ Q (φ i) = true) → (∀ i j, i < n → j < n → P i = true → P j = true → φ i = φ j → i = j) → cnt P n ≤ cnt Q m
  | 0, _, _, _ => Nat.zero_le _
  | n + 1, Q, h, hinj => by
    rw [cnt]
    cases hp : P n with
    | false => simpa using cnt_le φ n Q (fun i hi => h i (by omega)) (fun i j hi hj => hinj i j (by omega) (by omega))
    | true =>
      obtain ⟨h1, h2⟩ := h n (by omega) hp
      rw [cnt_without Q (φ n) m h1 h2]
      have := cnt_le (P := P) (m := m) φ n (fun i => Q i && decide (i ≠ φ n)) (fun i hi hpi => by
        obtain ⟨h3, h4⟩ := h i (by omega) hpi
        refine ⟨h3, ?_⟩
        rw [h4, Bool.true_and, decide_eq_true_iff]
        intro e
        have := hinj i n (by omega) (by omega) hpi hp e
        omega) (fun i j hi hj => hinj i j (by omega) (by omega))
      simp only [if_true]
      omega
theorem cnt_add (P : Nat → Bool) : ∀ n, cnt P n + cnt (fun i => !P i) n = n
  | 0 => rfl
  | n + 1 => by
    have := cnt_add P n
    rw [cnt, cnt]
    cases P n <;> simp <;> omega
theorem sumN_add (g h : Nat → Nat) : ∀ n, sumN (fun i => g i + h i) n = sumN g n + sumN h n
  | 0 => rfl
  | n + 1 => by rw [sumN, sumN, sumN, sumN_add g h n]; omega
theorem sumN_zero : ∀ n, sumN (fun _ => 0) n = 0
  | 0 => rfl
  | n + 1 => by rw [sumN, sumN_zero n]
theorem cnt_sum (P : Nat → Bool) : ∀ n, cnt P n = sumN (fun i => if P i then 1 else 0) n
  | 0 => rfl
  | n + 1 => by rw [cnt, sumN, cnt_sum P n]
theorem sumN_swap (g : Nat → Nat → Nat) (m : Nat) : ∀ n, sumN (fun i => sumN (fun j => g i j) m) n = sumN (fun j => sumN (fun i => g i j) n) m
  | 0 => by simp only [sumN, sumN_zero]
  | n + 1 => by rw [sumN, sumN_swap g m n, ← sumN_add]; rfl
theorem sumN_ite (P : Nat → Bool) (a b : Nat) : ∀ n, sumN (fun i => if P i then a else b) n = a * cnt P n + b * (n - cnt P n)
  | 0 => by simp [sumN, cnt]
  | n + 1 => by
    have h1 := cnt_add P n
    rw [sumN, cnt, sumN_ite P a b n]
    cases hp : P n
    · simp only [Bool.false_eq_true, if_false, Nat.add_zero]
      rw [show n + 1 - cnt P n = (n - cnt P n) + 1 by omega, Nat.mul_add, Nat.mul_one]; omega
    · simp only [if_true]
      rw [show n + 1 - (cnt P n + 1) = n - cnt P n by omega, Nat.mul_add, Nat.mul_one]; omega
theorem sumN_one (a : Nat) : ∀ m, a < m → sumN (fun y => if a == y then 1 else 0) m = 1 := by
  intro m h
  rw [← cnt_sum]
  have h1 : cnt (fun y => a == y) m = cnt (fun i => (a == i) && decide (i ≠ a)) m + 1 := cnt_without _ a m h (by simp)
  rw [h1, cnt_congr (Q := fun _ => false) m (fun i _ => by
    by_cases e : i = a
    · simp [e]
    · simp [e, Ne.symm e])]
  have : ∀ m, cnt (fun _ => false) m = 0 := by
    intro m
    induction m with
    | zero => rfl
    | succ m ih => rw [cnt, ih]; rfl
  rw [this]
/-- Each x lies behind one y. -/
theorem fibers (F : Nat → Nat) (m : Nat) : ∀ n, (∀ x, x < n → F x < m) → sumN (fun y => cnt (fun x => F x == y) n) m = n
  | 0, _ => by simp only [cnt, sumN_zero]
  | n + 1, h => by
    simp only [cnt]
    rw [sumN_add, fibers F m n (fun x hx => h x (by omega)), sumN_one (F n) m (h n (by omega))]
/-! ### counting bytes -/
def byt (n : Nat) : BitVec 8 := BitVec.ofNat 8 n
theorem byt_toNat (x : BitVec 8) : byt x.toNat = x := by unfold byt; simp
theorem toNat_byt (n : Nat) (h : n < 256) : (byt n).toNat = n := by unfold byt; rw [BitVec.toNat_ofNat]; exact Nat.mod_eq_of_lt h
theorem byt_I8 (x : Nat) (h : x < 256) : I8 (byt x) = (x : Int) := by unfold I8; rw [toNat_byt x h]
def cntB (P : BitVec 8 → Bool) : Nat := cnt (fun n => P (byt n)) 256
theorem cntB_le {P Q : BitVec 8 → Bool} (φ : BitVec 8 → BitVec 8) (h : ∀ x, P x = true → Q (φ x) = true) (hi : ∀ x y, P x = true → P y = true → φ x = φ y → x = y) : cntB P ≤ cntB Q :=
  cnt_le (fun n => (φ (byt n)).toNat) 256 _ (fun n _ hp => ⟨(φ (byt n)).isLt, by show Q (byt (φ (byt n)).toNat) = true; rw [byt_toNat]; exact h _ hp⟩)
    (fun i j hi' hj' hp hq e => by
      have := hi _ _ hp hq (BitVec.eq_of_toNat_eq e)
      rw [← toNat_byt i hi', this, toNat_byt j hj'])
theorem cntB_congr {P Q : BitVec 8 → Bool} (h : ∀ x, P x = Q x) : cntB P = cntB Q := cnt_congr 256 fun i _ => h _
theorem cntB_add (P : BitVec 8 → Bool) : cntB P + cntB (fun x => !P x) = 256 := cnt_add (fun n => P (byt n)) 256
def kerN (f : Rows) : Nat := cntB fun x => app f x == 0#8
def im (f : Rows) (y : BitVec 8) : Bool := (List.range 256).any fun n => app f (byt n) == y
theorem im_iff (f : Rows) (y : BitVec 8) : im f y = true ↔ ∃ x, app f x = y := by
  unfold im
  rw [List.any_eq_true]
  constructor
  · rintro ⟨n, _, h⟩
    exact ⟨byt n, by simpa using h⟩
  · rintro ⟨x, h⟩
    exact ⟨x.toNat, List.mem_range.2 x.isLt, by rw [byt_toNat]; simpa using h⟩
def imN (f : Rows) : Nat := cntB (im f)
theorem xor_cancel (x y : BitVec 8) : x ^^^ y ^^^ y = x := by rw [BitVec.xor_assoc, BitVec.xor_self, BitVec.xor_zero]
theorem fiber_ker (f : Rows) (x0 : BitVec 8) : cntB (fun x => app f x == app f x0) = kerN f := by
  refine Nat.le_antisymm ?_ ?_
  · refine cntB_le (fun x => x ^^^ x0) (fun x h => ?_) (fun x y _ _ e => by rw [← xor_cancel x x0, e, xor_cancel])
    have h : app f x = app f x0 := by simpa using h
    simp [app_xor, h]
  · refine cntB_le (fun x => x ^^^ x0) (fun x h => ?_) (fun x y _ _ e => by rw [← xor_cancel x x0, e, xor_cancel])
    have h : app f x = 0#8 := by simpa using h
    simp [app_xor, h]
theorem ker_im (f : Rows) : kerN f * imN f = 256 := by
  have h := fibers (fun n => (app f (byt n)).toNat) 256 256 (fun x _ => (app f (byt x)).isLt)
  have e : ∀ y, y < 256 → cnt (fun x => (app f (byt x)).toNat == y) 256 = if im f (byt y) then kerN f else 0 := by
    intro y hy
    have e1 : cnt (fun x => (app f (byt x)).toNat == y) 256 = cntB (fun x => app f x == byt y) := cnt_congr 256 fun i _ => by
      rw [Bool.eq_iff_iff, beq_iff_eq, beq_iff_eq]
      exact ⟨fun h => by rw [← h, byt_toNat], fun h => by rw [h, toNat_byt y hy]⟩
    rw [e1]
    cases hi : im f (byt y)
    · have : cntB (fun x => app f x == byt y) = cntB (fun _ => false) := cntB_congr fun x => by
        rw [beq_eq_false_iff_ne]
        intro hx
        rw [(im_iff f _).2 ⟨x, hx⟩] at hi
        cases hi
      rw [this, if_neg (by decide)]
      decide +kernel
    · obtain ⟨x0, hx0⟩ := (im_iff f _).1 hi
      rw [if_pos rfl, ← hx0, fiber_ker]
  rw [sumN_congr 256 e, sumN_ite] at h
  rw [Nat.zero_mul, Nat.add_zero] at h
  exact h
theorem half (z : BitVec 8) (hz : z ≠ 0#8) : cntB (fun y => !par (y &&& z)) = 128 := by
  obtain ⟨j, hj, hb⟩ : ∃ j, j < 8 ∧ z.getLsbD j = true := by
    refine Classical.byContradiction fun h => hz (ext8 fun i hi => ?_)
    cases hzi : z.getLsbD i
    · simp
    · exact absurd ⟨i, hi, hzi⟩ h
  have hp : ∀ y, par ((y ^^^ 1#8 <<< j) &&& z) = !par (y &&& z) := by
    intro y
    rw [par_and_xor, BitVec.and_comm (1#8 <<< j), par_unit z ⟨j, hj⟩, hb]
    cases par (y &&& z) <;> rfl
  have h1 : cntB (fun y => !par (y &&& z)) ≤ cntB (fun y => par (y &&& z)) := cntB_le (fun y => y ^^^ 1#8 <<< j) (fun y h => by rw [hp]; exact h) (fun x y _ _ e => by rw [← xor_cancel x (1#8 <<< j), e, xor_cancel])
  have h2 : cntB (fun y => par (y &&& z)) ≤ cntB (fun y => !par (y &&& z)) := cntB_le (fun y => y ^^^ 1#8 <<< j) (fun y h => by rw [hp, h]; rfl) (fun x y _ _ e => by rw [← xor_cancel x (1#8 <<< j), e, xor_cancel])
  have h3 := cntB_add (fun y => par (y &&& z))
  omega
theorem pairs (f : Rows) : sumN (fun x => cntB (fun y => !par (y &&& app f (byt x)))) 256 = 256 * kerN f + 128 * (256 - kerN f) := by
  have e : ∀ x, x < 256 → cntB (fun y => !par (y &&& app f (byt x))) = if app f (byt x) == 0#8 then 256 else 128 := by
    intro x _
    by_cases h : app f (byt x) = 0#8
    · rw [h, if_pos (by simp)]
      rw [cntB_congr (Q := fun _ => true) (fun y => by simp [par_zero])]
      decide +kernel
    · rw [half _ h, if_neg (by simpa using h)]
  rw [sumN_congr 256 e, sumN_ite]
  rfl
theorem ker_flip (f : Rows) : kerN (flipF f) = kerN f := by
  have h1 := pairs f
  have h2 := pairs (flipF f)
  have hs : sumN (fun x => cntB (fun y => !par (y &&& app f (byt x)))) 256 = sumN (fun x => cntB (fun y => !par (y &&& app (flipF f) (byt x)))) 256 := by
    unfold cntB
    simp only [cnt_sum]
    rw [sumN_swap]
    refine sumN_congr 256 fun y _ => sumN_congr 256 fun x _ => ?_
    rw [pair_flip]
  have b1 : kerN f ≤ 256 := by have := cntB_add (fun x => app f x == 0#8); unfold kerN; omega
  have b2 : kerN (flipF f) ≤ 256 := by have := cntB_add (fun x => app (flipF f) x == 0#8); unfold kerN; omega
  omega
theorem im_flip (f : Rows) : imN (flipF f) = imN f := by
  have h1 := ker_im f
  have h2 := ker_im (flipF f)
  rw [ker_flip] at h2
  have h3 : 0 < kerN f := by
    rcases Nat.eq_zero_or_pos (kerN f) with h | h
    · rw [h] at h1; omega
    · exact h
  exact Nat.eq_of_mul_eq_mul_left h3 (by rw [h1, h2])
theorem im_mul (f g : Rows) : imN (mulF f g) ≤ imN f := cntB_le (fun y => y) (fun y h => by
    obtain ⟨x, hx⟩ := (im_iff _ _).1 h
    exact (im_iff _ _).2 ⟨app g x, by rw [← mul_app]; exact hx⟩) (fun _ _ _ _ e => e)
/-! ### the rank -/
theorem small_cnt : ∀ d : Fin 9, cntB (fun y => decide (y.toNat < 2 ^ d.val)) = 2 ^ d.val := by decide +kernel
theorem lt_pow_bits : ∀ (d : Fin 9) (y : BitVec 8), (∀ i : Fin 8, d.val ≤ i.val → y.getLsbD i.val = false) ↔ y.toNat < 2 ^ d.val := by decide +kernel
/-- The sum of the units at p 0, p 1, .. of which y has the bit. -/
def pick (p : Nat → Nat) (y : BitVec 8) : Nat → BitVec 8
  | 0 => 0#8
  | n + 1 => pick p y n ^^^ (if y.getLsbD n then 1#8 <<< p n else 0#8)
theorem Red.tells {f m wi : Rows} {done : Nat} (h : Red f m wi done 8) (y : BitVec 8) : im m y = decide (y.toNat < 2 ^ done) := by
  have h8 := h.le8
  rw [Bool.eq_iff_iff, im_iff, decide_eq_true_iff, ← lt_pow_bits ⟨done, by omega⟩ y]
  constructor
  · rintro ⟨x, rfl⟩ ⟨i, hi⟩ hd
    rw [app_bit _ _ _ hi]
    have : m i = 0#8 := ext8 fun c hc => by rw [h.zero c hc i hd hi]; simp
    rw [this]; simp [par_zero]
  · intro hy
    obtain ⟨p, hp, _⟩ := h.piv
    have key : ∀ n, n ≤ done → ∀ i, i < 8 → (app m (pick p y n)).getLsbD i = (decide (i < n) && y.getLsbD i) := by
      intro n
      induction n with
      | zero => intro _ i hi; simp [pick, app_zero]
      | succ n ih =>
        intro hn i hi
        have hpn := hp n (by omega)
        rw [pick, app_xor, BitVec.getLsbD_xor, ih (by omega) i hi]
        have e : (app m (if y.getLsbD n then 1#8 <<< p n else 0#8)).getLsbD i = (y.getLsbD n && decide (i = n)) := by
          cases hb : y.getLsbD n
          · simp [app_zero]
          · rw [if_pos rfl, app_unit _ _ _ hi hpn.1, hpn.2 i hi]; rfl
        rw [e]
        by_cases hin : i = n
        · subst hin; simp
        · by_cases h2 : i < n
          · simp [hin, h2, show i < n + 1 by omega]
          · simp [hin, h2, show ¬ i < n + 1 by omega]
    refine ⟨pick p y done, ext8 fun i hi => ?_⟩
    rw [key done (Nat.le_refl _) i hi]
    by_cases hid : i < done
    · simp [hid]
    · simp [hid, hy ⟨i, hi⟩ (by simpa using hid)]
theorem Red.imN {f m wi : Rows} {done : Nat} (h : Red f m wi done 8) : imN f = 2 ^ done := by
  obtain ⟨back, hb⟩ := h.inv
  have h8 := h.le8
  rw [← small_cnt ⟨done, by omega⟩]
  refine Nat.le_antisymm (cntB_le (app wi) (fun y hy => ?_) (fun x y _ _ e => by rw [← (hb x).1, e, (hb y).1])) (cntB_le back (fun y hy => ?_) (fun x y _ _ e => by rw [← (hb x).2, e, (hb y).2]))
  · obtain ⟨x, rfl⟩ := (im_iff _ _).1 hy
    rw [← h.eq]
    exact (h.tells _).symm.trans ((im_iff _ _).2 ⟨x, rfl⟩)
  · obtain ⟨x, hx⟩ := (im_iff _ _).1 ((h.tells y).trans hy)
    exact (im_iff _ _).2 ⟨x, by rw [← hx, h.eq, (hb _).1]⟩
def rank (f : Rows) : Nat := (Mat.imN f).log2
theorem Red.rank {f m wi : Rows} {done : Nat} (h : Red f m wi done 8) : rank f = done := by
  unfold Mat.rank
  rw [h.imN, Nat.log2_two_pow]
theorem Red.some (f : Rows) : ∀ col, col ≤ 8 → ∃ m wi done, Red f m wi done col
  | 0, _ => ⟨f, oneF, 0, Red.start f⟩
  | col + 1, hc => by
    obtain ⟨m, wi, done, h⟩ := Red.some f col (by omega)
    by_cases hz : ∀ i, done ≤ i → i < 8 → (m i).getLsbD col = false
    · exact ⟨m, wi, done, h.skip hz⟩
    · obtain ⟨i, h1, h2, h3⟩ : ∃ i, done ≤ i ∧ i < 8 ∧ (m i).getLsbD col = true := by
        refine Classical.byContradiction fun hn => hz fun i h1 h2 => ?_
        cases hb : (m i).getLsbD col
        · rfl
        · exact absurd ⟨i, h1, h2, hb⟩ hn
      exact ⟨_, _, _, h.step h1 h2 h3 (by omega)⟩
theorem imN_rank (f : Rows) : Mat.imN f = 2 ^ rank f := by
  obtain ⟨m, wi, done, h⟩ := Red.some f 8 (Nat.le_refl _)
  rw [h.rank, h.imN]
theorem rank_le (f : Rows) : rank f ≤ 8 := by
  obtain ⟨m, wi, done, h⟩ := Red.some f 8 (Nat.le_refl _)
  rw [h.rank]; exact h.le8
theorem ker_rank (f : Rows) : kerN f = 2 ^ (8 - rank f) := by
  have h1 := ker_im f
  have h2 := rank_le f
  rw [imN_rank] at h1
  have h3 : 2 ^ (8 - rank f) * 2 ^ rank f = 256 := by rw [← Nat.pow_add, show 8 - rank f + rank f = 8 by omega]
  exact Nat.eq_of_mul_eq_mul_right (Nat.two_pow_pos (rank f)) (by rw [h1, h3])
theorem rank_flip (f : Rows) : rank (flipF f) = rank f := by unfold rank; rw [im_flip]
theorem rank_mul (f g : Rows) : rank (mulF f g) ≤ rank f := by
  have h := im_mul f g
  rw [imN_rank, imN_rank] at h
  exact (Nat.pow_le_pow_iff_right (by decide)).1 h
theorem rank_full (f : Rows) (h : ∀ y, ∃ x, app f x = y) : rank f = 8 := by
  have e : Mat.imN f = 256 := by
    unfold Mat.imN
    rw [cntB_congr (Q := fun _ => true) (fun y => (im_iff _ _).2 (h y))]
    decide +kernel
  unfold rank
  rw [e]; rfl
theorem rank_one : rank oneF = 8 := rank_full _ fun y => ⟨y, one_app y⟩
theorem rank_zero : rank zrow = 0 := by
  have e : Mat.imN zrow = 1 := by
    unfold Mat.imN
    have h : ∀ x, app zrow x = 0#8 := fun x => ext8 fun k hk => by rw [app_bit _ _ _ hk]; simp [zrow, par_zero]
    rw [cntB_congr (Q := fun y => y == 0#8) (fun y => by
      rw [Bool.eq_iff_iff, im_iff, beq_iff_eq]
      exact ⟨fun ⟨x, hx⟩ => by rw [← hx, h], fun hy => ⟨0#8, by rw [h, hy]⟩⟩)]
    decide +kernel
  unfold rank
  rw [e]; rfl
/-- The reduced matrix is One just if the rank is 8. -/
theorem Red.one {f m wi : Rows} {done : Nat} (h : Red f m wi done 8) : cells8 m = cells8 oneF ↔ Mat.rank f = 8 := by
  rw [h.rank]
  constructor
  · intro hm
    refine Classical.byContradiction fun hne => ?_
    have h8 := h.le8
    have hd : done < 8 := by omega
    have e := cells8_inj hm done hd
    have z := h.zero done hd done (Nat.le_refl _) hd
    rw [e] at z
    unfold oneF at z
    simp [hd] at z
  · rintro rfl
    obtain ⟨p, hp, hpp⟩ := h.piv
    refine cells8_congr fun i hi => ext8 fun k hk => ?_
    have := (hp k hk).2 i hi
    rw [hpp rfl k hk] at this
    rw [this]
    unfold oneF
    rw [BitVec.getLsbD_shiftLeft]
    by_cases hik : i = k
    · subst hik; simp [hi]
    · simp [hik, hk]
      intro hik2
      omega
end Go.Proofs.Ytphdlidaigalkaa.Mat
