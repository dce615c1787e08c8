/-
  Matrices of bits: what rows become of one another keeps, what a reduced matrix tells. Plain lemmas; no condition.
-/
import Derived.Test.YtphdlidaigalkaaMatE
namespace Go.Proofs.Ytphdlidaigalkaa.Mat
open Go.RowKit Byte Arr Mem
set_option linter.unusedVariables false
set_option linter.unusedSimpArgs false
theorem xorTo_xor (g h : Nat → Bool) : ∀ n, xorTo (fun i => g i ^^ h i) n = (xorTo g n ^^ xorTo h n)
  | 0 => rfl
  | n + 1 => by
    rw [xorTo, xorTo, xorTo, xorTo_xor g h n]
    cases xorTo g n <;> cases xorTo h n <;> cases g n <;> cases h n <;> rfl
theorem par_xor (a b : BitVec 8) : par (a ^^^ b) = (par a ^^ par b) := by
  rw [par_eq, par_eq, par_eq, ← xorTo_xor]
  simp only [BitVec.getLsbD_xor]
theorem and_xor_l (a b x : BitVec 8) : (a ^^^ b) &&& x = (a &&& x) ^^^ (b &&& x) := ext8 fun i _ => by
  simp only [BitVec.getLsbD_and, BitVec.getLsbD_xor]
  cases a.getLsbD i <;> cases b.getLsbD i <;> cases x.getLsbD i <;> rfl
theorem and_xor_r (a x y : BitVec 8) : a &&& (x ^^^ y) = (a &&& x) ^^^ (a &&& y) := ext8 fun i _ => by
  simp only [BitVec.getLsbD_and, BitVec.getLsbD_xor]
  cases a.getLsbD i <;> cases x.getLsbD i <;> cases y.getLsbD i <;> rfl
theorem par_and_xor (a b x : BitVec 8) : par ((a ^^^ b) &&& x) = (par (a &&& x) ^^ par (b &&& x)) := by rw [and_xor_l, par_xor]
theorem app_bit (f : Rows) (x : BitVec 8) (k : Nat) (hk : k < 8) : (app f x).getLsbD k = par (f k &&& x) := by
  unfold app
  rw [ofB_bit _ _ (Nat.le_refl _)]
  simp [hk]
theorem app_congr {f g : Rows} (h : ∀ i, i < 8 → f i = g i) (x : BitVec 8) : app f x = app g x := ofB_congr 8 fun i hi => by rw [h i hi]
theorem app_xor (f : Rows) (x y : BitVec 8) : app f (x ^^^ y) = app f x ^^^ app f y := ext8 fun k hk => by
  rw [BitVec.getLsbD_xor, app_bit _ _ _ hk, app_bit _ _ _ hk, app_bit _ _ _ hk, and_xor_r, par_xor]
theorem app_zero (f : Rows) : app f 0#8 = 0#8 := ext8 fun k hk => by rw [app_bit _ _ _ hk]; simp [par]
theorem par_unit : ∀ (v : BitVec 8) (j : Fin 8), par (v &&& 1#8 <<< j.val) = v.getLsbD j.val := by decide +kernel
theorem app_unit (f : Rows) (i j : Nat) (hi : i < 8) (hj : j < 8) : (app f (1#8 <<< j)).getLsbD i = (f i).getLsbD j := by
  rw [app_bit _ _ _ hi]; exact par_unit (f i) ⟨j, hj⟩
theorem rows_of_app {f g : Rows} (h : ∀ x, app f x = app g x) (i : Nat) (hi : i < 8) : f i = g i := ext8 fun j hj => by
  rw [← app_unit f i j hi hj, ← app_unit g i j hi hj, h]
theorem one_app (x : BitVec 8) : app oneF x = x := ext8 fun k hk => by
  rw [app_bit _ _ _ hk]
  unfold oneF
  rw [BitVec.and_comm]
  exact par_unit x ⟨k, hk⟩
/-! ### rows become others -/
def swp (f : Rows) (i d : Nat) : Rows := fun k => if k = d then f i else if k = i then f d else f k
def swpB (i d : Nat) (y : BitVec 8) : BitVec 8 := ofB (fun k => y.getLsbD (if k = d then i else if k = i then d else k)) 8
theorem swp_app (f : Rows) (i d : Nat) (hi : i < 8) (hd : d < 8) (x : BitVec 8) : app (swp f i d) x = swpB i d (app f x) := ext8 fun k hk => by
  unfold swpB
  rw [app_bit _ _ _ hk, ofB_bit _ _ (Nat.le_refl _)]
  unfold swp
  split
  · rw [app_bit _ _ _ hi]; simp [hk]
  · split
    · rw [app_bit _ _ _ hd]; simp [hk]
    · rw [app_bit _ _ _ hk]; simp [hk]
theorem swpB_swpB (i d : Nat) (hi : i < 8) (hd : d < 8) (y : BitVec 8) : swpB i d (swpB i d y) = y := ext8 fun k hk => by
  unfold swpB
  simp only [ofB_bit _ _ (Nat.le_refl _), hk, decide_true, Bool.true_and]
  by_cases h1 : k = d
  · subst h1
    by_cases h2 : i = k
    · subst h2; simp [hi]
    · simp [hi, h2]
  · by_cases h2 : k = i
    · subst h2; simp [h1, hd]
    · simp [h1, h2, hk]
def clrB (b : Nat → Bool) (r : Nat) (y : BitVec 8) : BitVec 8 := ofB (fun k => y.getLsbD k ^^ (decide (k ≠ r) && b k && y.getLsbD r)) 8
theorem clr_app (f g : Rows) (r c : Nat) (hr : r < 8) (x : BitVec 8) : app (clrF f g r c) x = clrB (fun k => (f k).getLsbD c) r (app g x) := ext8 fun k hk => by
  unfold clrB
  rw [app_bit _ _ _ hk, ofB_bit _ _ (Nat.le_refl _), app_bit _ _ _ hk, app_bit _ _ _ hr]
  unfold clrF
  by_cases h : k ≠ r ∧ (f k).getLsbD c = true
  · rw [if_pos h, par_and_xor]
    simp only [hk, h.1, h.2, decide_true, Bool.true_and, ne_eq, not_false_eq_true]
  · rw [if_neg h]
    have : (decide (k ≠ r) && (f k).getLsbD c) = false := by
      cases hb : (f k).getLsbD c
      · simp
      · have : k = r := by
          by_cases hkr : k = r
          · exact hkr
          · exact absurd ⟨hkr, hb⟩ h
        simp [this]
    rw [this]; simp [hk]
theorem clrB_clrB (b : Nat → Bool) (r : Nat) (hr : r < 8) (y : BitVec 8) : clrB b r (clrB b r y) = y := ext8 fun k hk => by
  unfold clrB
  simp only [ofB_bit _ _ (Nat.le_refl _), hk, hr, decide_true, Bool.true_and, ne_eq, not_true, decide_false, Bool.false_and, Bool.xor_false]
  cases y.getLsbD k <;> cases (!decide (k = r)) <;> cases b k <;> cases y.getLsbD r <;> simp
/-- m is what f has become by wi, its first col columns reduced, of which done are units. -/
structure Red (f m wi : Rows) (done col : Nat) : Prop where
  le8 : done ≤ 8
  le : done ≤ col
  eq : ∀ x, app m x = app wi (app f x)
  inv : ∃ back : BitVec 8 → BitVec 8, ∀ y, back (app wi y) = y ∧ app wi (back y) = y
  piv : ∃ p : Nat → Nat, (∀ k, k < done → p k < col ∧ ∀ i, i < 8 → (m i).getLsbD (p k) = decide (i = k)) ∧ (done = col → ∀ k, k < done → p k = k)
  zero : ∀ c, c < col → ∀ i, done ≤ i → i < 8 → (m i).getLsbD c = false
theorem Red.start (f : Rows) : Red f f oneF 0 0 where
  le8 := by omega
  le := Nat.le_refl _
  eq x := by rw [one_app]
  inv := ⟨fun y => y, fun y => ⟨one_app y, one_app y⟩⟩
  piv := ⟨fun k => k, fun k hk => by omega, fun _ k _ => rfl⟩
  zero c hc := by omega
theorem Red.skip {f m wi : Rows} {done col : Nat} (h : Red f m wi done col) (hz : ∀ i, done ≤ i → i < 8 → (m i).getLsbD col = false) : Red f m wi done (col + 1) where
  le8 := h.le8
  le := by have := h.le; omega
  eq := h.eq
  inv := h.inv
  piv := by
    obtain ⟨p, h1, h2⟩ := h.piv
    exact ⟨p, fun k hk => ⟨by have := (h1 k hk).1; omega, (h1 k hk).2⟩, fun he => by have := h.le; omega⟩
  zero c hc i hi h8 := by
    rcases Nat.lt_or_ge c col with h1 | h1
    · exact h.zero c h1 i hi h8
    · obtain rfl : c = col := by omega
      exact hz i hi h8
theorem Red.step {f m wi : Rows} {done col i : Nat} (h : Red f m wi done col) (hd : done ≤ i) (hi : i < 8) (hb : (m i).getLsbD col = true) (hcol : col < 8) :
    Red f (clrF (swp m i done) (swp m i done) done col) (clrF (swp m i done) (swp wi i done) done col) (done + 1) (col + 1) where
  le8 := by omega
  le := by have := h.le; omega
  eq x := by rw [clr_app _ _ _ _ (by omega), clr_app _ _ _ _ (by omega), swp_app _ _ _ hi (by omega), swp_app _ _ _ hi (by omega), h.eq]
  inv := by
    obtain ⟨back, hback⟩ := h.inv
    refine ⟨fun y => back (swpB i done (clrB (fun k => (swp m i done k).getLsbD col) done y)), fun y => ⟨?_, ?_⟩⟩
    · show back (swpB i done (clrB (fun k => (swp m i done k).getLsbD col) done (app (clrF (swp m i done) (swp wi i done) done col) y))) = y
      rw [clr_app _ _ _ _ (by omega), swp_app _ _ _ hi (by omega), clrB_clrB _ _ (by omega), swpB_swpB _ _ hi (by omega), (hback y).1]
    · show app _ (back _) = y
      rw [clr_app _ _ _ _ (by omega), swp_app _ _ _ hi (by omega), (hback _).2, swpB_swpB _ _ hi (by omega), clrB_clrB _ _ (by omega)]
  piv := by
    obtain ⟨p, h1, h2⟩ := h.piv
    refine ⟨fun k => if k = done then col else p k, fun k hk => ?_, fun he k hk => ?_⟩
    · by_cases hkd : k = done
      · subst hkd
        simp only [if_true]
        refine ⟨by omega, fun j hj => ?_⟩
        unfold clrF
        by_cases hjk : j = k
        · subst hjk
          rw [if_neg (by simp)]
          simp [swp, hb]
        · by_cases hbj : (swp m i k j).getLsbD col = true
          · rw [if_pos ⟨hjk, hbj⟩, BitVec.getLsbD_xor, hbj]
            simp [swp, hb, hjk]
          · rw [if_neg (fun hh => hbj hh.2)]
            simp [hjk] at hbj ⊢
            exact hbj
      · simp only [if_neg hkd]
        have hk' : k < done := by omega
        have hp := h1 k hk'
        refine ⟨by omega, fun j hj => ?_⟩
        have hdone : (swp m i done done).getLsbD (p k) = false := by
          simp only [swp, if_true]
          rw [hp.2 i hi]; simp; omega
        have hj1 : (swp m i done j).getLsbD (p k) = decide (j = k) := by
          unfold swp
          split
          · rename_i e; subst e; rw [hp.2 i hi]; simp; omega
          · split
            · rename_i e; subst e; rw [hp.2 done (by omega)]; simp; omega
            · exact hp.2 j hj
        unfold clrF
        split
        · rw [BitVec.getLsbD_xor, hj1, hdone]; simp
        · exact hj1
    · have he' : done = col := by omega
      by_cases hkd : k = done
      · simp [hkd, he']
      · simp only [if_neg hkd]
        exact h2 he' k (by omega)
  zero c hc j hj h8 := by
    have hz : c < col → ∀ j, done ≤ j → j < 8 → (swp m i done j).getLsbD c = false := by
      intro hc j hj h8
      unfold swp
      split
      · exact h.zero c hc i hd hi
      · split
        · exact h.zero c hc done (Nat.le_refl _) (by omega)
        · exact h.zero c hc j hj h8
    rcases Nat.lt_or_ge c col with h1 | h1
    · unfold clrF
      split
      · rw [BitVec.getLsbD_xor, hz h1 j (by omega) h8, hz h1 done (Nat.le_refl _) (by omega)]; rfl
      · exact hz h1 j (by omega) h8
    · obtain rfl : c = col := by omega
      unfold clrF
      by_cases hbj : (swp m i done j).getLsbD c = true
      · rw [if_pos ⟨by omega, hbj⟩, BitVec.getLsbD_xor, hbj]
        simp [swp, hb]
      · rw [if_neg (fun hh => hbj hh.2)]
        simpa using hbj
theorem swp_cells (f : Rows) (i d : Nat) (hi : i < 8) (hd : d < 8) : ((cells8 f).set i (I8 (f d))).set d (I8 (f i)) = cells8 (swp f i d) := by
  rw [cells8_set _ _ hi, cells8_set _ _ hd]
  refine put_congr fun k _ => ?_
  unfold swp put
  rfl
end Go.Proofs.Ytphdlidaigalkaa.Mat
