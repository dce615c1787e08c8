/-
  The law SpongeGrows, walked: for any bytes, rate, mark and numbers it returns true. No condition.
-/
import Derived.Test.YthijjpiddelefaaPureSpongeTells
import Derived.Test.YthijjpiddelefaaSpAll
import Derived.Test.YthijjpiddelefaaSlices
namespace Go.Proofs.Ythijjpiddelefaa.SpGrow
open Go Go.RowKit Go.Proofs.Ythijjpiddelefaa Go.Proofs.Ythijjpiddelefaa.PSp Go.Proofs.YthijjpiddelefaaW.PrintWords Go.Proofs.YthijjpiddelefaaW.PrintLast Go.Proofs.YthijjpiddelefaaW.PrintMore Byte Sl Arr Mem Gives OctMath Store SWord CodeMath SpMath HandKit Chunk Sponge SpSum Go.Proofs.Ythijjpiddelefaa.Pure
set_option linter.unusedVariables false
set_option linter.unusedSimpArgs false
set_option maxHeartbeats 4000000
set_option maxRecDepth 100000
theorem grow_nums (r0 q24 k8 RT : Nat) (h : r0 < 256) (hq : q24 = r0 % 24) (h8 : k8 = 8 * q24) (hR : RT = 8 + k8) : Rateds (RT : Int) ∧ Int.tmod (r0 : Int) 24 = (q24 : Int) ∧ (r0 : Int) % 24 = (q24 : Int) ∧ wrap64 (8 * (q24 : Int)) = (k8 : Int) ∧ wrap64 (8 + (k8 : Int)) = (RT : Int) ∧ 8 ≤ RT ∧ RT ≤ 192 := by
  unfold Rateds
  refine ⟨by omega, ?_, by omega, ?_, ?_, by omega, by omega⟩
  · rw [Int.tmod_eq_emod_of_nonneg (by omega)]; omega
  · rw [w64 (by omega) (by omega)]; omega
  · rw [w64 (by omega) (by omega)]; omega
theorem sumL_length (m : List Int) (rate : Nat) (mark : Int) (n : Nat) (h : Rateds (rate : Int)) : (sumL m rate mark n).length = n := by
  unfold sumL
  rw [List.length_take, outL_length]
  have h1 := turns_ge n rate (by have := h.1; omega)
  have h2 : 8 * (rate / 8) = rate := by have := h.2.2; omega
  rw [h2]
  omega
theorem sumL_grow (m : List Int) (rate : Nat) (mark : Int) (a b : Nat) (h : Rateds (rate : Int)) : (sumL m rate mark (a + b)).take a = sumL m rate mark a := by
  unfold sumL
  rw [List.take_take, Nat.min_eq_left (by omega)]
  have h1 := turns_ge a rate (by have := h.1; omega)
  have h2 : 8 * (rate / 8) = rate := by have := h.2.2; omega
  exact outL_take _ _ _ _ _ (by rw [h2]; exact h1) (Nat.div_le_div_right (by omega))
theorem small8 (x : Nat) (h : x < 256) : IntKind.i64.wrap (x : Int) = (x : Int) ∧ wrap64 (x : Int) = (x : Int) := by
  refine ⟨?_, w64 (by omega) (by omega)⟩
  rw [IntKind.wrap_i64]; omega
theorem wrap_sum (a b : Nat) (ha : a < 256) (hb : b < 256) : wrap64 ((a : Int) + (b : Int)) = ((a + b : Nat) : Int) := by
  rw [w64 (by omega) (by omega)]; omega
theorem same_c (A : Option Addr) (c : Nat) (B : Option Addr) (d : Nat) (l : List Int) (w : World) (hA : Kd.C (Kd.int .u8) w A l.length l) (hc : l.length ≤ c) (hB : Kd.C (Kd.int .u8) w B l.length l) (hd : l.length ≤ d) : Calls Try.prog 31 #[.slice A l.length c, .slice B l.length d] w fun e w' => e = .returned (.bool true) ∧ Drawn0 w w' :=
  PSp.visorref01_Same.calls A c l B d l true w hA hc hB hd (same_self l)
theorem awake_c (w : World) : Calls Try.prog 25 #[] w fun e w' => e = .returned (.bool true) ∧ Below w.heap.size w w' := PSp.visorlaw15_awake.calls 1 true w (awake_eq 1 (by decide))
theorem grown0 {A B : World} (h : A.grownBy B none) : Below A.heap.size A B := ⟨h.os, h.tape, h.output, h.size, fun k hk => h.block k hk (by simp)⟩
theorem unxor (x : Int) (h : 0 ≤ x ∧ x < 256) : Go.bits .xor .u8 (Go.bits .xor .u8 x 128) 128 = x := by
  obtain ⟨b, rfl⟩ := I8_of x h.1 h.2
  rw [show (128 : Int) = I8 128#8 by rfl, xor8, xor8, BitVec.xor_assoc, BitVec.xor_self, BitVec.xor_zero]
theorem unlast (m : List Int) (rate : Nat) (mark : Int) (hm : IsB m) (hk : 0 ≤ mark ∧ mark < 256) (h : 0 < rate) : (fillL m rate mark).set ((fillL m rate mark).length - 1) (Go.bits .xor .u8 ((fillL m rate mark).getD ((fillL m rate mark).length - 1) 0) 128) = padZ (m ++ [mark]) rate := by
  have hb : IsB (padZ (m ++ [mark]) rate) := IsB.append (IsB.append hm (IsB.cons hk.1 hk.2 IsB.nil)) (IsB.zeros _)
  unfold fillL
  generalize hp : padZ (m ++ [mark]) rate = x at *
  have hx : 0 < x.length := by rw [← hp, padZ_length]; simp; omega
  rw [lastX_length]
  unfold lastX
  have e : (x.set (x.length - 1) (Go.bits .xor .u8 (x.getD (x.length - 1) 0) 128)).getD (x.length - 1) 0 = Go.bits .xor .u8 (x.getD (x.length - 1) 0) 128 := by
    rw [List.getD_eq_getElem?_getD, List.getElem?_set, if_pos rfl, if_pos (by omega)]; rfl
  rw [e, unxor _ (hb.getD _), List.set_set]
  refine List.ext_getElem? fun i => ?_
  rw [List.getElem?_set]
  split
  · rename_i h1
    subst h1
    rw [if_pos (by omega), List.getD_eq_getElem?_getD, List.getElem?_eq_getElem (by omega)]; rfl
  · rfl
theorem same_n (A : Option Addr) (c : Nat) (B : Option Addr) (d n1 n2 : Nat) (l : List Int) (h1 : n1 = l.length) (h2 : n2 = l.length) (w : World) (hA : Kd.C (Kd.int .u8) w A n1 l) (hc : n1 ≤ c) (hB : Kd.C (Kd.int .u8) w B n2 l) (hd : n2 ≤ d) : Calls Try.prog 31 #[.slice A n1 c, .slice B n2 d] w fun e w' => e = .returned (.bool true) ∧ Drawn0 w w' := by
  subst h1
  subst h2
  exact PSp.visorref01_Same.calls A c l B d l true w hA hc hB hd (same_self l)
theorem grow_tests (L RT n0 n1 nb NF dd : Nat) (h8 : 8 ≤ RT) (h192 : RT ≤ 192) (hL : L ≤ 600) (hnb : nb = n0 + n1) (hNF : NF = (L / RT + 1) * RT) (hdd : dd = NF - L) : decide ((nb : Int) < (n0 : Int)) = false ∧ decide ((NF : Int) ≤ (L : Int)) = false ∧ Int.tmod (NF : Int) (RT : Int) = 0 ∧ wrap64 ((NF : Int) - (L : Int)) = (dd : Int) ∧ decide ((RT : Int) < (dd : Int)) = false ∧ ((RT : Int) = 0) = False ∧ ((RT : Int) == 0) = false ∧ n0 ≤ nb := by
  have h1 := Nat.div_mul_le_self L RT
  have h2 := Nat.lt_div_mul_add (a := L) (b := RT) (by omega)
  have h3 : NF = L / RT * RT + RT := by rw [hNF, Nat.add_mul, Nat.one_mul]
  have h4 : NF % RT = 0 := by rw [hNF]; exact Nat.mul_mod_left _ _
  refine ⟨decide_eq_false (by omega), decide_eq_false (by omega), ?_, ?_, decide_eq_false (by omega), by apply eq_false; omega, by rw [beq_eq_false_iff_ne]; omega, by omega⟩
  · rw [Int.tmod_eq_emod_of_nonneg (by omega)]
    have : ((NF % RT : Nat) : Int) = 0 := by rw [h4]; rfl
    exact this
  · clear h4 hNF
    rw [w64 (by omega) (by omega)]; omega
theorem grows_c (A0 : Option Addr) (c0 : Nat) (m : List Int) (r0 : Nat) (mark : Int) (n0 n1 : Nat) (w : World) (hC : Kd.C (Kd.int .u8) w A0 m.length m) (hc0 : m.length ≤ c0) (hmb : IsB m) (hr0 : r0 < 256) (hmk : 0 ≤ mark ∧ mark < 256) (hn0 : n0 < 256) (hn1 : n1 < 256) :
    Calls Try.prog 7 #[.slice A0 m.length c0, .int .u8 (r0 : Int), .int .u8 mark, .agg (cellsOf .u8 [(n0 : Int), (n1 : Int)])] w fun e w' => e = .returned (.bool true) ∧ Below w.heap.size w w' := by
  obtain ⟨q24, hq⟩ : ∃ z, z = r0 % 24 := ⟨_, rfl⟩
  obtain ⟨k8, hk8⟩ : ∃ z, z = 8 * q24 := ⟨_, rfl⟩
  obtain ⟨RT, hRT⟩ : ∃ z, z = 8 + k8 := ⟨_, rfl⟩
  obtain ⟨nb, hnb⟩ : ∃ z, z = n0 + n1 := ⟨_, rfl⟩
  have FF1 := Aside0.mk (grow_nums r0 q24 k8 RT hr0 hq hk8 hRT)
  have FF2 := Aside0.mk (And.intro (small8 r0 hr0) (And.intro (small8 n0 hn0) (And.intro (small8 n1 hn1) (show wrap64 ((n0 : Int) + (n1 : Int)) = (nb : Int) by rw [hnb]; exact wrap_sum n0 n1 hn0 hn1))))
  have hRR := FF1.out.1
  have h8 := FF1.out.2.2.2.2.2.1
  have h192 := FF1.out.2.2.2.2.2.2
  have M1 := Aside0.mk (Mem.new .u8 w 46 [(n0 : Int), (n1 : Int)])
  have HB := Aside0.mk (below_alloc (Below.refl w.heap.size w) (.cells (cellsOf .u8 [(n0 : Int), (n1 : Int)]) 46))
  obtain ⟨L, mm, hL, hm600, HCm, hmmb, hmml, hcase⟩ : ∃ (L : Nat) (mm : List Int), L = mm.length ∧ L ≤ 600 ∧ Kd.C (Kd.int .u8) w A0 L mm ∧ IsB mm ∧ L ≤ c0 ∧ ((600 < m.length ∧ L = 600) ∨ (m.length ≤ 600 ∧ L = m.length)) := by
    by_cases h : 600 < m.length
    · have hl : (m.take 600).length = 600 := by simp; omega
      exact ⟨600, m.take 600, hl.symm, Nat.le_refl _, by have := Kd.C_take hC (show 600 ≤ m.length by omega); rwa [hl] at this, hmb.take _, by omega, .inl ⟨h, rfl⟩⟩
    · exact ⟨m.length, m, rfl, by omega, hC, hmb, hc0, .inr ⟨by omega, rfl⟩⟩
  have HCM := Aside0.mk HCm
  have HLL := Aside0.mk hL
  have HL6 := Aside0.mk (And.intro hm600 hmml)
  have CS := Aside0.mk (fun (n : Nat) (hn : n ≤ 65536) (W : World) (hC2 : Kd.C (Kd.int .u8) W A0 L mm) => SpSum.sponge_Sum.calls A0 c0 mm (RT : Int) mark (n : Int) _ _ W (by rw [← hL]; exact hC2) (by rw [← hL]; exact hmml) (sum_eq mm (RT : Int) mark (n : Int) hRR (by omega) hmmb hmk (by omega)))
  have CF := Aside0.mk (fun (W : World) (hC2 : Kd.C (Kd.int .u8) W A0 L mm) => Sponge.sponge_Fill.calls A0 c0 mm (RT : Int) mark _ _ W (by rw [← hL]; exact hC2) (by rw [← hL]; exact hmml) (fill_eq mm (RT : Int) mark hRR (by omega)))
  simp only [Int.toNat_natCast] at CS CF
  rw [← hL] at CS CF
  have AW := Aside0.mk awake_c
  have HSB := Aside0.mk (show n0 ≤ 65536 ∧ nb ≤ 65536 by omega)
  have HNN := Aside0.mk hnb
  have HRE := Aside0.mk (show (8 : Int) + 8 * (q24 : Int) = (RT : Int) by omega)
  have HLA := Aside0.mk (fun n => sumL_length mm RT mark n hRR)
  have HGR := Aside0.mk (sumL_grow mm RT mark n0 n1 hRR)
  have HFL := Aside0.mk (fillL_length mm RT mark (by omega))
  have HRT := Aside0.mk (And.intro h8 h192)
  obtain ⟨NF, hNF⟩ : ∃ z, z = (L / RT + 1) * RT := ⟨_, rfl⟩
  obtain ⟨pz, hpz⟩ : ∃ z, z = padZ (mm ++ [mark]) RT := ⟨_, rfl⟩
  have HUN := Aside0.mk (show (fillL mm RT mark).set ((fillL mm RT mark).length - 1) (Go.bits .xor .u8 ((fillL mm RT mark).getD ((fillL mm RT mark).length - 1) 0) 128) = pz by rw [hpz]; exact unlast mm RT mark hmmb hmk (by omega))
  have HPZ := Aside0.mk (show pz = (mm ++ [mark]) ++ List.replicate (padN (mm ++ [mark]).length RT) 0 by rw [hpz]; rfl)
  clear hpz
  have HFN := Aside0.mk (show (fillL mm RT mark).length = NF by rw [hNF]; rw [hL]; exact HFL.out)
  obtain ⟨dd, hdd⟩ : ∃ z, z = NF - L := ⟨_, rfl⟩
  have HD := Aside0.mk (grow_tests L RT n0 n1 nb NF dd h8 h192 hm600 hnb hNF hdd)
  have HN0 := Aside0.mk (show RT ≠ 0 ∧ ¬ (nb < n0) ∧ NF ≤ 792 ∧ L < NF by have h1 := Nat.div_mul_le_self L RT; have h2 := Nat.lt_div_mul_add (a := L) (b := RT) (by omega); rw [hNF, Nat.add_mul, Nat.one_mul]; omega)
  have HQ2 := Aside0.mk (show ¬ (RT < dd) ∧ ¬ ((RT : Int) < (dd : Int)) by have h1 := of_decide_eq_false HD.out.2.2.2.2.1; omega)
  clear hNF hdd
  have HMK := Aside0.mk hmk
  have hm0 : (0 : Int) ≤ (m.length : Int) := by omega
  clear hq hk8 hRT hRR hr0 hmk hn0 hn1 hnb hmb hC h8 h192 HCm hmmb hL hm600 hmml
  have hr24 : (24 : Int) ≠ 0 := by decide
  have g0 := fun W (M : Mem .u8 W w.heap.size 46 [(n0 : Int), (n1 : Int)]) => show W.cell? ⟨w.heap.size, 0, none⟩ = some (.int .u8 (n0 : Int)) from M.cell 0 (Nat.zero_lt_succ 1)
  have g1 := fun W (M : Mem .u8 W w.heap.size 46 [(n0 : Int), (n1 : Int)]) => show W.cell? ⟨w.heap.size, 1, none⟩ = some (.int .u8 (n1 : Int)) from M.cell 1 (Nat.lt_succ_self 1)
  have GG := Aside0.mk (And.intro g0 g1)
  clear g0 g1
  have hcases : (600 < m.length ∧ L = 600) ∨ (m.length ≤ 600 ∧ L = m.length) := hcase
  clear hcase
  rcases hcases with ⟨hc1, hc2⟩ | ⟨hc1, hc2⟩
  case' inl => have hgt : (600 : Int) < (m.length : Int) := by omega
  case' inr => have hgt : ¬ (600 : Int) < (m.length : Int) := by omega
  all_goals
    have hc3 : (L : Int) ≤ (c0 : Int) := by have := HL6.out.2; omega
  case' inl => subst hc2
  case' inr => rw [← hc2] at hgt hc0 ⊢; clear hc2
  all_goals
    clear hc1 hm0
    have f1 := FF1.out.2.1
    have f3 := FF1.out.2.2.2.1
    have f4 := FF1.out.2.2.2.2.1
    have f5 := FF2.out.1.1
    have f7 := FF2.out.2.1.1
    have f9 := FF2.out.2.2.1.1
    have f11 := FF2.out.2.2.2
    clear FF1 FF2
    go_enter Try.func7, Try.ntmps7
    go_upto_region 2 with (fail)
    rw [f4]
    clear f1 f3 f4 f5
    have hg0 := GG.out.1 _ M1.out
    have hg1 := GG.out.2 _ M1.out
    go_upto_region 5 with (first
      | (go_at_call 27; (with_reducible refine (CS.out n0 HSB.out.1 _ (Kd.C_below HCM.out HB.out)).mono ?_); rintro e w1 ⟨v1, rfl, hv1, hb1⟩; have M1 := Aside0.mk (Mem.below M1.out hb1); obtain ⟨A1, c1, rfl, hl1, hf1⟩ := hv1; rw [HLA.out] at hl1 ⊢; have HV1 := Aside0.mk (Kd.F_now hf1); have HB := Aside0.mk (below_step HB.out hb1); clear hf1 hb1))
    have hg0 := GG.out.1 _ M1.out
    have hg1 := GG.out.2 _ M1.out
    go_upto_region 6 with (first
      | (go_at_call 27; (with_reducible refine (CS.out nb HSB.out.2 _ (Kd.C_below HCM.out HB.out)).mono ?_); rintro e w1 ⟨v1, rfl, hv1, hb1⟩; have M1 := Aside0.mk (Mem.below M1.out hb1); have HV1 := Aside0.mk (Kd.C_below HV1.out hb1); obtain ⟨A2, c2, rfl, hl2, hf1⟩ := hv1; rw [HLA.out] at hl2 ⊢; have HV2 := Aside0.mk (Kd.F_now hf1); have HB := Aside0.mk (below_step HB.out hb1); clear hf1 hb1))
    go_upto_region 7 with (first
      | (go_at_call 26; (with_reducible refine (CF.out _ (Kd.C_below HCM.out HB.out)).mono ?_); rintro e w1 ⟨v1, rfl, hv1, hb1⟩; have M1 := Aside0.mk (Mem.below M1.out hb1); have HV1 := Aside0.mk (Kd.C_below HV1.out hb1); have HV2 := Aside0.mk (Kd.C_below HV2.out hb1); obtain ⟨A3, c3, rfl, hl3, hf1⟩ := Kd.R_reads hv1; rw [HFN.out] at hl3 ⊢; have HV3 := Aside0.mk hf1; have HB := Aside0.mk (below_step HB.out hb1); clear hv1 hf1 hb1))
    have hg0 := GG.out.1 _ M1.out
    have hd1 := HD.out.1
    have hd2 := HD.out.2.1
    have hd3 := HD.out.2.2.1
    have hd4 := HD.out.2.2.2.1
    have hd5 := HD.out.2.2.2.2.1
    have hd6 := HD.out.2.2.2.2.2.1
    have hd7 := HD.out.2.2.2.2.2.2.1
    first | (have hz4 : wrap64 ((NF : Int) - 600) = (dd : Int) := HD.out.2.2.2.1; have hz2 : (600 : Int) < (NF : Int) := by (have := HN0.out.2.2.2; omega)) | (have hz2 : L < NF := HN0.out.2.2.2)
    have hq3 := HQ2.out.2
    have hq2 := HQ2.out.1
    have hd8 := HN0.out.1
    have hd9 := HN0.out.2.1
    have hdA := HD.out.2.2.2.2.2.2.2
    have hi1 : (n0 : Int) ≤ (c2 : Int) := by have := HD.out.2.2.2.2.2.2.2; omega
    have HVT := Aside0.mk (show Kd.C (Kd.int .u8) _ A2 (sumL mm RT mark n0).length (sumL mm RT mark n0) by
      have h := Kd.C_take HV2.out (m := n0) (by rw [HLA.out]; exact HD.out.2.2.2.2.2.2.2)
      have e : (sumL mm RT mark nb).take n0 = sumL mm RT mark n0 := by rw [HNN.out]; exact HGR.out
      rw [e] at h
      exact h)
    have SAM := Aside0.mk (fun W hA hB => same_c A2 c2 A1 c1 (sumL mm RT mark n0) W hA (by rw [HLA.out]; exact Nat.le_trans HD.out.2.2.2.2.2.2.2 hl2) hB (by rw [HLA.out]; exact hl1))
    rw [HLA.out] at SAM HVT HV1
    have HL1 := Aside0.mk (And.intro hl1 (And.intro hl2 hl3))
    clear HV2 hl1 hl2 hl3 hg1
    go_upto_region 9 with (first
      | (go_at_call 31; (with_reducible refine (SAM.out _ HVT.out HV1.out).mono ?_); rintro e w2 ⟨rfl, hd_⟩; have HV3 := Aside0.mk (Kd.C_below HV3.out hd_.below); have HB := Aside0.mk (below_step HB.out hd_.below); clear hd_))
    clear f7 f9 f11 hg0 hd1 hd2 hd3 hd4 hd5 hd6 hd7 hd8 hd9 hdA hi1 hq2 hq3
    (try clear hz4)
    clear hz2
    have hmc : mark = 0 ∨ (mark ≠ 0 ∧ 128 ≤ mark) ∨ (mark ≠ 0 ∧ mark < 128) := by have := HMK.out; omega
    have AWK := Aside0.mk (fun W (hb : Below w.heap.size w W) => (awake_c W).mono (R' := fun e w' => e = .returned (.bool true) ∧ Below w.heap.size w w') fun e w' h => ⟨h.1, below_step hb h.2⟩)
    clear AW
    rcases hmc with hm1 | ⟨hm1, hm2⟩ | ⟨hm1, hm2⟩
    · have hm3 : ((mark : Int) == 0) = true := by rw [hm1]; rfl
      clear hm1
      go_wp2_with (first
        | (go_at_call 25; (with_reducible refine (AWK.out _ HB.out).mono ?_); rintro e w9 ⟨rfl, hb9⟩; have HB9 := Aside0.mk hb9; clear hb9))
      go_ret
      exact ⟨rfl, HB9.out⟩
    · have hm3 : ((mark : Int) == 0) = false := by rw [beq_eq_false_iff_ne]; exact hm1
      go_wp2_with (first
        | (go_at_call 25; (with_reducible refine (AWK.out _ HB.out).mono ?_); rintro e w9 ⟨rfl, hb9⟩; have HB9 := Aside0.mk hb9; clear hb9))
      go_ret
      exact ⟨rfl, HB9.out⟩
    · have hm3 : ((mark : Int) == 0) = false := by rw [beq_eq_false_iff_ne]; exact hm1
      have hm4 : decide (128 ≤ mark) = false := decide_eq_false (by omega)
      have HMM := Aside0.mk hm1
      clear hm1 hm2
      generalize hfl : fillL mm RT mark = fl at *
      have HFE := Aside0.mk hfl
      clear hfl
      go_upto_region 12 with (first
        | ((with_reducible refine gate_dst (N := 123) rfl ?_); go_loud (refine Kd.R_lit (Kd.int .u8) w.heap.size 5 ?hg (N := 123) ?hd (w0 := w) (xs := ([] : List Int)) (inner := []) (ok := fun k => w.heap.size ≤ k) (okp := fun _ => False) ?hr ?hp (fun _ hk => hk.elim) HB.out.size HB.out HB.out.size (by simp) ?_; (case hd => rfl); (case hg => rfl); (case hr => first | (go_simp; done) | (go_simp; rfl)); (case hp => exact (Reps.none _ _)); intro v5 w3 ho4 hb hg_ hnew_; have HV3 := Aside0.mk (Kd.C_below HV3.out (grown0 hg_)); have HCM2 := Aside0.mk (Kd.C_below HCM.out hb); have HB := Aside0.mk hb; obtain ⟨Av, cv, rfl, hcv, hrd⟩ := Kd.R_reads ho4; have HO := Aside0.mk ho4; clear hb ho4 hg_ hnew_ hrd hcv))
        | ((with_reducible refine gate_builtin (b := .append) (xs := #[.tmp 123, .tmp 124]) rfl ?_); go_loud (refine Kd.R_append_rows (Kd.int .u8) (w0 := w) w.heap.size rfl (.tmp 123) (.tmp 124) 22 5 (.int .u8 0) 1 rfl Try.underlying22 info_u8 rfl (by decide) (by omega) _ [] fl A3 NF c3 (fun k => w.heap.size ≤ k) (fun _ => False) rfl rfl HO.out (by have h := HV3.out; rw [HFN.out] at h; exact h) (fun _ _ h => h) (fun _ h => h.elim) (fun k hk => Nat.le_trans HB.out.size hk) HB.out HB.out.size ?aL ?_; (case aL => have h1_ := HN0.out.2.2.1; have h2_ := HFN.out; simp only [List.length_nil]; omega); intro v6 w5 ho hb hg hat; have HB := Aside0.mk hb; have HO := Aside0.mk (show Kd.R (Kd.int .u8) 5 w5 w.heap.size (fun k => w.heap.size ≤ k) v6 fl from ho); clear ho hb hg hat)))
      obtain ⟨g, cap, hv, hbg, _, _⟩ := Kd.R_form HO.out (by rw [HFN.out]; exact Nat.lt_of_le_of_lt (Nat.zero_le _) HN0.out.2.2.2)
      rw [HFN.out] at hv
      subst hv
      have HG := Aside0.mk hbg
      have HCP := Aside0.mk (Kd.R_reads' HO.out).2.1
      have hN0 := HN0.out.2.2.2
      have hN1 : (0 : Int) ≤ ((NF - 1 : Nat) : Int) := Int.natCast_nonneg _
      have hN2 : ((NF - 1 : Nat) : Int) < (NF : Int) := by omega
      have hN3 : (0 : Int) ≤ (NF : Int) - 1 := by omega
      have hN4 : (1 : Int) ≤ (NF : Int) := by omega
      have hN5 : NF ≤ 792 := HN0.out.2.2.1
      obtain ⟨hx0, hf⟩ := Kd.R_celln (0 : Int) HO.out ((NF - 1 : Nat) : Int) hN1 hN2
      rw [Int.toNat_natCast] at hx0 hf
      have hx := show _ = some (Value.int .u8 (fl.getD ((NF - 1 : Nat) : Int).toNat 0)) from hx0
      rw [Int.toNat_natCast] at hx
      have h3 := (Kd.R_putg HO.out ((NF - 1 : Nat) : Int) (Go.bits .xor .u8 (fl.getD (NF - 1) 0) 128)).1
      rw [Int.toNat_natCast] at h3
      have hun : fl.set (NF - 1) (Go.bits .xor .u8 (fl.getD (NF - 1) 0) 128) = pz := by rw [← HFN.out]; exact HUN.out
      rw [hun] at h3
      have HO2 := Aside0.mk h3
      clear h3 hun hx0 hbg HO hN0
      go_wp2
      rw [List.getD_eq_getElem?_getD] at HO2
      have HB := Aside0.mk (below_set (j := NF - 1) (v := Value.int .u8 (Go.bits .xor .u8 (fl[NF - 1]?.getD 0) 128)) HB.out HG.out)
      clear hx hf
      generalize hwx : World.setCell w5 _ _ = wx at *
      have HCM2 := Aside0.mk (show Kd.C (Kd.int .u8) wx A0 _ mm from Kd.C_below HCM.out HB.out)
      clear hwx
      have HPV := Aside0.mk (fun p (hp : mm.length ≤ p) => show pz.getD p 0 = if p = mm.length then mark else 0 by
        rw [HPZ.out]
        rw [List.getD_eq_getElem?_getD]
        split
        · rename_i e
          subst e
          rw [List.getElem?_append_left (by simp), List.getElem?_append_right (Nat.le_refl _), Nat.sub_self]; rfl
        · rename_i e
          rw [List.getElem?_append_right (by simp; omega), List.getElem?_replicate]
          split <;> rfl)
      have HPT := Aside0.mk (show pz.take mm.length = mm by rw [HPZ.out, List.append_assoc, List.take_left'] ; rfl)
      have HPN := Aside0.mk (show mm.length < NF by rw [← HLL.out]; exact HN0.out.2.2.2)
      clear hm3 hm4
      go_loop [17] (fun av => ∃ p : Nat, mm.length ≤ p ∧ p < NF ∧ av = .int .i64 (p : Int)) (fun av => (intOf av).toNat)
      case atStart => exact ⟨NF - 1, by have := HPN.out; omega, by have := HPN.out; omega, by congr 1; have := HPN.out; omega⟩
      case round =>
        obtain ⟨p, hp1, hp2, rfl⟩ := hrel
        have hp3 : (0 : Int) ≤ (p : Int) := Int.natCast_nonneg _
        have hp4 : (p : Int) < (NF : Int) := by omega
        obtain ⟨hy0, _⟩ := Kd.R_celln (0 : Int) HO2.out (p : Int) hp3 hp4
        rw [Int.toNat_natCast] at hy0
        have hy := show _ = some (Value.int .u8 (pz.getD (p : Int).toNat 0)) from hy0
        rw [Int.toNat_natCast, HPV.out p hp1] at hy
        clear hy0
        have HPP := Aside0.mk (And.intro hp1 hp2)
        by_cases hpe : p = mm.length
        · rw [if_pos hpe] at hy
          have hq1 : ((mark : Int) == 0) = false := by rw [beq_eq_false_iff_ne]; exact HMM.out
          have hq2 : ((mark : Int) == (mark : Int)) = true := by simp
          have hq3 : (p : Int) ≤ (cap : Int) := by have := HCP.out; omega
          have hq4 : (p : Int) ≤ (NF : Int) := by omega
          have HTK := Aside0.mk (show Kd.C (Kd.int .u8) wx (some ⟨g, 0, none⟩) p mm by
            have h := (Kd.R_reads' (Kd.R_take (m := p) HO2.out (by have := (Kd.R_reads' HO2.out).1; omega))).2.2
            rw [hpe, HPT.out] at h
            rw [hpe]
            exact h)
          have SM2 := Aside0.mk (fun W hA hB => same_n (some ⟨g, 0, none⟩) cap A0 c0 p _ mm hpe HLL.out W hA (by have := HCP.out; omega) hB HL6.out.2)
          have hzp : p = 0 ∨ 0 < p := by omega
          clear hp1 hp2 hpe
          rcases hzp with hz | hz
          · subst hz
            go_wp2_with (first
              | (go_at_call 31; (with_reducible refine (SM2.out _ HTK.out HCM2.out).mono ?_); rintro e w2 ⟨rfl, hd_⟩; have HB := Aside0.mk (below_step HB.out hd_.below); clear hd_)
              | (go_at_call 25; (with_reducible refine (AWK.out _ HB.out).mono ?_); rintro e w9 ⟨rfl, hb9⟩; have HB9 := Aside0.mk hb9; clear hb9))
            go_ret
            exact ⟨rfl, HB9.out⟩
          · have hz1 : (0 : Int) < (p : Int) := by omega
            go_wp2_with (first
              | (go_at_call 31; (with_reducible refine (SM2.out _ HTK.out HCM2.out).mono ?_); rintro e w2 ⟨rfl, hd_⟩; have HB := Aside0.mk (below_step HB.out hd_.below); clear hd_)
              | (go_at_call 25; (with_reducible refine (AWK.out _ HB.out).mono ?_); rintro e w9 ⟨rfl, hb9⟩; have HB9 := Aside0.mk hb9; clear hb9))
            go_ret
            exact ⟨rfl, HB9.out⟩
        · rw [if_neg hpe] at hy
          have hz1 : (0 : Int) < (p : Int) := by omega
          have HPE := Aside0.mk hpe
          clear hp1 hp2 hpe
          go_wp2
          go_round
          case rel => exact ⟨p - 1, by have := HPP.out; have := HPE.out; omega, by have := HPP.out; omega, by congr 1; first | omega | (unfold wrap64; omega)⟩
          case measure => simp [intOf]; omega
theorem grows_walk (a0 : Option Addr) (len0 cap0 : Nat) (z0 : List Int) (a1 a2 : Int) (l3 : List Int) (w : World) (w0 : Slices.IsRow .u8 w a0 len0 cap0 z0) (y0 : len0 * 1 ≤ 140737488351232) (w1 : (Lit.int .u8 a1).wf = true) (w2 : (Lit.int .u8 a2).wf = true) (n3 : l3.length = 2) (w3 : ∀ x ∈ l3, (Lit.int .u8 x).wf = true) :
    Calls Try.prog 7 #[.slice a0 len0 cap0, .int .u8 a1, .int .u8 a2, arrV .u8 l3] w fun e w' => e = .returned (.bool true) ∧ Below w.heap.size w w' := by
  obtain ⟨hsl, hlen, hwf⟩ := w0.sl
  obtain ⟨A, c, hv, hc, hC⟩ := hsl
  injection hv with e1 e2 e3
  subst e1
  subst e3
  have hb1 := Byte.wf_u8 w1
  obtain ⟨r0, rfl⟩ : ∃ q : Nat, a1 = (q : Int) := ⟨a1.toNat, by omega⟩
  match l3, n3 with
  | [x, y], _ =>
    have hx := Byte.wf_u8 (w3 x (by simp))
    have hy := Byte.wf_u8 (w3 y (by simp))
    obtain ⟨n0, rfl⟩ : ∃ q : Nat, x = (q : Int) := ⟨x.toNat, by omega⟩
    obtain ⟨n1, rfl⟩ : ∃ q : Nat, y = (q : Int) := ⟨y.toNat, by omega⟩
    rw [arrV_eq]
    have h := grows_c a0 cap0 (z0.take len0) r0 a2 n0 n1 w hC hc (IsB.of_wf hwf) (by omega) (Byte.wf_u8 w2) (by omega) (by omega)
    rw [hlen] at h
    exact h
end Go.Proofs.Ythijjpiddelefaa.SpGrow
