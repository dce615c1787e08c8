/-
  What the printed functions over traces come to. Plain; no condition.
-/
import Derived.Test.YtphdlidaigalkaaSameT
namespace Go.Proofs.Ytphdlidaigalkaa.TrMath
open Go.RowKit Go.Proofs.Ytphdlidaigalkaa.PTt Go.Proofs.YtphdlidaigalkaaW.PrintWords Go.Proofs.YtphdlidaigalkaaW.PrintLast Go.Proofs.YtphdlidaigalkaaW.PrintMore Gives Byte RightT Mem Arr TallyT SameT
set_option linter.unusedVariables false
set_option linter.unusedSimpArgs false
/-! ### may a trace be -/
def spanOk (s : S38) (last : Int) (n : Nat) : Bool := decide (1 ≤ s.f0 ∧ s.f0 ≤ 3 ∧ last ≤ s.f1 ∧ s.f1 < s.f2 ∧ s.f2 ≤ (n : Int))
def ordF (n : Nat) (l2 : List S38) : Nat → Nat → Int → Bool
  | 0, _, _ => true
  | k + 1, j, last => spanOk (rd_T38 l2 (j : Int)) last n && ordF n l2 k (j + 1) (rd_T38 l2 (j : Int)).f2
def okOp (n : Int) (l1 : List S53) (j : Nat) : Bool := rightB (rd_T53 l1 (j : Int)).f0 (rd_T53 l1 (j : Int)).f1 (rd_T53 l1 (j : Int)).f2 (rd_T53 l1 (j : Int)).f3 (rd_T53 l1 (j : Int)).f4 (rd_T53 l1 (j : Int)).f5 (j : Int) n
def opsF (n : Int) (l1 : List S53) : Nat → Nat → Int → Bool
  | 0, _, _ => true
  | k + 1, j, word => okOp n l1 j && (if (rd_T53 l1 (j : Int)).f0 = 2 then (if (rd_T53 l1 (j : Int)).f5 = word then opsF n l1 k (j + 1) (IntKind.u64.wrap (word + 1)) else false) else opsF n l1 k (j + 1) word)
def rightT (n : Int) (l1 : List S53) (l2 : List S38) : Bool := decide ((n = 2 ∨ n = 3) ∧ l1.length ≤ 1048576) && (opsF n l1 l1.length 0 0 && ordF l1.length l2 l2.length 0 0)
theorem spanOk_if {α : Type} (s : S38) (last : Int) (n : Nat) (a b : α) : (if s.f0 < 1 then a else if s.f0 > 3 then a else if s.f1 < last then a else if s.f2 ≤ s.f1 then a else if s.f2 > (n : Int) then a else b) = if spanOk s last n = true then b else a := by
  unfold spanOk
  by_cases h : 1 ≤ s.f0 ∧ s.f0 ≤ 3 ∧ last ≤ s.f1 ∧ s.f1 < s.f2 ∧ s.f2 ≤ (n : Int)
  · rw [decide_eq_true h, if_pos rfl, if_neg (by omega), if_neg (by omega), if_neg (by omega), if_neg (by omega), if_neg (by omega)]
  · rw [decide_eq_false h, if_neg Bool.false_ne_true]
    by_cases h1 : s.f0 < 1
    · rw [if_pos h1]
    · rw [if_neg h1]
      by_cases h2 : s.f0 > 3
      · rw [if_pos h2]
      · rw [if_neg h2]
        by_cases h3 : s.f1 < last
        · rw [if_pos h3]
        · rw [if_neg h3]
          by_cases h4 : s.f2 ≤ s.f1
          · rw [if_pos h4]
          · rw [if_neg h4, if_pos (by omega)]
theorem ord_ev (n : Int) (l1 : List S53) (l2 : List S38) (hL : l2.length ≤ 140737488351232) : ∀ k j last, j + k = l2.length → Ev (fun q => trace_ordered.l0 q last l2 (l2.length : Int) (j : Int) n l1 l2) (ordF l1.length l2 k j last)
  | 0, j, last, h => by
    refine Ev.step (f := fun q => some true) (fun q => ?_) (Ev.now _)
    simp only [trace_ordered.l0]
    rw [if_neg (by omega)]
  | k + 1, j, last, h => by
    refine Ev.step (f := fun q => if spanOk (rd_T38 l2 (j : Int)) last l1.length = true then trace_ordered.l0 q (rd_T38 l2 (j : Int)).f2 l2 (l2.length : Int) ((j + 1 : Nat) : Int) n l1 l2 else some false) (fun q => ?_) ?_
    · simp only [trace_ordered.l0]
      rw [if_pos (by omega), if_pos (by omega), if_pos (by omega), w64 (by omega) (by omega)]
      exact spanOk_if _ _ _ _ _
    · unfold ordF
      cases spanOk (rd_T38 l2 (j : Int)) last l1.length
      · exact Ev.congr (f := fun q => some false) (fun q => by simp) (by simpa using Ev.now false)
      · exact Ev.congr (f := fun q => trace_ordered.l0 q (rd_T38 l2 (j : Int)).f2 l2 (l2.length : Int) ((j + 1 : Nat) : Int) n l1 l2) (fun q => by simp) (by simpa using ord_ev n l1 l2 hL k (j + 1) _ (by omega))
theorem rord_ev (n : Int) (l1 : List S53) (l2 : List S38) (hL : l2.length ≤ 140737488351232) : ∀ k j last, j + k = l2.length → Ev (fun q => visorref18_Right.l1 q last (j : Int) n l1 l2) (ordF l1.length l2 k j last)
  | 0, j, last, h => by
    refine Ev.step (f := fun q => some true) (fun q => ?_) (Ev.now _)
    simp only [visorref18_Right.l1]
    rw [if_neg (by omega)]
  | k + 1, j, last, h => by
    refine Ev.step (f := fun q => if spanOk (rd_T38 l2 (j : Int)) last l1.length = true then visorref18_Right.l1 q (rd_T38 l2 (j : Int)).f2 ((j + 1 : Nat) : Int) n l1 l2 else some false) (fun q => ?_) ?_
    · simp only [visorref18_Right.l1]
      rw [if_pos (by omega), if_pos (by omega), w64 (by omega) (by omega)]
      exact spanOk_if _ _ _ _ _
    · unfold ordF
      cases spanOk (rd_T38 l2 (j : Int)) last l1.length
      · exact Ev.congr (f := fun q => some false) (fun q => by simp) (by simpa using Ev.now false)
      · exact Ev.congr (f := fun q => visorref18_Right.l1 q (rd_T38 l2 (j : Int)).f2 ((j + 1 : Nat) : Int) n l1 l2) (fun q => by simp) (by simpa using rord_ev n l1 l2 hL k (j + 1) _ (by omega))
theorem ops_ev (n : Int) (l1 : List S53) (l2 : List S38) (hL : l1.length ≤ 140737488351232) : ∀ k j word, j + k = l1.length → Ev (fun q => trace_Check.l0 q word l1 (l1.length : Int) (j : Int) n l1 l2) (if opsF n l1 k j word = true then 0 else 4)
  | 0, j, word, h => by
    refine Ev.step (f := fun q => some 0) (fun q => ?_) (Ev.now _)
    simp only [trace_Check.l0]
    rw [if_neg (by omega)]
  | k + 1, j, word, h => by
    refine Ev.step (f := fun q => if okOp n l1 j = true then (if (rd_T53 l1 (j : Int)).f0 = 2 then (if (rd_T53 l1 (j : Int)).f5 = word then trace_Check.l0 q (IntKind.u64.wrap (word + 1)) l1 (l1.length : Int) ((j + 1 : Nat) : Int) n l1 l2 else some 4) else trace_Check.l0 q word l1 (l1.length : Int) ((j + 1 : Nat) : Int) n l1 l2) else some 4) (fun q => ?_) ?_
    · simp only [trace_Check.l0]
      rw [if_pos (by omega), if_pos (by omega), if_pos (by omega), w64 (by omega) (by omega)]
      rfl
    · unfold opsF
      cases okOp n l1 j
      · exact Ev.congr (f := fun q => some 4) (fun q => by simp) (by simpa using Ev.now (4 : Int))
      · by_cases h2 : (rd_T53 l1 (j : Int)).f0 = 2
        · by_cases h3 : (rd_T53 l1 (j : Int)).f5 = word
          · exact Ev.congr (f := fun q => trace_Check.l0 q (IntKind.u64.wrap (word + 1)) l1 (l1.length : Int) ((j + 1 : Nat) : Int) n l1 l2) (fun q => by simp only [h2, h3, if_true]) (by simpa only [h2, h3, if_true, Bool.true_and] using ops_ev n l1 l2 hL k (j + 1) _ (by omega))
          · exact Ev.congr (f := fun q => some 4) (fun q => by rw [if_pos rfl, if_pos h2, if_neg h3]) (by rw [if_pos h2, if_neg h3]; exact Ev.now (4 : Int))
        · exact Ev.congr (f := fun q => trace_Check.l0 q word l1 (l1.length : Int) ((j + 1 : Nat) : Int) n l1 l2) (fun q => by rw [if_pos rfl, if_neg h2]) (by rw [if_neg h2, Bool.true_and]; exact ops_ev n l1 l2 hL k (j + 1) _ (by omega))
theorem rops_ev (n : Int) (l1 : List S53) (l2 : List S38) (hL : l1.length ≤ 140737488351232) (hL2 : l2.length ≤ 140737488351232) : ∀ k j word, j + k = l1.length → Ev (fun q => visorref18_Right.l0 q word (j : Int) n l1 l2) (opsF n l1 k j word && ordF l1.length l2 l2.length 0 0)
  | 0, j, word, h => by
    refine Ev.step (f := fun q => visorref18_Right.l1 q 0 0 n l1 l2) (fun q => ?_) (rord_ev n l1 l2 hL2 l2.length 0 0 (by omega))
    simp only [visorref18_Right.l0]
    rw [if_neg (by omega)]
  | k + 1, j, word, h => by
    refine Ev.step (f := fun q => if okOp n l1 j = true then (if (rd_T53 l1 (j : Int)).f0 = 2 then (if (rd_T53 l1 (j : Int)).f5 = word then visorref18_Right.l0 q (IntKind.u64.wrap (word + 1)) ((j + 1 : Nat) : Int) n l1 l2 else some false) else visorref18_Right.l0 q word ((j + 1 : Nat) : Int) n l1 l2) else some false) (fun q => ?_) ?_
    · simp only [visorref18_Right.l0]
      rw [if_pos (by omega), if_pos (by omega), w64 (by omega) (by omega)]
      rfl
    · unfold opsF
      cases okOp n l1 j
      · exact Ev.congr (f := fun q => some false) (fun q => by simp) (by simpa using Ev.now false)
      · by_cases h2 : (rd_T53 l1 (j : Int)).f0 = 2
        · by_cases h3 : (rd_T53 l1 (j : Int)).f5 = word
          · exact Ev.congr (f := fun q => visorref18_Right.l0 q (IntKind.u64.wrap (word + 1)) ((j + 1 : Nat) : Int) n l1 l2) (fun q => by simp only [h2, h3, if_true]) (by simpa only [h2, h3, if_true, Bool.true_and] using rops_ev n l1 l2 hL hL2 k (j + 1) _ (by omega))
          · exact Ev.congr (f := fun q => some false) (fun q => by rw [if_pos rfl, if_pos h2, if_neg h3]) (by rw [if_pos h2, if_neg h3]; exact Ev.now false)
        · exact Ev.congr (f := fun q => visorref18_Right.l0 q word ((j + 1 : Nat) : Int) n l1 l2) (fun q => by rw [if_pos rfl, if_neg h2]) (by rw [if_neg h2, Bool.true_and]; exact rops_ev n l1 l2 hL hL2 k (j + 1) _ (by omega))
theorem right_ev (n : Int) (l1 : List S53) (l2 : List S38) (hL : l1.length ≤ 140737488351232) (hL2 : l2.length ≤ 140737488351232) : Ev (fun q => visorref18_Right.f q n l1 l2) (rightT n l1 l2) := by
  have hin : l1.length ≤ 1048576 → Ev (fun q => visorref18_Right.j0 q (decide ((l1.length : Int) > 1048576)) n l1 l2) (opsF n l1 l1.length 0 0 && ordF l1.length l2 l2.length 0 0) := fun h => by
    refine Ev.step (f := fun q => visorref18_Right.l0 q 0 0 n l1 l2) (fun q => ?_) (rops_ev n l1 l2 hL hL2 l1.length 0 0 (by omega))
    simp only [visorref18_Right.j0]
    rw [if_neg (by simp; omega)]
  have hout : ∀ b : Bool, b = true → Ev (fun q => visorref18_Right.j0 q b n l1 l2) false := fun b hb => by
    refine Ev.step (f := fun q => some false) (fun q => ?_) (Ev.now _)
    simp only [visorref18_Right.j0]
    rw [if_pos hb]
  unfold rightT
  by_cases hn : n = 2 ∨ n = 3
  · refine Ev.congr (f := fun q => visorref18_Right.j0 q (decide ((l1.length : Int) > 1048576)) n l1 l2) (fun q => ?_) ?_
    · unfold visorref18_Right.f
      rcases hn with h | h
      · rw [if_pos h]
      · rw [if_neg (by omega), if_pos h]
    · by_cases hl : l1.length ≤ 1048576
      · rw [(show decide ((n = 2 ∨ n = 3) ∧ l1.length ≤ 1048576) = true from decide_eq_true (by exact ⟨hn, hl⟩)), Bool.true_and]; exact hin hl
      · rw [(show decide ((n = 2 ∨ n = 3) ∧ l1.length ≤ 1048576) = false from decide_eq_false (by omega)), Bool.false_and]; exact hout _ (decide_eq_true (by omega))
  · rw [(show decide ((n = 2 ∨ n = 3) ∧ l1.length ≤ 1048576) = false from decide_eq_false (by omega)), Bool.false_and]
    refine Ev.congr (f := fun q => visorref18_Right.j0 q true n l1 l2) (fun q => ?_) (hout _ rfl)
    unfold visorref18_Right.f
    rw [if_neg (by omega), if_neg (by omega)]
theorem check_ev (n : Int) (l1 : List S53) (l2 : List S38) (hL : l1.length ≤ 140737488351232) (hL2 : l2.length ≤ 140737488351232) : Ev (fun q => trace_Check.f q n l1 l2) (if rightT n l1 l2 = true then 0 else 4) := by
  have hj : ∀ b : Bool, Ev (fun q => trace_Check.j0 q (!b) n l1 l2) (if (opsF n l1 l1.length 0 0 && b) = true then 0 else 4) := fun b => by
    cases b
    · refine Ev.step (f := fun q => some 4) (fun q => ?_) (by simpa using Ev.now (4 : Int))
      simp only [trace_Check.j0]; rfl
    · refine Ev.step (f := fun q => trace_Check.l0 q 0 l1 (l1.length : Int) 0 n l1 l2) (fun q => ?_) (by rw [Bool.and_true]; exact ops_ev n l1 l2 hL l1.length 0 0 (by omega))
      simp only [trace_Check.j0]; rfl
  have hout : Ev (fun q => trace_Check.j0 q true n l1 l2) 4 := by
    refine Ev.step (f := fun q => some 4) (fun q => ?_) (Ev.now _)
    simp only [trace_Check.j0]; rfl
  unfold rightT
  by_cases hn : n = 2 ∨ n = 3
  · by_cases hl : l1.length ≤ 1048576
    · refine Ev.congr (f := fun q => (trace_ordered.f q n l1 l2).bind fun t => trace_Check.j0 q (!t) n l1 l2) (fun q => ?_) ?_
      · unfold trace_Check.f
        rcases hn with h | h
        · rw [if_pos h, if_neg (by omega)]
        · rw [if_neg (by omega), if_pos h, if_neg (by omega)]
      · rw [(show decide ((n = 2 ∨ n = 3) ∧ l1.length ≤ 1048576) = true from decide_eq_true (by exact ⟨hn, hl⟩)), Bool.true_and]
        exact Ev.bind (f := fun q t => trace_Check.j0 q (!t) n l1 l2) (ord_ev n l1 l2 hL2 l2.length 0 0 (by omega)) (hj _)
    · refine Ev.congr (f := fun q => trace_Check.j0 q true n l1 l2) (fun q => ?_) (by rw [(show decide ((n = 2 ∨ n = 3) ∧ l1.length ≤ 1048576) = false from decide_eq_false (by omega)), Bool.false_and]; simpa using hout)
      unfold trace_Check.f
      rcases hn with h | h
      · rw [if_pos h, if_pos (by omega)]
      · rw [if_neg (by omega), if_pos h, if_pos (by omega)]
  · refine Ev.congr (f := fun q => trace_Check.j0 q true n l1 l2) (fun q => ?_) (by rw [(show decide ((n = 2 ∨ n = 3) ∧ l1.length ≤ 1048576) = false from decide_eq_false (by omega)), Bool.false_and]; simpa using hout)
    unfold trace_Check.f
    rw [if_neg (by omega), if_neg (by omega)]
theorem awake_ev : Ev (fun q => visorlaw18_awake.f q) true := by
  unfold visorlaw18_awake.f
  refine Ev.bind (f := fun q t135 => if t135 = 0 then ((trace_Check.f q 0 ([] : List (S53)) ([] : List (S38))).bind fun t136 => (some (t136 == 4))) else (some false)) (check_ev 2 [] [] (by decide) (by decide)) ?_
  have h1 : rightT 2 [] [] = true := by decide
  have h2 : rightT 0 [] [] = false := by decide
  rw [h1]
  simp only [if_true]
  refine Ev.bind (f := fun _ t136 => some (t136 == 4)) (check_ev 0 [] [] (by decide) (by decide)) ?_
  rw [h2]
  exact Ev.now true
/-! ### what is opened -/
def opensF (l1 : List S53) : Nat → Nat → List Int → List Int
  | 0, _, x => x
  | k + 1, j, x => opensF l1 k (j + 1) (if (rd_T53 l1 (j : Int)).f0 = 12 then x ++ [(j : Int)] else x)
theorem opens_ev (l1 : List S53) (hL : l1.length ≤ 8796093022208) : ∀ k j x, j + k = l1.length → x.length ≤ j → Ev (fun q => trace_Opens.l0 q x l1 (l1.length : Int) (j : Int)) (opensF l1 k j x)
  | 0, j, x, h, hx => by
    refine Ev.step (f := fun q => some x) (fun q => ?_) (Ev.now _)
    simp only [trace_Opens.l0]
    rw [if_neg (by omega)]
  | k + 1, j, x, h, hx => by
    unfold opensF
    by_cases h2 : (rd_T53 l1 (j : Int)).f0 = 12
    · rw [if_pos h2]
      refine Ev.step (f := fun q => trace_Opens.l0 q (x ++ [(j : Int)]) l1 (l1.length : Int) ((j + 1 : Nat) : Int)) (fun q => ?_) (opens_ev l1 hL k (j + 1) _ (by omega) (by simp; omega))
      simp only [trace_Opens.l0]
      rw [if_pos (by omega), if_pos (by omega), if_pos (by omega), if_pos h2, if_pos (by omega), w64 (by omega) (by omega)]; rfl
    · rw [if_neg h2]
      refine Ev.step (f := fun q => trace_Opens.l0 q x l1 (l1.length : Int) ((j + 1 : Nat) : Int)) (fun q => ?_) (opens_ev l1 hL k (j + 1) _ (by omega) (by omega))
      simp only [trace_Opens.l0]
      rw [if_pos (by omega), if_pos (by omega), if_pos (by omega), if_neg h2, w64 (by omega) (by omega)]; rfl
theorem ropens_ev (n : Int) (l1 : List S53) (l2 : List S38) (hL : l1.length ≤ 8796093022208) : ∀ k j x, j + k = l1.length → x.length ≤ j → Ev (fun q => visorref18_Opens.l0 q x (j : Int) n l1 l2) (opensF l1 k j x)
  | 0, j, x, h, hx => by
    refine Ev.step (f := fun q => some x) (fun q => ?_) (Ev.now _)
    simp only [visorref18_Opens.l0]
    rw [if_neg (by omega)]
  | k + 1, j, x, h, hx => by
    unfold opensF
    by_cases h2 : (rd_T53 l1 (j : Int)).f0 = 12
    · rw [if_pos h2]
      refine Ev.step (f := fun q => visorref18_Opens.l0 q (x ++ [(j : Int)]) ((j + 1 : Nat) : Int) n l1 l2) (fun q => ?_) (ropens_ev n l1 l2 hL k (j + 1) _ (by omega) (by simp; omega))
      simp only [visorref18_Opens.l0]
      rw [if_pos (by omega), if_pos (by omega), if_pos h2, if_pos (by omega), w64 (by omega) (by omega)]; rfl
    · rw [if_neg h2]
      refine Ev.step (f := fun q => visorref18_Opens.l0 q x ((j + 1 : Nat) : Int) n l1 l2) (fun q => ?_) (ropens_ev n l1 l2 hL k (j + 1) _ (by omega) (by omega))
      simp only [visorref18_Opens.l0]
      rw [if_pos (by omega), if_pos (by omega), if_neg h2, w64 (by omega) (by omega)]; rfl
def opensL (l1 : List S53) : List Int := opensF l1 l1.length 0 []
theorem opensF_length (l1 : List S53) : ∀ k j x, (opensF l1 k j x).length ≤ x.length + k
  | 0, j, x => by simp [opensF]
  | k + 1, j, x => by
    unfold opensF
    refine Nat.le_trans (opensF_length l1 k (j + 1) _) ?_
    split <;> simp <;> omega
theorem ints_l0 (l : List Int) (hL : l.length ≤ 140737488351232) : ∀ k j, j + k = l.length → Ev (fun q => visorref18_Ints.l0 q l l (j : Int)) true
  | 0, j, h => by
    refine Ev.step (f := fun q => some true) (fun q => ?_) (Ev.now _)
    simp only [visorref18_Ints.l0]
    rw [if_neg (by omega)]
  | k + 1, j, h => by
    refine Ev.step (f := fun q => visorref18_Ints.l0 q l l ((j + 1 : Nat) : Int)) (fun q => ?_) (ints_l0 l hL k (j + 1) (by omega))
    simp only [visorref18_Ints.l0]
    rw [if_pos (by omega), if_pos (by omega), if_pos (by omega), if_pos trivial, w64 (by omega) (by omega)]; rfl
theorem ints_ev (l : List Int) (hL : l.length ≤ 140737488351232) : Ev (fun q => visorref18_Ints.f q l l) true := by
  refine Ev.congr (f := fun q => visorref18_Ints.l0 q l l 0) (fun q => ?_) (ints_l0 l hL l.length 0 (by omega))
  unfold visorref18_Ints.f
  rw [if_pos rfl]
end Go.Proofs.Ytphdlidaigalkaa.TrMath
