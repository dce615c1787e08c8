/-
  CodeLists: strings that are joined are split as they were; what is split is joined as it was: for any strings, and any bytes. The plain statement, and the walk that it gives.
-/
import Derived.Test.YthijjpiddelefaaCodeEval
import Derived.Test.YthijjpiddelefaaPCodex6
import Derived.Test.YthijjpiddelefaaRowsArg
import Derived.Test.YthijjpiddelefaaSlices
namespace Go.Proofs.Ythijjpiddelefaa.Pure
open Go.RowKit Go.Proofs.Ythijjpiddelefaa.PCode Go.Proofs.YthijjpiddelefaaW.PrintWords Go.Proofs.YthijjpiddelefaaW.PrintLast Byte CodeMath CodeEval Concat
set_option linter.unusedVariables false
def joinL (l : List (List Int)) : List Int := (l.map strL).flatten
theorem joinL_cons (x : List Int) (l : List (List Int)) : joinL (x :: l) = strL x ++ joinL l := rfl
theorem strL_pos (l : List Int) : 2 ≤ (strL l).length := by
  unfold strL
  have := digs_pos (8 * l.length)
  rw [List.length_append, leftL_len]
  omega
theorem strL_len (l : List Int) (h : l.length ≤ 100000000) : (strL l).length ≤ l.length + 9 := by
  unfold strL
  have := leftL_le (n := 8 * l.length) (by omega)
  rw [List.length_append]
  omega
theorem flatten_le (m : Nat) : ∀ l : List (List Int), (∀ x ∈ l, x.length ≤ m) → l.flatten.length ≤ l.length * m
  | [], _ => by simp
  | x :: l, h => by
    have h1 := flatten_le m l (fun y hy => h y (List.mem_cons_of_mem _ hy))
    have h2 := h x (List.mem_cons_self ..)
    rw [List.flatten_cons, List.length_append, List.length_cons, Nat.succ_mul]
    omega
theorem joinL_inj : ∀ a b : List (List Int), (∀ x ∈ a, x.length ≤ 500000000) → (∀ x ∈ b, x.length ≤ 500000000) → joinL a = joinL b → a = b
  | [], [], _, _, _ => rfl
  | [], y :: b, _, _, h => by
    have h1 : (joinL (y :: b)).length = 0 := by rw [← h]; rfl
    have := strL_pos y
    rw [joinL_cons, List.length_append] at h1
    omega
  | x :: a, [], _, _, h => by
    have h1 : (joinL (x :: a)).length = 0 := by rw [h]; rfl
    have := strL_pos x
    rw [joinL_cons, List.length_append] at h1
    omega
  | x :: a, y :: b, ha, hb, h => by
    rw [joinL_cons, joinL_cons] at h
    obtain ⟨h1, h2⟩ := str_apart (ha x (List.mem_cons_self ..)) (hb y (List.mem_cons_self ..)) h
    rw [h1, joinL_inj a b (fun z hz => ha z (List.mem_cons_of_mem _ hz)) (fun z hz => hb z (List.mem_cons_of_mem _ hz)) h2]
/-- Bytes of which strings can be split off, to the end. -/
inductive Good : List Int → Prop
  | nil : Good []
  | cons {l : List Int} (n : Nat) (h : Puts l n) (g : Good (l.drop ((leftL (8 * n)).length + n))) : Good l
theorem Good.next {l : List Int} {n : Nat} (h : Puts l n) (g : Good l) : Good (l.drop ((leftL (8 * n)).length + n)) := by
  cases g with
  | nil => have := h.2.1; rw [leftL_len] at this; simp at this
  | cons m hm g => rw [h.uniq hm]; exact g
theorem Good.none {l : List Int} (h : ∀ n, ¬ Puts l n) (h0 : l ≠ []) : ¬ Good l := fun g => by
  cases g with
  | nil => exact h0 rfl
  | cons m hm _ => exact h m hm
theorem good_join : ∀ l : List (List Int), (∀ x ∈ l, x.length ≤ 500000000) → Good (joinL l)
  | [], _ => Good.nil
  | x :: l, h => by
    rw [joinL_cons]
    refine Good.cons x.length (puts_str x (joinL l) (h x (List.mem_cons_self ..))) ?_
    have e : strL x ++ joinL l = leftL (8 * x.length) ++ (x ++ joinL l) := by unfold strL; rw [List.append_assoc]
    rw [e, ← List.drop_drop, List.drop_left, List.drop_left]
    exact good_join l (fun y hy => h y (List.mem_cons_of_mem _ hy))
theorem rd_at (l : List (List Int)) (i : Nat) (h : i < l.length) : rd_L1 l (i : Int) = l[i] := by
  unfold rd_L1
  rw [Int.toNat_natCast, List.getD_eq_getElem?_getD, List.getElem?_eq_getElem h]; rfl
theorem cjoin_ev (l : List (List Int)) (hl : l.length ≤ 4000) (hb : ∀ x ∈ l, x.length ≤ 20000) : Ev (fun k => code_Join.f k l) (joinL l) := by
  have key : ∀ d i : Nat, i + d = l.length → Ev (fun k => code_Join.l0 k ((l.take i).map strL) l (l.length : Int) (i : Int)) (joinL l) := by
    intro d
    induction d with
    | zero =>
      intro i hi
      obtain rfl : i = l.length := by omega
      rw [List.take_length]
      refine Ev.step (f := fun k => (code_join.f (l.map strL)).bind fun t296 => some t296) (fun k => ?_) ⟨0, fun _ _ => ?_⟩
      · simp only [code_Join.l0]
        rw [if_neg (by omega)]
      · have ht : total (l.map strL) ≤ l.length * 20009 := by
          unfold total
          have := flatten_le 20009 (l.map strL) (fun x hx => by
            obtain ⟨y, hy, rfl⟩ := List.mem_map.1 hx
            have := strL_len y (by have := hb y hy; omega)
            have := hb y hy
            omega)
          rwa [List.length_map] at this
        have hj : code_join.f (l.map strL) = some (joinL l) := by
          unfold code_join.f slices_Concat_byte_byte.f
          rw [if_pos (by omega)]; rfl
        simp only [hj]
        rfl
    | succ d ih =>
      intro i hi
      have hlt : i < l.length := by omega
      refine Ev.step (f := fun k => (code_Str.f k l[i]).bind fun t290 => if ((l.take i).map strL).length < 5864062014805 then code_Join.l0 k ((l.take i).map strL ++ [t290]) l (l.length : Int) ((i + 1 : Nat) : Int) else none) (fun k => ?_) ?_
      · simp only [code_Join.l0]
        rw [if_pos (by omega), if_pos (by omega), if_pos (by omega), rd_at l i hlt, w64 (by omega) (by omega)]
        rfl
      · refine Ev.bind (str_ev l[i] (by have := hb _ (List.getElem_mem hlt); omega)) ?_
        refine Ev.congr (f := fun k => code_Join.l0 k ((l.take (i + 1)).map strL) l (l.length : Int) ((i + 1 : Nat) : Int)) (fun k => ?_) (ih (i + 1) (by omega))
        rw [if_pos (by simp; omega), List.take_succ_eq_append_getElem hlt, List.map_append]
        rfl
  exact key l.length 0 (by omega)
theorem split_ev : ∀ d (l : List Int) (acc : List (List Int)), l.length ≤ d → IsB l → acc.length + l.length ≤ 100000 →
    (Good l ∧ ∃ rows, joinL rows = l ∧ rows.length ≤ l.length ∧ (∀ x ∈ rows, x.length ≤ l.length) ∧ Ev (fun k => code_Split.l0 k l acc) (acc ++ rows, true)) ∨ (¬ Good l ∧ Ev (fun k => code_Split.l0 k l acc) ([], false)) := by
  intro d
  induction d with
  | zero =>
    intro l acc hl hb ha
    obtain rfl : l = [] := List.eq_nil_of_length_eq_zero (by omega)
    refine .inl ⟨Good.nil, [], rfl, Nat.le_refl _, fun x hx => (by cases hx), ?_⟩
    refine Ev.step (f := fun k => some (acc, true)) (fun k => ?_) ⟨0, fun _ _ => by simp⟩
    simp only [code_Split.l0]
    rw [if_neg (by simp)]
  | succ d ih =>
    intro l acc hl hb ha
    rcases Nat.eq_zero_or_pos l.length with h0 | h0
    · exact ih l acc (by omega) hb ha
    · have hne : l ≠ [] := fun e => by rw [e] at h0; simp at h0
      have ht := ctake_ev l hb (by omega)
      by_cases hp : ∃ n, Puts l n
      · obtain ⟨n, hn⟩ := hp
        rw [takeRes_of hn] at ht
        have hfit := hn.2.1
        have hpos := digs_pos (8 * n)
        have hl8 := leftL_len (8 * n)
        obtain ⟨m, hm⟩ : ∃ m, m = (leftL (8 * n)).length + n := ⟨_, rfl⟩
        have hrow : ((l.drop (leftL (8 * n)).length).take n).length = n := by simp; omega
        obtain ⟨row, hrw⟩ : ∃ row, row = (l.drop (leftL (8 * n)).length).take n := ⟨_, rfl⟩
        have hback := puts_back hn
        rw [← hm, ← hrw] at hback
        rw [← hm, ← hrw] at ht
        rw [← hrw] at hrow
        have go : Ev (fun k => code_Split.l0 k (l.drop m) (acc ++ [row])) = Ev (fun k => code_Split.l0 k (l.drop m) (acc ++ [row])) := rfl
        have up : ∀ r, Ev (fun k => code_Split.l0 k (l.drop m) (acc ++ [row])) r → Ev (fun k => code_Split.l0 k l acc) r := fun r hr => by
          refine Ev.step (f := fun k => (code_Take.f k l).bind fun bt299 => (if bt299.2.2 = true then (if acc.length < 5864062014805 then (if 0 ≤ bt299.2.1 then (if bt299.2.1 ≤ (l.length : Int) then (code_Split.l0 k (l.drop (bt299.2.1 : Int).toNat) (acc ++ [bt299.1])) else (none)) else (none)) else (none)) else (some (([] : List (List Int)), false)))) (fun k => ?_) ?_
          · simp only [code_Split.l0]
            rw [if_pos (by omega)]
          · refine Ev.bind ht ?_
            refine Ev.congr (f := fun k => code_Split.l0 k (l.drop m) (acc ++ [row])) (fun k => ?_) hr
            dsimp only
            rw [if_pos rfl, if_pos (by omega), if_pos (by omega), if_pos (by omega), Int.toNat_natCast]
        rcases ih (l.drop m) (acc ++ [row]) (by simp; omega) (hb.drop m) (by simp; omega) with ⟨hg, rows, h1, h2, h3, h4⟩ | ⟨hg, h4⟩
        · refine .inl ⟨Good.cons n hn (by rw [← hm]; exact hg), row :: rows, ?_, ?_, ?_, ?_⟩
          · rw [joinL_cons, h1]; exact hback.symm
          · rw [List.length_drop] at h2; rw [List.length_cons]; omega
          · intro x hx
            rcases List.mem_cons.1 hx with rfl | hx
            · omega
            · have := h3 x hx
              rw [List.length_drop] at this
              omega
          · have := up _ h4
            rwa [List.append_assoc] at this
        · exact .inr ⟨fun g => hg (by have := g.next hn; rwa [← hm] at this), up _ h4⟩
      · have hno : ∀ n, ¬ Puts l n := fun n h => hp ⟨n, h⟩
        rw [takeRes_none hno] at ht
        refine .inr ⟨Good.none hno hne, ?_⟩
        refine Ev.step (f := fun k => (code_Take.f k l).bind fun bt299 => (if bt299.2.2 = true then (if acc.length < 5864062014805 then (if 0 ≤ bt299.2.1 then (if bt299.2.1 ≤ (l.length : Int) then (code_Split.l0 k (l.drop (bt299.2.1 : Int).toNat) (acc ++ [bt299.1])) else (none)) else (none)) else (none)) else (some (([] : List (List Int)), false)))) (fun k => ?_) ?_
        · simp only [code_Split.l0]
          rw [if_pos (by omega)]
        · exact Ev.bind ht ⟨0, fun k _ => rfl⟩
/-- The law's end: is it told alike, and are the bytes as they were? -/
theorem end_ev (b : List Int) (s : List (List Int)) (is_ fine : Bool) (hf : is_ = fine) (h1 : is_ = true → joinL s = b ∧ s.length ≤ 4000 ∧ ∀ x ∈ s, x.length ≤ 20000) (h0 : is_ = false → s = []) :
    Ev (fun k => if (is_ == fine) = true then (if is_ = true then ((code_Join.f k s).bind fun t344 => (if (strOfNums t344).toList = (strOfNums b).toList then ((visorlaw14_awake.f k).bind fun t347 => (some t347)) else (some false))) else (if (s.length : Int) = 0 then ((visorlaw14_awake.f k).bind fun t348 => (some t348)) else (some false))) else (some false)) true := by
  subst hf
  cases is_ with
  | true =>
    obtain ⟨e, hs, hx⟩ := h1 rfl
    have := cjoin_ev s hs hx
    rw [e] at this
    refine Ev.congr (f := fun k => (code_Join.f k s).bind fun t344 => (if (strOfNums t344).toList = (strOfNums b).toList then ((visorlaw14_awake.f k).bind fun t347 => (some t347)) else (some false))) (fun k => rfl) ?_
    refine Ev.bind this ?_
    simp only [if_true]
    exact Ev.map awake_ev _ rfl
  | false =>
    obtain rfl := h0 rfl
    refine Ev.congr (f := fun k => (visorlaw14_awake.f k).bind fun t347 => (some t347)) (fun k => rfl) ?_
    exact Ev.map awake_ev _ rfl
theorem l2_ev (b : List Int) (hb : IsB b) (hbl : b.length ≤ 100000) (s : List (List Int)) (is_ : Bool) (h1 : is_ = true → joinL s = b ∧ s.length ≤ 4000 ∧ ∀ x ∈ s, x.length ≤ 20000) (h0 : is_ = false → s = []) :
    ∀ d at_ : Nat, at_ ≤ b.length → b.length - at_ ≤ d → (is_ = true ↔ Good (b.drop at_)) → Ev (fun k => visorlaw14_CodeLists.l2 k b s is_ (at_ : Int) true) true := by
  intro d
  induction d with
  | zero =>
    intro at_ ha hd hg
    obtain rfl : at_ = b.length := by omega
    rw [List.drop_length] at hg
    have hi := hg.2 Good.nil
    refine Ev.step (fun k => ?_) (end_ev b s is_ true hi h1 h0)
    simp only [visorlaw14_CodeLists.l2]
    rw [if_neg (by omega)]
  | succ d ih =>
    intro at_ ha hd hg
    rcases Nat.lt_or_ge at_ b.length with hlt | hge
    · have ht := rtake_ev (b.drop at_) (hb.drop _) (by simp; omega)
      have stepE : ∀ k, visorlaw14_CodeLists.l2 (k + 1) b s is_ (at_ : Int) true = (visorref14_Take.f k (b.drop at_)).bind fun bt339 => (visorlaw14_CodeLists.l2 k b s is_ (wrap64 ((at_ : Int) + bt339.2.1)) bt339.2.2) := fun k => by
        simp only [visorlaw14_CodeLists.l2]
        rw [if_pos (by omega), if_pos (by first | rfl | trivial), if_pos (by omega), if_pos (by omega), Int.toNat_natCast]
      by_cases hp : ∃ n, Puts (b.drop at_) n
      · obtain ⟨n, hn⟩ := hp
        rw [takeRes_of hn] at ht
        have hfit := hn.2.1
        rw [List.length_drop] at hfit
        refine Ev.step stepE (Ev.bind ht ?_)
        have e : wrap64 ((at_ : Int) + (((leftL (8 * n)).length + n : Nat) : Int)) = ((at_ + ((leftL (8 * n)).length + n) : Nat) : Int) := by rw [w64 (by omega) (by omega)]; omega
        simp only [e]
        have h8 := leftL_len (8 * n)
        refine ih _ (by omega) (by omega) ?_
        rw [← List.drop_drop]
        exact hg.trans ⟨fun g => g.next hn, fun g => Good.cons n hn g⟩
      · have hno : ∀ n, ¬ Puts (b.drop at_) n := fun n h => hp ⟨n, h⟩
        rw [takeRes_none hno] at ht
        have hng := Good.none hno (fun e => by have := congrArg List.length e; simp at this; omega)
        have hi : is_ = false := by
          cases is_ with
          | false => rfl
          | true => exact absurd (hg.1 rfl) hng
        refine Ev.step stepE (Ev.bind ht ?_)
        have e : wrap64 ((at_ : Int) + 0) = (at_ : Int) := by rw [w64 (by omega) (by omega)]; omega
        simp only [e]
        refine Ev.step (fun k => ?_) (end_ev b s is_ false hi h1 h0)
        simp only [visorlaw14_CodeLists.l2]
        rw [if_pos (by omega), if_neg (by decide)]
    · exact ih at_ ha (by omega) hg
theorem joinL_b : ∀ l : List (List Int), (∀ x ∈ l, IsB x) → (∀ x ∈ l, x.length ≤ 100000000) → IsB (joinL l)
  | [], _, _ => IsB.nil
  | x :: l, h, hl => by
    rw [joinL_cons]
    have h1 := hl x (List.mem_cons_self ..)
    exact IsB.append (IsB.append (leftL_b (Nat.lt_of_lt_of_le (show 8 * x.length < 256 ^ 4 by omega) (by decide))) (h x (List.mem_cons_self ..))) (joinL_b l (fun y hy => h y (List.mem_cons_of_mem _ hy)) (fun y hy => hl y (List.mem_cons_of_mem _ hy)))
theorem joinL_len (m : Nat) (hm : m ≤ 100000) (l : List (List Int)) (h : ∀ x ∈ l, x.length ≤ m) : (joinL l).length ≤ l.length * (m + 9) := by
  unfold joinL
  have := flatten_le (m + 9) (l.map strL) (fun x hx => by
    obtain ⟨y, hy, rfl⟩ := List.mem_map.1 hx
    have h1 := h y hy
    have := strL_len y (by omega)
    omega)
  rwa [List.length_map] at this
theorem l2_all (b : List Int) (hbb : IsB b) (h3 : b.length ≤ 3000) : Ev (fun k => (code_Split.f k b).bind fun bt334 => (visorlaw14_CodeLists.l2 k b bt334.1 bt334.2 0 true)) true := by
  rcases split_ev b.length b [] (Nat.le_refl _) hbb (by simp; omega) with ⟨hg, rows, r1, r2, r3, r4⟩ | ⟨hg, r4⟩
  · refine Ev.bind (g := fun k => code_Split.f k b) r4 ?_
    exact l2_ev b hbb (by omega) rows true (fun _ => ⟨r1, by omega, fun x hx => by have := r3 x hx; omega⟩) (fun h => by cases h) b.length 0 (by omega) (by omega) ⟨fun _ => hg, fun _ => rfl⟩
  · refine Ev.bind (g := fun k => code_Split.f k b) r4 ?_
    exact l2_ev b hbb (by omega) [] false (fun h => by cases h) (fun _ => rfl) b.length 0 (by omega) (by omega) ⟨fun h => (by cases h), fun h => absurd h hg⟩
theorem l1_ev (l : List (List Int)) (b : List Int) (hbb : IsB b) (h30 : l.length ≤ 30) (h3 : b.length ≤ 3000) : ∀ d i : Nat, i + d = l.length → Ev (fun k => visorlaw14_CodeLists.l1 k l b l (i : Int)) true := by
  intro d
  induction d with
  | zero =>
    intro i hi
    refine Ev.step (fun k => ?_) (l2_all b hbb h3)
    simp only [visorlaw14_CodeLists.l1]
    rw [if_neg (by omega)]
  | succ d ih =>
    intro i hi
    refine Ev.step (fun k => ?_) (ih (i + 1) (by omega))
    simp only [visorlaw14_CodeLists.l1]
    rw [if_pos (by omega), if_pos (by omega), if_pos (by omega), w64 (by omega) (by omega)]
    exact if_pos trivial
theorem codeLists_pure (l : List (List Int)) (b : List Int) (hbb : IsB b) (hlb : ∀ x ∈ l, IsB x) : ∃ k, visorlaw14_CodeLists.f k l b = some true := by
  refine Ev.rounds (g := fun k => visorlaw14_CodeLists.f k l b) ?_
  have sleeps : Ev (fun k => visorlaw14_CodeLists.j0 k l b true) true := by
    refine Ev.step (f := fun k => (visorlaw14_awake.f k).bind fun t312 => (some t312)) (fun k => ?_) (Ev.map awake_ev _ rfl)
    simp only [visorlaw14_CodeLists.j0]
    exact if_pos trivial
  by_cases h30 : (l.length : Int) > 30
  · refine Ev.congr (f := fun k => visorlaw14_CodeLists.j0 k l b true) (fun k => ?_) sleeps
    unfold visorlaw14_CodeLists.f; rw [if_pos h30]
  by_cases h3 : (b.length : Int) > 3000
  · refine Ev.congr (f := fun k => visorlaw14_CodeLists.j0 k l b true) (fun k => ?_) sleeps
    unfold visorlaw14_CodeLists.f; rw [if_neg h30, decide_eq_true h3]
  refine Ev.congr (f := fun k => visorlaw14_CodeLists.j0 k l b false) (fun k => ?_) ?_
  · unfold visorlaw14_CodeLists.f; rw [if_neg h30, decide_eq_false h3]
  refine Ev.step (f := fun k => visorlaw14_CodeLists.l0 k l b [] 0) (fun k => ?_) ?_
  · simp only [visorlaw14_CodeLists.j0]; exact if_neg (by decide)
  have key : ∀ d i : Nat, i + d = l.length → (∀ j (h : j < l.length), j < i → l[j].length ≤ 400) → Ev (fun k => visorlaw14_CodeLists.l0 k l b (joinL (l.take i)) (i : Int)) true := by
    intro d
    induction d with
    | zero =>
      intro i hi h400'
      obtain rfl : i = l.length := by omega
      have h400 : ∀ x ∈ l, x.length ≤ 400 := fun x hx => by
        obtain ⟨j, hj, rfl⟩ := List.mem_iff_getElem.1 hx
        exact h400' j hj hj
      have hlen := joinL_len 400 (by decide) l h400
      rw [List.take_length]
      refine Ev.step (f := fun k => (code_Join.f k l).bind fun t325 => ((code_Split.f k t325).bind fun bt328 => (if (strOfNums t325).toList = (strOfNums (joinL l)).toList then (if bt328.2 = true then (visorlaw14_CodeLists.j2 k l b bt328.1 ((bt328.1.length : Int) != (l.length : Int))) else (visorlaw14_CodeLists.j2 k l b bt328.1 true)) else (visorlaw14_CodeLists.j2 k l b bt328.1 true)))) (fun k => ?_) ?_
      · simp only [visorlaw14_CodeLists.l0]
        rw [if_neg (by omega)]
      · refine Ev.bind (cjoin_ev l (by omega) (fun x hx => by have := h400 x hx; omega)) ?_
        rcases split_ev (joinL l).length (joinL l) [] (Nat.le_refl _) (joinL_b l hlb (fun x hx => by have := h400 x hx; omega)) (by simp; omega) with ⟨hg, rows, r1, r2, r3, r4⟩ | ⟨hg, _⟩
        · have er := joinL_inj rows l (fun x hx => by have := r3 x hx; omega) (fun x hx => by have := h400 x hx; omega) r1
          subst er
          refine Ev.bind (g := fun k => code_Split.f k (joinL rows)) r4 ?_
          refine Ev.congr (f := fun k => visorlaw14_CodeLists.j2 k rows b rows false) (fun k => ?_) ?_
          · dsimp only
            rw [if_pos rfl, if_pos rfl, List.nil_append, bne_self_eq_false]
          · refine Ev.step (fun k => ?_) (l1_ev rows b hbb (by omega) (by omega) rows.length 0 (by omega))
            simp only [visorlaw14_CodeLists.j2]
            exact if_neg (by decide)
        · exact absurd (good_join l (fun x hx => by have := h400 x hx; omega)) hg
    | succ d ih =>
      intro i hi h400'
      have hlt : i < l.length := by omega
      by_cases hbig : (l[i].length : Int) > 400
      · refine Ev.step (f := fun k => (visorlaw14_awake.f k).bind fun t312 => (some t312)) (fun k => ?_) (Ev.map awake_ev _ rfl)
        simp only [visorlaw14_CodeLists.l0]
        rw [if_pos (by omega), if_pos (by omega), rd_at l i hlt, if_pos hbig]
      · have hall : ∀ x ∈ l.take i, x.length ≤ 400 := fun x hx => by
          obtain ⟨j, hj, rfl⟩ := List.mem_iff_getElem.1 hx
          rw [List.length_take] at hj
          rw [List.getElem_take]
          exact h400' j (by omega) (by omega)
        have hlen := joinL_len 400 (by decide) (l.take i) hall
        rw [List.length_take] at hlen
        refine Ev.step (f := fun k => (visorref14_Str.f k l[i]).bind fun t319 => (if (joinL (l.take i)).length + t319.length < 140737488355328 then (visorlaw14_CodeLists.l0 k l b (joinL (l.take i) ++ t319) ((i + 1 : Nat) : Int)) else (none))) (fun k => ?_) ?_
        · simp only [visorlaw14_CodeLists.l0]
          rw [if_pos (by omega), if_pos (by omega), rd_at l i hlt, if_neg hbig, w64 (by omega) (by omega)]
          rfl
        · have hsl := strL_len l[i] (by omega)
          refine Ev.bind (rstr_ev l[i] (by omega)) ?_
          have e : joinL (l.take (i + 1)) = joinL (l.take i) ++ strL l[i] := by
            unfold joinL
            rw [List.take_succ_eq_append_getElem hlt, List.map_append, List.flatten_append]
            simp
          refine Ev.congr (f := fun k => visorlaw14_CodeLists.l0 k l b (joinL (l.take (i + 1))) ((i + 1 : Nat) : Int)) (fun k => ?_) (ih (i + 1) (by omega) (fun j hj hji => ?_))
          · rw [if_pos ?_, e]
            have : min i l.length * (400 + 9) ≤ 30 * 409 := Nat.mul_le_mul (by omega) (Nat.le_refl _)
            omega
          · rcases Nat.lt_or_ge j i with h | h
            · exact h400' j hj h
            · obtain rfl : j = i := by omega
              omega
  exact key l.length 0 (by omega) (fun j _ hj => by omega)
end Go.Proofs.Ythijjpiddelefaa.Pure
namespace Go.Proofs.Ythijjpiddelefaa.Lists
open Go.RowKit Go.Proofs.Ythijjpiddelefaa.PCode Go.Proofs.YthijjpiddelefaaW.PrintWords Go.Proofs.YthijjpiddelefaaW.PrintLast RowsArg CodeMath Slices
theorem lists_walk (a0 : Option Addr) (len0 cap0 : Nat) (a1 : Option Addr) (len1 cap1 : Nat) (z1 : List Int) (w : World) (w0 : IsRows .u8 5 w a0 len0 cap0) (w1 : IsRow .u8 w a1 len1 cap1 z1) (y1 : len1 * 1 ≤ 140737488351232) :
    Calls Try.prog 5 #[.slice a0 len0 cap0, .slice a1 len1 cap1] w fun e w' => e = .returned (.bool true) ∧ Below w.heap.size w w' := by
  obtain ⟨l0, rfl, hc0, hC, hwf⟩ := w0
  obtain ⟨l1, rfl, hr1, hm1, hw1, hc1⟩ := ReadsInt.ofRowC w1
  obtain ⟨k, h⟩ := Pure.codeLists_pure l0 l1 (IsB.of_wf hw1) (fun x hx => IsB.of_wf (hwf x hx))
  exact visorlaw14_CodeLists.calls k _ _ l0 _ _ l1 true w hC hc0 (Kd.C_of_reads (d := (0 : Int)) (h1 := fun _ => rfl) hr1) hc1 ⟨rfl⟩ h
end Go.Proofs.Ythijjpiddelefaa.Lists
