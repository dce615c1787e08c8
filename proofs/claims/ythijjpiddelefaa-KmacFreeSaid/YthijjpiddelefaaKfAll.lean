/-
  Merged texts, what is reached of them: KmLaw, KmB, NamedOwn, KmOwn, PureKmFree, KmFreeSays, KmFree, KmEnd, KmFreeEnd: walks and plain lemmas; no condition.
-/
import Derived.Test.YthijjpiddelefaaKfDef
import Derived.Test.YthijjpiddelefaaPKf1
import Derived.Test.YthijjpiddelefaaPSk4
import Derived.Test.YthijjpiddelefaaSpBase
import Derived.Test.YthijjpiddelefaaSpAll
import Derived.Test.YthijjpiddelefaaArr3
import Derived.Test.YthijjpiddelefaaByte
namespace Go.Proofs.Ythijjpiddelefaa.KmLaw
open Go Go.RowKit Go.Proofs.Ythijjpiddelefaa Go.Proofs.Ythijjpiddelefaa.PSp Go.Proofs.YthijjpiddelefaaW.PrintWords Go.Proofs.YthijjpiddelefaaW.PrintLast Go.Proofs.YthijjpiddelefaaW.PrintMore Byte Sl Arr Mem Gives OctMath Store SWord CodeMath SpMath Chunk Sponge SpSum KmSum
set_option linter.unusedVariables false
set_option linter.unusedSimpArgs false
set_option maxHeartbeats 4000000
set_option maxRecDepth 100000
def Six (w : World) (g : Nat) (v0 v1 v2 v3 v4 v5 : Value) : Prop := w.heap[g]? = some (.cells #[v0, v1, v2, v3, v4, v5] 62 (0, 0))
section
variable {w : World} {g : Nat} {v0 v1 v2 v3 v4 v5 : Value}
theorem Six.lt (h : Six w g v0 v1 v2 v3 v4 v5) : g < w.heap.size := (Array.getElem?_eq_some_iff.1 h).1
theorem Six.new (w : World) (v0 v1 v2 v3 v4 v5 : Value) : Six (w.alloc (.cells #[v0, v1, v2, v3, v4, v5] 62)) w.heap.size v0 v1 v2 v3 v4 v5 := by
  show (w.heap.push _)[w.heap.size]? = _
  rw [Array.getElem?_push_size]
theorem Six.below (h : Six w g v0 v1 v2 v3 v4 v5) {w' : World} (hb : Below w.heap.size w w') : Six w' g v0 v1 v2 v3 v4 v5 := (hb.block g h.lt).trans h
theorem Six.c0 (h : Six w g v0 v1 v2 v3 v4 v5) : w.cell? ⟨g, 0, none⟩ = some v0 := by rw [cell_of_row w g 0 _ _ _ h]; rfl
theorem Six.c1 (h : Six w g v0 v1 v2 v3 v4 v5) : w.cell? ⟨g, 1, none⟩ = some v1 := by rw [cell_of_row w g 1 _ _ _ h]; rfl
theorem Six.c2 (h : Six w g v0 v1 v2 v3 v4 v5) : w.cell? ⟨g, 2, none⟩ = some v2 := by rw [cell_of_row w g 2 _ _ _ h]; rfl
theorem Six.c3 (h : Six w g v0 v1 v2 v3 v4 v5) : w.cell? ⟨g, 3, none⟩ = some v3 := by rw [cell_of_row w g 3 _ _ _ h]; rfl
theorem Six.c4 (h : Six w g v0 v1 v2 v3 v4 v5) : w.cell? ⟨g, 4, none⟩ = some v4 := by rw [cell_of_row w g 4 _ _ _ h]; rfl
theorem Six.c5 (h : Six w g v0 v1 v2 v3 v4 v5) : w.cell? ⟨g, 5, none⟩ = some v5 := by rw [cell_of_row w g 5 _ _ _ h]; rfl
end
theorem same_m (A : Option Addr) (c : Nat) (B : Option Addr) (d n1 : Nat) (l : List Int) (h1 : l.length = n1) (w : World) (hA : Kd.C (Kd.int .u8) w A n1 l) (hc : n1 ≤ c) (hB : Kd.C (Kd.int .u8) w B n1 l) (hd : n1 ≤ d) : Calls Try.prog 31 #[.slice A n1 c, .slice B n1 d] w fun e w' => e = .returned (.bool true) ∧ Drawn0 w w' := by
  subst h1
  exact PKm.visorref01_Same.calls A c l B d l true w hA hc hB hd (by unfold PKm.visorref01_Same.f; simp)
end Go.Proofs.Ythijjpiddelefaa.KmLaw
namespace Go.Proofs.Ythijjpiddelefaa.Pure
open Go.Proofs.Ythijjpiddelefaa Go.RowKit Go.Proofs.Ythijjpiddelefaa.SpSum Go.Proofs.Ythijjpiddelefaa.Sponge Go.Proofs.Ythijjpiddelefaa.PSp Go.Proofs.YthijjpiddelefaaW.PrintWords Go.Proofs.YthijjpiddelefaaW.PrintLast CodeMath SpMath
set_option linter.unusedVariables false
theorem sum_eq (m : List Int) (rate mark n : Int) (h : Rateds rate) (hm : m.length ≤ 1000000000) (hb : IsB m) (hk : 0 ≤ mark ∧ mark < 256) (hn : 0 ≤ n ∧ n ≤ 65536) : sponge_Sum.f m rate mark n = some (sumL m rate.toNat mark n.toNat, 0) := by
  unfold sponge_Sum.f
  rw [if_pos h, if_pos ⟨hm, (allB_iff m).2 hb, hk⟩, if_pos hn]
end Go.Proofs.Ythijjpiddelefaa.Pure
namespace Go.Proofs.Ythijjpiddelefaa.CodeSp
open Go.RowKit Go.Proofs.Ythijjpiddelefaa.PSp Go.Proofs.YthijjpiddelefaaW.PrintWords Go.Proofs.YthijjpiddelefaaW.PrintLast Go.Proofs.YthijjpiddelefaaW.PrintMore Byte CodeMath Concat
set_option linter.unusedVariables false
theorem Ev.map {α β : Type} {g : Nat → Option α} {r : α} (h : Ev g r) (f : α → Option β) {q : β} (hf : f r = some q) : Ev (fun n => (g n).bind f) q := Ev.bind h ⟨0, fun _ _ => hf⟩
theorem rev_l0 (l : List Int) (n : Nat) (hl : l.length = n) (hb : n ≤ 1099511627776) : ∀ d k (x : List Int) (i : Nat), x.length = n → (∀ p, p < n → x.getD p 0 = if p < i ∨ n ≤ p + i then l.getD (n - 1 - p) 0 else l.getD p 0) → 2 * i ≤ n + 1 → n - 2 * i ≤ 2 * d + 1 → d < k →
    slices_Reverse_byte_byte.l0 k x (i : Int) ((n : Int) - 1 - i) = some l.reverse := by
  intro d
  induction d with
  | zero =>
    intro k x i hx hp hi hd hk
    obtain ⟨k, rfl⟩ : ∃ m, k = m + 1 := ⟨k - 1, by omega⟩
    simp only [slices_Reverse_byte_byte.l0]
    rw [if_neg (by omega)]
    congr 1
    refine List.ext_getElem (by simp; omega) fun p h1 h2 => ?_
    have h3 : p < n := by omega
    have := hp p h3
    rw [List.getD_eq_getElem?_getD, List.getElem?_eq_getElem h1] at this
    rw [List.getElem_reverse]
    have e : (if p < i ∨ n ≤ p + i then l.getD (n - 1 - p) 0 else l.getD p 0) = l.getD (n - 1 - p) 0 := by
      by_cases h : p < i ∨ n ≤ p + i
      · rw [if_pos h]
      · rw [if_neg h]
        congr 1
        omega
    rw [e, List.getD_eq_getElem?_getD, List.getElem?_eq_getElem (by omega)] at this
    simp only [Option.getD_some] at this
    rw [this]
    congr 1
    omega
  | succ d ih =>
    intro k x i hx hp hi hd hk
    by_cases hlt : 2 * i + 1 < n
    · obtain ⟨k, rfl⟩ : ∃ m, k = m + 1 := ⟨k - 1, by omega⟩
      simp only [slices_Reverse_byte_byte.l0]
      rw [if_pos (by omega), if_pos (by omega), if_pos (by omega), if_pos (by omega), if_pos (by omega), w64 (by omega) (by omega), w64 (by omega) (by omega)]
      have ej : ((n : Int) - 1 - i).toNat = n - 1 - i := by omega
      have er : ∀ (j : Nat), rd x (j : Int) = x.getD j 0 := fun j => by unfold rd; rw [Int.toNat_natCast]
      have er2 : rd x ((n : Int) - 1 - i) = x.getD (n - 1 - i) 0 := by unfold rd; rw [ej]
      rw [Int.toNat_natCast, ej, er, er2, hp i (by omega), hp (n - 1 - i) (by omega), if_neg (by omega), if_neg (by omega)]
      have e2 : (n : Int) - 1 - i - 1 = (n : Int) - 1 - ((i + 1 : Nat) : Int) := by omega
      rw [e2]
      refine ih k _ (i + 1) (by simp [hx]) (fun p hpn => ?_) (by omega) (by omega) (by omega)
      have hpx := hp p hpn
      rw [List.getD_eq_getElem?_getD] at hpx
      rw [List.getD_eq_getElem?_getD, List.getElem?_set, List.length_set, List.getElem?_set]
      by_cases h1 : n - 1 - i = p
      · rw [if_pos h1, if_pos (by omega), if_pos (Or.inr (by omega))]
        simp only [Option.getD_some]
        congr 1; omega
      · rw [if_neg h1]
        by_cases h2 : i = p
        · rw [if_pos h2, if_pos (by omega), if_pos (Or.inl (by omega))]
          simp only [Option.getD_some]
          congr 1; omega
        · rw [if_neg h2, hpx]
          by_cases h3 : p < i ∨ n ≤ p + i
          · rw [if_pos h3, if_pos (by omega)]
          · rw [if_neg h3, if_neg (by omega)]
    · exact ih k x i hx hp hi (by omega) (by omega)
theorem rev_ev (l : List Int) (hb : l.length ≤ 1099511627776) : Ev (fun k => slices_Reverse_byte_byte.f k l) l.reverse := by
  refine ⟨l.length + 1, fun k hk => ?_⟩
  show slices_Reverse_byte_byte.f k l = _
  unfold slices_Reverse_byte_byte.f
  rw [w64 (by omega) (by omega)]
  have := rev_l0 l l.length rfl hb l.length k l 0 rfl (fun p hp => by rw [if_neg (by omega)]) (by omega) (by omega) (by omega)
  have e : ((l.length : Int) - 1 - ((0 : Nat) : Int)) = (l.length : Int) - 1 := by omega
  rw [e] at this
  exact this
theorem digits_l0 : ∀ n : Nat, ∀ acc : List Int, acc.length + (tl n).length ≤ 1000 → Ev (fun k => code_digits.l0 k (n : Int) acc) (acc ++ tl n).reverse := by
  intro n
  induction n using Nat.strongRecOn with
  | _ n ih =>
    intro acc hl
    rcases Nat.eq_zero_or_pos n with rfl | hp
    · rw [tl_zero, List.append_nil]
      refine Ev.step (f := fun k => (slices_Reverse_byte_byte.f k acc).bind fun t => some t) (fun k => ?_) ?_
      · simp only [code_digits.l0]
        rw [if_neg (by decide)]
      · exact Ev.map (rev_ev acc (by omega)) _ rfl
    · rw [tl_pos hp, List.length_cons] at hl
      refine Ev.step (f := fun k => code_digits.l0 k ((n / 256 : Nat) : Int) (acc ++ [((n % 256 : Nat) : Int)])) (fun k => ?_) ?_
      · simp only [code_digits.l0]
        rw [if_pos (by omega), if_pos (by omega)]
        congr 1
      · have := ih (n / 256) (by omega) (acc ++ [((n % 256 : Nat) : Int)]) (by simp; omega)
        rw [tl_pos hp]
        simpa using this
theorem digits_ev (n : Nat) (h : n < 18446744073709551616) : Ev (fun k => code_digits.f k (n : Int)) (digs n) := by
  have hl := tl_len 8 (n / 256) (Nat.lt_of_le_of_lt (Nat.div_le_self _ _) (by simpa using h))
  have := digits_l0 (n / 256) [((n % 256 : Nat) : Int)] (by simp; omega)
  unfold digs
  have e : ([((n % 256 : Nat) : Int)] ++ tl (n / 256)).reverse = (tl (n / 256)).reverse ++ [((n % 256 : Nat) : Int)] := by simp
  rw [e] at this
  exact this
theorem concat2 (a b : List Int) (h : a.length + b.length < 140737488355328) : slices_Concat_byte_byte.f [a, b] = some (a ++ b) := by
  unfold slices_Concat_byte_byte.f total
  rw [if_pos (by simpa using h)]
  simp
theorem join2 (a b : List Int) (h : a.length + b.length < 140737488355328) : code_join.f [a, b] = some (a ++ b) := by
  unfold code_join.f
  rw [concat2 a b h]; rfl
theorem digs_le9 {n : Nat} (h : n < 18446744073709551616) : (digs n).length ≤ 8 := digs_len 7 n (by simpa using h)
theorem left_ev (n : Nat) (h : n < 18446744073709551616) : Ev (fun k => code_Left.f k (n : Int)) (leftL n) := by
  have hd := digs_le9 h
  refine Ev.congr (f := fun k => (code_digits.f k (n : Int)).bind fun t115 => ((code_join.f (([(([((t115.length : Int)) % 256] : List Int)), t115] : List (List Int)))).bind fun t124 => (some t124))) (fun k => ?_) ?_
  · unfold code_Left.f
    rw [if_neg (by omega)]
  · refine Ev.map (digits_ev n h) _ ?_
    rw [join2 _ _ (by simp; omega)]
    simp only [Option.bind_some]
    have : ((digs n).length : Int) % 256 = (digs n).length := by omega
    rw [this]; rfl
theorem right_ev (n : Nat) (h : n < 18446744073709551616) : Ev (fun k => code_Right.f k (n : Int)) (rightL n) := by
  have hd := digs_le9 h
  refine Ev.congr (f := fun k => (code_digits.f k (n : Int)).bind fun t127 => ((code_join.f (([t127, (([((t127.length : Int)) % 256] : List Int))] : List (List Int)))).bind fun t136 => (some t136))) (fun k => ?_) ?_
  · unfold code_Right.f
    rw [if_neg (by omega)]
  · refine Ev.map (digits_ev n h) _ ?_
    rw [join2 _ _ (by simp; omega)]
    simp only [Option.bind_some]
    have : ((digs n).length : Int) % 256 = (digs n).length := by omega
    rw [this]; rfl
theorem leftL_le {n : Nat} (h : n < 18446744073709551616) : (leftL n).length ≤ 9 := by
  have := digs_le9 h
  rw [leftL_len]; omega
theorem str_ev (l : List Int) (h : l.length ≤ 140737488351232) : Ev (fun k => code_Str.f k l) (strL l) := by
  have h2 := leftL_le (n := 8 * l.length) (by omega)
  refine Ev.congr (f := fun k => (code_Left.f k ((8 * l.length : Nat) : Int)).bind fun t145 => ((code_join.f (([t145, l] : List (List Int)))).bind fun t151 => (some t151))) (fun k => ?_) ?_
  · unfold code_Str.f
    rw [w64 (by omega) (by omega)]
    congr 2
  · refine Ev.map (left_ev _ (by omega)) _ ?_
    rw [join2 _ _ (by omega)]; rfl
theorem pad_ev (l : List Int) (w : Nat) (hw : 0 < w) (hw2 : w ≤ 1000) (h : l.length ≤ 140737488351232) : Ev (fun k => code_Pad.f k l (w : Int)) (padL l w, 0) := by
  have h2 := leftL_le (n := w) (by omega)
  have hp := padN_lt (leftL w ++ l).length w hw
  refine Ev.congr (f := fun k => code_Pad.j0 k l (w : Int) false) (fun k => ?_) ?_
  · unfold code_Pad.f
    rw [if_neg (by omega)]
    congr 1
    exact decide_eq_false (by omega)
  · refine Ev.step (f := fun k => ((code_Left.f k (w : Int)).bind fun t188 => ((code_join.f (([t188, l] : List (List Int)))).bind fun t194 => (if (w : Int) = 0 then (none) else (if ((t194.length : Int) % (w : Int)) > 0 then (if 0 ≤ (wrap64 ((w : Int) - ((t194.length : Int) % (w : Int)))) then (if t194.length + (wrap64 ((w : Int) - ((t194.length : Int) % (w : Int))) : Int).toNat < 140737488355328 then (some ((t194 ++ List.replicate (wrap64 ((w : Int) - ((t194.length : Int) % (w : Int))) : Int).toNat 0), 0)) else (none)) else (none)) else (some (t194, 0))))))) (fun k => ?_) ?_
    · simp only [code_Pad.j0]
      rw [if_neg (by decide)]
    · refine Ev.map (left_ev w (by omega)) _ ?_
      rw [join2 _ _ (by omega)]
      simp only [Option.bind_some]
      rw [if_neg (by omega)]
      unfold padL
      generalize hx : leftL w ++ l = x at *
      have hxl : x.length ≤ 140737488351232 + 9 := by rw [← hx, List.length_append]; omega
      have em : (x.length : Int) % (w : Int) = ((x.length % w : Nat) : Int) := by omega
      rw [em]
      by_cases h0 : x.length % w = 0
      · rw [if_neg (by omega)]
        unfold padN
        rw [if_pos h0]
        simp
      · have hlt := Nat.mod_lt x.length hw
        have e1 : wrap64 ((w : Int) - ((x.length % w : Nat) : Int)) = ((w - x.length % w : Nat) : Int) := by rw [w64 (by omega) (by omega)]; omega
        rw [if_pos (by omega), e1, if_pos (by omega), Int.toNat_natCast, if_pos (by omega)]
        unfold padN
        rw [if_neg h0]
end Go.Proofs.Ythijjpiddelefaa.CodeSp
namespace Go.Proofs.Ythijjpiddelefaa.SpNamed
open Go.Proofs.Ythijjpiddelefaa Go.RowKit Go.Proofs.Ythijjpiddelefaa.SpSum Go.Proofs.Ythijjpiddelefaa.Sponge Go.Proofs.Ythijjpiddelefaa.PSp Go.Proofs.YthijjpiddelefaaW.PrintWords Go.Proofs.YthijjpiddelefaaW.PrintLast CodeMath SpMath CodeSp Go.Proofs.Ythijjpiddelefaa.Pure Concat
set_option linter.unusedVariables false
/-- Of which numbers there are hashes of any length. -/
def Bits (b : Int) : Prop := b = 128 ∨ b = 256
instance (b : Int) : Decidable (Bits b) := by unfold Bits; infer_instance
def rateN (b : Int) : Nat := if b = 128 then 168 else 136
theorem rate_bits {b : Int} (h : Bits b) : PKec.sponge_Rate.f b = some (rateN b : Int) := by
  rcases h with rfl | rfl <;> decide +kernel
theorem long_bits {b : Int} (h : Bits b) : sponge_long.f b = some (rateN b : Int) := by
  rcases h with rfl | rfl <;> decide +kernel
theorem rateN_cases (b : Int) : rateN b = 168 ∨ rateN b = 136 := by unfold rateN; split <;> simp
theorem rateN_ok (b : Int) : Rateds (rateN b : Int) := by
  rcases rateN_cases b with h | h <;> rw [h] <;> decide
/-- What is told, with a name. -/
def namedL (b : Int) (name custom m : List Int) (n : Nat) : List Int :=
  if name.length = 0 ∧ custom.length = 0 then sumL m (rateN b) 31 n else sumL (padL (strL name ++ strL custom) (rateN b) ++ m) (rateN b) 4 n
theorem shake_ok {b : Int} (hb : Bits b) (m : List Int) (n : Int) (hm : m.length ≤ 1000000000) (hmb : IsB m) (hn : 0 ≤ n ∧ n ≤ 65536) : sponge_Shake.f b m n = some (sumL m (rateN b) 31 n.toNat, 0) := by
  unfold sponge_Shake.f
  rw [long_bits hb]
  simp only [Option.bind_some]
  rw [sum_eq m _ 31 n (rateN_ok b) hm hmb (by decide) hn]
  rw [Int.toNat_natCast]; rfl
theorem strL_len (l : List Int) (h : l.length ≤ 1000000) : (strL l).length ≤ l.length + 9 := by
  unfold strL
  rw [List.length_append]
  have := leftL_le (n := 8 * l.length) (by omega)
  omega
theorem lt9 {n : Nat} (h : n < 16777216) : n < 256 ^ 9 := Nat.lt_of_lt_of_le (show n < 256 ^ 3 by rw [show (256 : Nat) ^ 3 = 16777216 by decide]; exact h) (Nat.pow_le_pow_right (by decide) (by decide))
theorem strL_b (l : List Int) (h : l.length ≤ 1000000) (hb : IsB l) : IsB (strL l) := IsB.append (leftL_b (lt9 (by omega))) hb
theorem padL_len (l : List Int) (w : Nat) (hw : 0 < w) (hw2 : w ≤ 1000) : (padL l w).length ≤ l.length + 9 + w := by
  unfold padL
  rw [List.length_append, List.length_replicate]
  have h1 := padN_lt (leftL w ++ l).length w hw
  have h2 := leftL_le (n := w) (by omega)
  rw [List.length_append] at h1 ⊢
  omega
theorem padL_b (l : List Int) (w : Nat) (hw2 : w ≤ 1000) (hb : IsB l) : IsB (padL l w) := IsB.append (IsB.append (leftL_b (lt9 (by omega))) hb) (IsB.zeros _)
section
variable {b : Int} {x0 x1 m : List Int}
theorem head_len (h0 : x0.length ≤ 1000000) (h1 : x1.length ≤ 1000000) : (padL (strL x0 ++ strL x1) (rateN b)).length ≤ 3000000 := by
  have hr := rateN_cases b
  have h2 := padL_len (strL x0 ++ strL x1) (rateN b) (by omega) (by omega)
  have h3 := strL_len x0 h0
  have h4 := strL_len x1 h1
  rw [List.length_append] at h2
  omega
theorem head_b (h0 : x0.length ≤ 1000000) (h1 : x1.length ≤ 1000000) (b0 : IsB x0) (b1 : IsB x1) : IsB (padL (strL x0 ++ strL x1) (rateN b)) :=
  padL_b _ _ (by have := rateN_cases b; omega) (IsB.append (strL_b x0 h0 b0) (strL_b x1 h1 b1))
theorem named_ev (hb : Bits b) (h0 : x0.length ≤ 1000000) (h1 : x1.length ≤ 1000000) (hm : m.length ≤ 500000000) (b0 : IsB x0) (b1 : IsB x1) (bm : IsB m) (n : Int) (hn : 0 ≤ n ∧ n ≤ 65536) : Ev (fun k => sponge_Named.f k b x0 x1 m n) (namedL b x0 x1 m n.toNat, 0) := by
  by_cases hz : x0.length = 0 ∧ x1.length = 0
  · refine ⟨1, fun k hk => ?_⟩
    obtain ⟨k, rfl⟩ : ∃ z, k = z + 1 := ⟨k - 1, by omega⟩
    show sponge_Named.f (k + 1) b x0 x1 m n = _
    unfold sponge_Named.f namedL
    rw [if_pos (by omega), if_pos hz]
    simp only [sponge_Named.j0]
    rw [if_pos (by simp [hz.2]), shake_ok hb m n (by omega) bm hn]
    rfl
  · obtain ⟨K0, e0⟩ := str_ev x0 (by omega)
    obtain ⟨K1, e1⟩ := str_ev x1 (by omega)
    have l0 := strL_len x0 h0
    have l1 := strL_len x1 h1
    have hr := rateN_cases b
    obtain ⟨K2, e2⟩ := pad_ev (strL x0 ++ strL x1) (rateN b) (by omega) (by omega) (by rw [List.length_append]; omega)
    have hh := head_len (b := b) h0 h1
    have hcat : (padL (strL x0 ++ strL x1) (rateN b)).length + m.length < 140737488355328 := by clear e0 e1 e2; omega
    have hsum : (padL (strL x0 ++ strL x1) (rateN b) ++ m).length ≤ 1000000000 := by rw [List.length_append]; clear e0 e1 e2 hcat; omega
    have hstr : (strL x0).length + (strL x1).length < 140737488355328 := by clear e0 e1 e2 hcat hsum; omega
    refine ⟨K0 + K1 + K2 + 1, fun k hk => ?_⟩
    obtain ⟨k, rfl⟩ : ∃ z, k = z + 1 := ⟨k - 1, by omega⟩
    show sponge_Named.f (k + 1) b x0 x1 m n = _
    have e : sponge_Named.f (k + 1) b x0 x1 m n = sponge_Named.j0 (k + 1) b x0 x1 m n false := by
      unfold sponge_Named.f
      by_cases hz0 : x0.length = 0
      · rw [if_pos (by omega), show ((x1.length : Int) == 0) = false by rw [beq_eq_false_iff_ne]; omega]
      · rw [if_neg (by omega)]
    rw [e]
    simp only [sponge_Named.j0]
    rw [if_neg (by decide)]
    have f0 := e0 k (by omega)
    have f1 := e1 k (by omega)
    have f2 := e2 k (by omega)
    simp only at f0 f1 f2
    rw [f0, Option.bind_some]
    rw [f1, Option.bind_some]
    rw [concat2 _ _ hstr, Option.bind_some]
    rw [long_bits hb, Option.bind_some]
    rw [f2, Option.bind_some, if_pos rfl]
    rw [concat2 (padL (strL x0 ++ strL x1) (rateN b)) m hcat, Option.bind_some]
    try rw [Option.bind_some]
    rw [sum_eq _ _ 4 n (rateN_ok b) hsum (IsB.append (head_b h0 h1 b0 b1) bm) (by decide) hn]
    rw [Option.bind_some, Int.toNat_natCast]
    unfold namedL
    rw [if_neg hz]
end
end Go.Proofs.Ythijjpiddelefaa.SpNamed
namespace Go.Proofs.Ythijjpiddelefaa.PureKm
open Go.Proofs.Ythijjpiddelefaa Go.RowKit Go.Proofs.Ythijjpiddelefaa.SpSum Go.Proofs.Ythijjpiddelefaa.Sponge Go.Proofs.Ythijjpiddelefaa.PSp Go.Proofs.YthijjpiddelefaaW.PrintWords Go.Proofs.YthijjpiddelefaaW.PrintLast CodeMath SpMath CodeSp Go.Proofs.Ythijjpiddelefaa.Pure Concat SpNamed KmSum
set_option linter.unusedVariables false
def headL (b : Int) (key : List Int) : List Int := padL (strL key) (rateN b)
def kmacL (b : Int) (key m cu : List Int) (n : Int) (fr : Bool) : List Int := namedL b nameL cu (headL b key ++ m ++ rightL (longN n fr).toNat) n.toNat
theorem right_yes {b : Int} (h : Bits b) : kmac_right.f b = some true := by
  rcases h with rfl | rfl <;> rfl
section
variable {b : Int} {key m cu : List Int}
theorem head_ev (hb : Bits b) (hk : key.length ≤ 1000000) : Ev (fun k => kmac_Head.f k b key) (headL b key, 0) := by
  obtain ⟨K0, e0⟩ := str_ev key (by omega)
  have l0 := strL_len key hk
  have hr := rateN_cases b
  obtain ⟨K1, e1⟩ := pad_ev (strL key) (rateN b) (by omega) (by omega) (by omega)
  refine ⟨K0 + K1, fun k hk => ?_⟩
  show kmac_Head.f k b key = _
  have f0 := e0 k (by omega)
  have f1 := e1 k (by omega)
  simp only at f0 f1
  unfold kmac_Head.f
  rw [right_yes hb, Option.bind_some, if_pos rfl]
  rw [f0, Option.bind_some]
  rw [rate_bits hb, Option.bind_some]
  rw [f1, Option.bind_some]
  rfl
theorem headL_le (hk : key.length ≤ 1000000) : (headL b key).length ≤ 3000000 := by
  have hr := rateN_cases b
  have h2 := padL_len (strL key) (rateN b) (by omega) (by omega)
  have h3 := strL_len key hk
  unfold headL
  omega
theorem headL_b (hk : key.length ≤ 1000000) (bk : IsB key) : IsB (headL b key) := padL_b _ _ (by have := rateN_cases b; omega) (strL_b key hk bk)
theorem nameL_b : IsB nameL := by unfold nameL; exact IsB.cons (by decide) (by decide) (IsB.cons (by decide) (by decide) (IsB.cons (by decide) (by decide) (IsB.cons (by decide) (by decide) IsB.nil)))
theorem join3 (x y z : List Int) (h : x.length + y.length + z.length < 140737488355328) : kmac_join.f [x, y, z] = some (x ++ y ++ z) := by
  unfold kmac_join.f slices_Concat_byte_byte.f total
  rw [if_pos (by simp; omega)]
  simp
theorem longN_ok (n : Int) (fr : Bool) (h : 0 ≤ n) : 0 ≤ longN n fr ∧ longN n fr ≤ 8388608 := by
  unfold longN
  split <;> (try split) <;> omega
theorem rightL_le {x : Nat} (h : x ≤ 8388608) : (rightL x).length ≤ 9 := by
  unfold rightL
  have := digs_le9 (n := x) (by omega)
  simp
  omega
theorem sum_parts (hb : Bits b) (hk : key.length ≤ 1000000) (hm : m.length ≤ 100000000) (n : Int) (fr : Bool) (hn : 0 ≤ n) (r : List Int × Int) (hN : Ev (fun k => sponge_Named.f k b nameL cu (headL b key ++ m ++ rightL (longN n fr).toNat) n) r) : Ev (fun k => kmac_Sum.f k b key m cu n fr) r := by
  obtain ⟨K0, e0⟩ := head_ev (b := b) hb hk
  have hl := longN_ok n fr hn
  obtain ⟨K1, e1⟩ := right_ev (longN n fr).toNat (by omega)
  obtain ⟨K2, e2⟩ := hN
  have h1 := headL_le (b := b) hk
  have h2 := rightL_le (x := (longN n fr).toNat) (by omega)
  refine ⟨K0 + K1 + K2, fun k hk => ?_⟩
  show kmac_Sum.f k b key m cu n fr = _
  have f0 := e0 k (by omega)
  have f1 := e1 k (by omega)
  have f2 := e2 k (by omega)
  simp only at f0 f1 f2
  rw [Int.toNat_of_nonneg hl.1] at f1
  unfold kmac_Sum.f
  rw [f0, Option.bind_some, if_pos rfl, if_neg (by omega)]
  rw [f1, Option.bind_some]
  rw [show ((headL b key, (0 : Int)).1) = headL b key from rfl, join3 (headL b key) m _ (by omega), Option.bind_some]
  exact f2
theorem catB (hk : key.length ≤ 1000000) (bk : IsB key) (bm : IsB m) {x : Nat} (hx : x ≤ 8388608) : IsB (headL b key ++ m ++ rightL x) := IsB.append (IsB.append (headL_b hk bk) bm) (rightL_b (lt9 (by omega)))
theorem cat_le (hk : key.length ≤ 1000000) (hm : m.length ≤ 100000000) {x : Nat} (hx : x ≤ 8388608) : (headL b key ++ m ++ rightL x).length ≤ 500000000 := by
  have h1 := headL_le (b := b) hk
  have h2 := rightL_le hx
  rw [List.length_append, List.length_append]
  omega
theorem sum_ev (hb : Bits b) (hk : key.length ≤ 1000000) (hm : m.length ≤ 100000000) (hc : cu.length ≤ 1000000) (bk : IsB key) (bm : IsB m) (bc : IsB cu) (n : Int) (fr : Bool) (hn : 0 ≤ n ∧ n ≤ 65536) : Ev (fun k => kmac_Sum.f k b key m cu n fr) (kmacL b key m cu n fr, 0) := by
  have hl := longN_ok n fr hn.1
  exact sum_parts hb hk hm n fr hn.1 _ (named_ev hb (by decide) hc (cat_le hk hm (by omega)) nameL_b bc (catB hk bk bm (by omega)) n hn)
end
end Go.Proofs.Ythijjpiddelefaa.PureKm
namespace Go.Proofs.Ythijjpiddelefaa.KmSum
open Go Go.RowKit Go.Proofs.Ythijjpiddelefaa Go.Proofs.Ythijjpiddelefaa.PSp Go.Proofs.YthijjpiddelefaaW.PrintWords Go.Proofs.YthijjpiddelefaaW.PrintLast Go.Proofs.YthijjpiddelefaaW.PrintMore Byte Sl Arr Mem Gives OctMath Store SWord CodeMath SpMath HandKit Chunk Sponge SpSum Concat
set_option linter.unusedVariables false
set_option linter.unusedSimpArgs false
set_option maxHeartbeats 4000000
set_option maxRecDepth 100000
/-- A slice of n cells and no more, cut of a row of the call's own. -/
def OwnV (w' : World) (N0 : Nat) (v : Value) (n : Nat) (r : List Int) : Prop := ∃ (A : Option Addr) (cc : Nat), v = .slice A n n ∧ n = r.length ∧ Kd.R (Kd.int .u8) 5 w' N0 (fun k => N0 ≤ k) (.slice A n cc) r
theorem named_own (k : Nat) (b RT : Int) (A2 A3 : Option Addr) (c2 c3 : Nat) (cu m s0 s1 t pd l r : List Int) (n : Nat) (g : Nat) (w : World)
    (hN : Kd.C (Kd.int .u8) w (some ⟨g, 0, none⟩) 4 nameL) (hC2 : Kd.C (Kd.int .u8) w A2 cu.length cu) (hC3 : Kd.C (Kd.int .u8) w A3 m.length m) (hc2 : cu.length ≤ c2) (hc3 : m.length ≤ c3)
    (e0 : code_Str.f k nameL = some s0) (e1 : code_Str.f k cu = some s1) (e2 : slices_Concat_byte_byte.f [s0, s1] = some t) (e3 : sponge_long.f b = some RT) (e4 : code_Pad.f k t RT = some (pd, 0)) (e5 : slices_Concat_byte_byte.f [pd, m] = some l)
    (HS : ∀ (A : Option Addr) (c : Nat) (W : World), Kd.C (Kd.int .u8) W A l.length l → l.length ≤ c → Calls Try.prog 27 #[.slice A l.length c, .int .i64 RT, .int .u8 4, .int .i64 (n : Int)] W fun e w' => ∃ (A_ : Option Addr) (cc : Nat), e = .returned (.tuple #[.slice A_ n n, .int .i64 0]) ∧ n = r.length ∧ Kd.R (Kd.int .u8) 5 w' W.heap.size (fun k_ => (W.heap.size ≤ k_)) (.slice A_ n cc) r ∧ Below W.heap.size W w') :
    Calls Try.prog 36 #[.int .i64 b, .slice (some ⟨g, 0, none⟩) 4 4, .slice A2 cu.length c2, .slice A3 m.length c3, .int .i64 (n : Int)] w fun e w' => ∃ v, e = .returned (.tuple #[v, .int .i64 0]) ∧ OwnV w' w.heap.size v n r ∧ Below w.heap.size w w' := by
  have HC1 := Aside0.mk hN
  have HC2 := Aside0.mk hC2
  have HC3 := Aside0.mk hC3
  have HL := Aside0.mk (And.intro hc2 hc3)
  have HB := Aside0.mk (Below.refl w.heap.size w)
  obtain ⟨xs1, hx1⟩ : ∃ q, q = [s0, s1] := ⟨_, rfl⟩
  obtain ⟨xs2, hx2⟩ : ∃ q, q = [pd, m] := ⟨_, rfl⟩
  rw [← hx1] at e2
  rw [← hx2] at e5
  have HX1 := Aside0.mk hx1
  have HX2 := Aside0.mk hx2
  have K0 := Aside0.mk (fun W (hV : Kd.V (Kd.int .u8) 5 W W.heap.size (fun k => k < W.heap.size) (.slice (some ⟨g, 0, none⟩) 4 4) nameL) => (show Calls Try.prog 13 #[.slice (some ⟨g, 0, none⟩) 4 4] W _ from PSp.code_Str.calls k (fun k => k < W.heap.size) (some ⟨g, 0, none⟩) 4 nameL s0 W hV e0))
  have K1 := Aside0.mk (fun W hV => PSp.code_Str.calls k (fun k => k < W.heap.size) A2 c2 cu s1 W hV e1)
  have K2 := Aside0.mk (fun A c W hC hc => slices_Concat_byte_byte.calls A c xs1 t W hC hc e2)
  have K3 := Aside0.mk (fun W => PSp.sponge_long.calls b RT W e3)
  have K4 := Aside0.mk (fun A c W hV => PSp.code_Pad.calls k (fun k => k < W.heap.size) A c t RT pd 0 W hV e4)
  have K5 := Aside0.mk (fun A c W hC hc => slices_Concat_byte_byte.calls A c xs2 l W hC hc e5)
  have K6 := Aside0.mk HS
  clear hN hC2 hC3 hc2 hc3 e0 e1 e2 e3 e4 e5 HS hx1 hx2
  go_enter Try.func36, Try.ntmps36
  go_upto_region 4 with (first
    | (go_at_call 13; ((with_reducible refine (K0.out _ (Kd.V_mk (show nameL.length ≤ 4 by decide) (Kd.C_F (Kd.heap_int _) (Kd.C_below HC1.out HB.out)))).mono ?_); rintro e_ w2 ⟨v2, rfl, hv2, hb2⟩; obtain ⟨AHS0, cHS0, rfl, hl2, hf2⟩ := Kd.R_reads hv2; have HS0 := Aside0.mk (And.intro hl2 hf2); have HB := Aside0.mk (below_step HB.out hb2); clear hv2 hl2 hf2 hb2))
    | (go_at_call 13; go_loud ((with_reducible refine (K1.out _ (Kd.V_mk HL.out.1 (Kd.C_F (Kd.heap_int _) (Kd.C_below HC2.out HB.out)))).mono ?_); rintro e_ w2 ⟨v2, rfl, hv2, hb2⟩; obtain ⟨AHS1, cHS1, rfl, hl2, hf2⟩ := Kd.R_reads hv2; have HS0 := Aside0.mk (And.intro HS0.out.1 (Kd.C_below HS0.out.2 hb2)); have HS1 := Aside0.mk (And.intro hl2 hf2); have HB := Aside0.mk (below_step HB.out hb2); clear hv2 hl2 hf2 hb2))
    | ((with_reducible refine gate_dst (N := 33) rfl ?_); go_loud (refine Kd.N_lit (Kd.slice 5 (Kd.int .u8)) _ 22 ?hg (N' := 33) ?hd (xs := ([s0, s1] : List (List Int))) (inner := [.slice AHS0 s0.length cHS0, .slice AHS1 s1.length cHS1]) (ok := fun _ => True) (okp := fun _ => True) ?hr ?hp (fun _ hk => hk) trivial (Below.refl _ _) (Nat.le_refl _) (by simp) ?_; (case hd => rfl); (case hg => rfl); (case hr => first | (go_simp; done) | (go_simp; rfl)); (case hp => exact (Reps.one (Kd.FK_slice_mk HS0.out.1 (Kd.F_mono (Kd.C_F (Kd.heap_int .u8) HS0.out.2) (fun _ _ => trivial))) (Reps.one (Kd.FK_slice_mk HS1.out.1 (Kd.F_mono (Kd.C_F (Kd.heap_int .u8) HS1.out.2) (fun _ _ => trivial))) (Reps.none _ _)))); intro v5 w3 ho4 hb hg_ hnew_; clear hg_ hnew_; rw [← HX1.out] at ho4; obtain ⟨Ao, co, eo⟩ := Kd.N_slice ho4; subst eo; have HO := Aside0.mk (And.intro (Kd.N_reads' ho4).2.1 (Kd.N_reads' ho4).2.2); have HB := Aside0.mk (below_step HB.out hb); clear ho4 hb))
    | (go_at_call 64; go_loud ((with_reducible refine (K2.out _ _ _ HO.out.2 HO.out.1).mono ?_); rintro e_ w2 ⟨v2, rfl, hv2, hb2⟩; obtain ⟨AHT, cHT, rfl, hl2, hf2⟩ := Kd.R_reads hv2; have HT := Aside0.mk (And.intro hl2 hf2); have HB := Aside0.mk (below_step HB.out hb2); clear hv2 hl2 hf2 hb2))
    | (go_at_call 63; go_loud ((with_reducible refine (K3.out _).mono ?_); rintro e_ w2 ⟨rfl, hd_⟩; have HT := Aside0.mk (And.intro HT.out.1 (Kd.C_below HT.out.2 hd_.below)); have HB := Aside0.mk (below_step HB.out hd_.below); clear hd_))
    | (go_at_call 15; go_loud ((with_reducible refine (K4.out _ _ _ (Kd.V_mk HT.out.1 (Kd.C_F (Kd.heap_int _) HT.out.2))).mono ?_); rintro e_ w2 ⟨v2, rfl, hv2, hb2⟩; obtain ⟨AP, cP, rfl, hl2, hf2⟩ := Kd.R_reads hv2; have HP := Aside0.mk (And.intro hl2 hf2); have HB := Aside0.mk (below_step HB.out hb2); clear hv2 hl2 hf2 hb2; have HM3 := Aside0.mk (And.intro HL.out.2 (Kd.C_below HC3.out HB.out)))))
  go_wp2_with (first
    | ((with_reducible refine gate_dst (N := 45) rfl ?_); go_loud (refine Kd.N_lit (Kd.slice 5 (Kd.int .u8)) _ 22 ?hg (N' := 45) ?hd (xs := ([pd, m] : List (List Int))) (inner := [.slice AP pd.length cP, .slice A3 m.length c3]) (ok := fun _ => True) (okp := fun _ => True) ?hr ?hp (fun _ hk => hk) trivial (Below.refl _ _) (Nat.le_refl _) (by simp) ?_; (case hd => rfl); (case hg => rfl); (case hr => first | (go_simp; done) | (go_simp; rfl)); (case hp => exact (Reps.one (Kd.FK_slice_mk HP.out.1 (Kd.F_mono (Kd.C_F (Kd.heap_int .u8) HP.out.2) (fun _ _ => trivial))) (Reps.one (Kd.FK_slice_mk HM3.out.1 (Kd.F_mono (Kd.C_F (Kd.heap_int .u8) HM3.out.2) (fun _ _ => trivial))) (Reps.none _ _)))); intro v5 w3 ho4 hb hg_ hnew_; clear hg_ hnew_; rw [← HX2.out] at ho4; obtain ⟨Ao, co, eo⟩ := Kd.N_slice ho4; subst eo; have HO := Aside0.mk (And.intro (Kd.N_reads' ho4).2.1 (Kd.N_reads' ho4).2.2); have HB := Aside0.mk (below_step HB.out hb); clear ho4 hb))
    | (go_at_call 64; go_loud ((with_reducible refine (K5.out _ _ _ HO.out.2 HO.out.1).mono ?_); rintro e_ w2 ⟨v2, rfl, hv2, hb2⟩; obtain ⟨AHM, cHM, rfl, hl2, hf2⟩ := Kd.R_reads hv2; have HM := Aside0.mk (And.intro hl2 hf2); have HB := Aside0.mk (below_step HB.out hb2); clear hv2 hl2 hf2 hb2))
    | (go_at_call 63; go_loud ((with_reducible refine (K3.out _).mono ?_); rintro e_ w2 ⟨rfl, hd_⟩; have HM := Aside0.mk (And.intro HM.out.1 (Kd.C_below HM.out.2 hd_.below)); have HB := Aside0.mk (below_step HB.out hd_.below); clear hd_))
    | (go_at_call 27; go_loud ((with_reducible refine (K6.out _ _ _ HM.out.2 HM.out.1).mono ?_); rintro e_ w5 ⟨A5, cc5, rfl, hl5, hv5, hb5⟩; have HV := Aside0.mk (Exists.intro A5 (Exists.intro cc5 (And.intro rfl (And.intro hl5 (Kd.R_mono (Kd.R_lower hv5 HB.out.size) (fun k hk => Nat.le_trans HB.out.size hk))))) : OwnV w5 w.heap.size (.slice A5 n n) n r); have HB := Aside0.mk (below_step HB.out hb5); clear hv5 hb5 hl5)))
  go_ret2
  exact ⟨_, rfl, HV.out, HB.out⟩
end Go.Proofs.Ythijjpiddelefaa.KmSum
namespace Go.Proofs.Ythijjpiddelefaa.KmSum
open Go Go.RowKit Go.Proofs.Ythijjpiddelefaa Go.Proofs.Ythijjpiddelefaa.PSp Go.Proofs.YthijjpiddelefaaW.PrintWords Go.Proofs.YthijjpiddelefaaW.PrintLast Go.Proofs.YthijjpiddelefaaW.PrintMore Byte Sl Arr Mem Gives OctMath Store SWord CodeMath SpMath HandKit Chunk Sponge SpSum
attribute [local go_sem] max2_int min2_int max_two min_two
set_option linter.unusedVariables false
set_option linter.unusedSimpArgs false
set_option maxHeartbeats 4000000
set_option maxRecDepth 100000
theorem OwnV.lower {w' : World} {N0 N1 : Nat} {v : Value} {n : Nat} {r : List Int} (h : OwnV w' N1 v n r) (hle : N0 ≤ N1) : OwnV w' N0 v n r := by
  obtain ⟨A, cc, h1, h2, h3⟩ := h
  exact ⟨A, cc, h1, h2, Kd.R_mono (Kd.R_lower h3 hle) (fun k hk => Nat.le_trans hle hk)⟩
theorem kmsum_own (kh kr : Nat) (A1 A2 A3 : Option Addr) (c1 c2 c3 : Nat) (b : Int) (key m cu : List Int) (n : Nat) (fr : Bool) (hd rt cat r : List Int) (w : World)
    (hC1 : Kd.C (Kd.int .u8) w A1 key.length key) (hC2 : Kd.C (Kd.int .u8) w A2 m.length m) (hC3 : Kd.C (Kd.int .u8) w A3 cu.length cu) (hc1 : key.length ≤ c1) (hc2 : m.length ≤ c2) (hc3 : cu.length ≤ c3)
    (e1 : kmac_Head.f kh b key = some (hd, 0)) (e2 : kmac_join.f [hd, m, rt] = some cat) (e4 : code_Right.f kr (longN (n : Int) fr) = some rt) (hn : n ≤ 65536)
    (HN : ∀ (g : Nat) (A : Option Addr) (c : Nat) (W : World), Kd.C (Kd.int .u8) W (some ⟨g, 0, none⟩) 4 nameL → Kd.C (Kd.int .u8) W A3 cu.length cu → Kd.C (Kd.int .u8) W A cat.length cat → cat.length ≤ c → Calls Try.prog 36 #[.int .i64 b, .slice (some ⟨g, 0, none⟩) 4 4, .slice A3 cu.length c3, .slice A cat.length c, .int .i64 (n : Int)] W fun e w' => ∃ v, e = .returned (.tuple #[v, .int .i64 0]) ∧ OwnV w' W.heap.size v n r ∧ Below W.heap.size W w') :
    Calls Try.prog 47 #[.int .i64 b, .slice A1 key.length c1, .slice A2 m.length c2, .slice A3 cu.length c3, .int .i64 (n : Int), .bool fr] w fun e' w' => ∃ v0_ : Value, e' = .returned (.tuple #[v0_, .int .i64 0]) ∧ OwnV w' w.heap.size v0_ n r ∧ Below w.heap.size w w' := by
  have HC1 := Aside0.mk hC1
  have HC2 := Aside0.mk hC2
  have HC3 := Aside0.mk hC3
  have HL := Aside0.mk (And.intro hc1 (And.intro hc2 hc3))
  have HB := Aside0.mk (Below.refl w.heap.size w)
  have K1 := Aside0.mk (fun W hC => PSp.kmac_Head.calls kh b A1 c1 key hd 0 W hC hc1 e1)
  obtain ⟨ys, hys⟩ : ∃ ys, ys = [hd, m, rt] := ⟨_, rfl⟩
  rw [← hys] at e2
  have HY := Aside0.mk hys
  have K3 := Aside0.mk (fun A c W hC hc => PSp.kmac_join.calls A c ys cat W hC hc e2)
  have K4 := Aside0.mk HN
  have kc := fun (w : World) (C : Array Value) (n c : Nat) => Lib.run_convert_bytes_const (P := Try.prog) w 22 5 C n c Try.underlying22 Try.underlying5
  have hn0 : ¬ (n : Int) < 0 := by omega
  have hn2 : ¬ (1048576 : Int) < (n : Int) := by omega
  have h8 : wrap64 (8 * (n : Int)) = 8 * (n : Int) := w64 (by omega) (by omega)
  clear hC1 hC2 hC3 hc1 hc2 hc3 e1 e2 HN hys hn
  unfold longN at e4
  cases fr
  case' true => rw [if_pos rfl] at e4; have K2 := Aside0.mk (fun W => PSp.code_Right.calls kr 0 rt W e4)
  case' false => rw [if_neg (by decide), if_neg hn2] at e4; have K2 := Aside0.mk (fun W => PSp.code_Right.calls kr (8 * (n : Int)) rt W e4)
  all_goals
      clear e4
      go_enter Try.func47, Try.ntmps47
      go_upto_region 9 with (first
        | (go_at_call 46; (with_reducible refine (K1.out _ (Kd.C_below HC1.out HB.out)).mono ?_); rintro e_ w1 ⟨v1, rfl, hv1, hb1⟩; obtain ⟨Ah, ch, rfl, hlh, hfh⟩ := Kd.R_reads hv1; have HH := Aside0.mk (And.intro hlh hfh); have HB := Aside0.mk (below_step HB.out hb1); clear hv1 hlh hfh hb1))
      go_wp2_with (first
        | (go_at_call 20; go_loud ((with_reducible refine (K2.out _).mono ?_); rintro e_ w2 ⟨v2, rfl, hv2, hb2⟩; obtain ⟨Ar, cr, rfl, hlr, hfr⟩ := Kd.R_reads hv2; have HR := Aside0.mk (And.intro hlr hfr); have HN := Aside0.mk (name_after hb2 rfl); have HH := Aside0.mk (And.intro HH.out.1 (Kd.C_below (Kd.C_alloc HH.out.2 _) hb2)); have HB := Aside0.mk (below_step (below_alloc HB.out _) hb2); clear hv2 hlr hfr hb2; have HM := Aside0.mk (And.intro HL.out.2.1 (Kd.C_below HC2.out HB.out))))
        | ((with_reducible refine gate_dst (N := 42) rfl ?_); go_loud (refine Kd.N_lit (Kd.slice 5 (Kd.int .u8)) _ 22 ?hg (N' := 42) ?hd (xs := ([hd, m, rt] : List (List Int))) (inner := [.slice Ah hd.length ch, .slice A2 m.length c2, .slice Ar rt.length cr]) (ok := fun _ => True) (okp := fun _ => True) ?hr ?hp (fun _ hk => hk) trivial (Below.refl _ _) (Nat.le_refl _) (by simp) ?_; (case hd => rfl); (case hg => rfl); (case hr => first | (go_simp; done) | (go_simp; rfl)); (case hp => exact (Reps.one (Kd.FK_slice_mk HH.out.1 (Kd.F_mono (Kd.C_F (Kd.heap_int .u8) HH.out.2) (fun _ _ => trivial))) (Reps.one (Kd.FK_slice_mk HM.out.1 (Kd.F_mono (Kd.C_F (Kd.heap_int .u8) HM.out.2) (fun _ _ => trivial))) (Reps.one (Kd.FK_slice_mk HR.out.1 (Kd.F_mono (Kd.C_F (Kd.heap_int .u8) HR.out.2) (fun _ _ => trivial))) (Reps.none _ _))))); intro v5 w3 ho4 hb hg_ hnew_; clear hg_ hnew_; rw [← HY.out] at ho4; obtain ⟨Ao, co, eo⟩ := Kd.N_slice ho4; subst eo; have HO := Aside0.mk (And.intro (Kd.N_reads' ho4).2.1 (Kd.N_reads' ho4).2.2); have HN := Aside0.mk (Kd.C_below HN.out hb); have HB := Aside0.mk (below_step HB.out hb); clear ho4 hb))
        | (go_at_call 73; go_loud (with_reducible refine (K3.out _ _ _ HO.out.2 HO.out.1).mono ?_); rintro e_ w4 ⟨v4, rfl, hv4, hb4⟩; obtain ⟨Ac, cc, rfl, hl9, hf9⟩ := Kd.R_reads hv4; have HCT := Aside0.mk (And.intro hl9 hf9); have HN := Aside0.mk (Kd.C_below HN.out hb4); have HB := Aside0.mk (below_step HB.out hb4); clear hv4 hl9 hf9 hb4)
        | (go_at_call 36; go_loud ((with_reducible refine (K4.out _ _ _ _ HN.out (Kd.C_below HC3.out HB.out) HCT.out.2 HCT.out.1).mono ?_); rintro e_ w5 ⟨v5, rfl, hv5, hb5⟩; have HV := Aside0.mk (OwnV.lower hv5 HB.out.size); have HB := Aside0.mk (below_step HB.out hb5); clear hv5 hb5)))
      go_ret2
      exact ⟨_, rfl, HV.out, HB.out⟩
end Go.Proofs.Ythijjpiddelefaa.KmSum
namespace Go.Proofs.Ythijjpiddelefaa.PureKm
open Go.Proofs.Ythijjpiddelefaa Go.RowKit Go.Proofs.Ythijjpiddelefaa.SpSum Go.Proofs.Ythijjpiddelefaa.Sponge Go.Proofs.Ythijjpiddelefaa.PSp Go.Proofs.YthijjpiddelefaaW.PrintWords Go.Proofs.YthijjpiddelefaaW.PrintLast CodeMath SpMath CodeSp OctMath Store Go.Proofs.Ythijjpiddelefaa.Pure Concat SpNamed KmSum
set_option linter.unusedVariables false
theorem sumL_length (m : List Int) (rate : Nat) (mark : Int) (n : Nat) (h : Rateds (rate : Int)) : (sumL m rate mark n).length = n := by
  unfold sumL
  rw [List.length_take, outL_length]
  have h1 := turns_ge n rate (by have := h.1; omega)
  have h2 : 8 * (rate / 8) = rate := by have := h.2.2; omega
  rw [h2]
  omega
theorem sumL_grow (m : List Int) (rate : Nat) (mark : Int) (a b : Nat) (h : Rateds (rate : Int)) : (sumL m rate mark (a + b)).take a = sumL m rate mark a := by
  unfold sumL
  rw [List.take_take, Nat.min_eq_left (by omega)]
  have h1 := turns_ge a rate (by have := h.1; omega)
  have h2 : 8 * (rate / 8) = rate := by have := h.2.2; omega
  exact outL_take _ _ _ _ _ (by rw [h2]; exact h1) (Nat.div_le_div_right (by omega))
theorem bits_of (n : Nat) : Bits (128 * (1 + ((n % 2 : Nat) : Int))) := by
  unfold Bits
  omega
theorem kmac_named (b : Int) (key m cu : List Int) (n : Int) (fr : Bool) : kmacL b key m cu n fr = sumL (padL (strL nameL ++ strL cu) (rateN b) ++ (headL b key ++ m ++ rightL (longN n fr).toNat)) (rateN b) 4 n.toNat := by
  unfold kmacL namedL
  rw [if_neg (by unfold nameL; simp)]
theorem kmac_len (b : Int) (key m cu : List Int) (n : Nat) (fr : Bool) : (kmacL b key m cu n fr).length = n := by
  rw [kmac_named, Int.toNat_natCast]
  exact sumL_length _ _ _ _ (rateN_ok b)
theorem kmac_grow (b : Int) (key m cu : List Int) (n n2 : Nat) : (kmacL b key m cu ((n + n2 : Nat) : Int) true).take n = kmacL b key m cu n true := by
  rw [kmac_named, kmac_named, Int.toNat_natCast, Int.toNat_natCast]
  have e : longN ((n + n2 : Nat) : Int) true = longN (n : Int) true := by
    unfold longN
    rw [if_pos rfl, if_pos rfl]
  rw [e]
  exact sumL_grow _ _ _ _ _ (rateN_ok b)
theorem stL_b (x : Int) (m : Nat) : IsB (stL x m) := by
  intro y hy
  unfold stL at hy
  obtain ⟨i, _, rfl⟩ := List.mem_map.1 hy
  exact ⟨Int.emod_nonneg _ (by decide), Int.emod_lt_of_pos _ (by decide)⟩
theorem told_b (a : List Int) : ∀ k, IsB (told a k)
  | 0 => IsB.nil
  | k + 1 => IsB.append (told_b a k) (stL_b _ _)
theorem outL_b (a : List Int) (q : Nat) : ∀ j, IsB (outL a q j)
  | 0 => IsB.nil
  | j + 1 => IsB.append (outL_b a q j) (told_b _ _)
theorem kmac_b (b : Int) (key m cu : List Int) (n : Int) (fr : Bool) : IsB (kmacL b key m cu n fr) := by
  rw [kmac_named]
  exact (outL_b _ _ _).take _
theorem xor1_byte (x : Int) (h : 0 ≤ x ∧ x < 256) : (0 ≤ Go.bits .xor .u8 x 1 ∧ Go.bits .xor .u8 x 1 < 256) ∧ Go.bits .xor .u8 x 1 ≠ x := by
  have key : ∀ a : Nat, a < 16 → ∀ c : Nat, c < 16 → (0 ≤ Go.bits .xor .u8 ((16 * a + c : Nat) : Int) 1 ∧ Go.bits .xor .u8 ((16 * a + c : Nat) : Int) 1 < 256) ∧ Go.bits .xor .u8 ((16 * a + c : Nat) : Int) 1 ≠ ((16 * a + c : Nat) : Int) := by decide +kernel
  obtain ⟨q, rfl⟩ : ∃ q : Nat, x = (q : Int) := ⟨x.toNat, by omega⟩
  have := key (q / 16) (by omega) (q % 16) (by omega)
  rwa [show 16 * (q / 16) + q % 16 = q by omega] at this
theorem flip_ne (l : List Int) (hl : IsB l) (i : Nat) (hi : i < l.length) : ((strOfNums l).toList == (strOfNums (l.set i (Go.bits .xor .u8 (l.getD i 0) 1))).toList) = false := by
  have hx := xor1_byte (l.getD i 0) (hl.getD i)
  have hb : IsB (l.set i (Go.bits .xor .u8 (l.getD i 0) 1)) := by
    intro y hy
    rcases List.mem_or_eq_of_mem_set hy with h | h
    · exact hl y h
    · rw [h]; exact hx.1
  rw [beq_eq_false_iff_ne]
  intro h
  have h2 := (str_eq _ _ hl hb).1 h
  have h3 : l[i]? = (l.set i (Go.bits .xor .u8 (l.getD i 0) 1))[i]? := congrArg (fun z => z[i]?) h2
  rw [List.getElem?_set, if_pos rfl, if_pos hi, List.getElem?_eq_getElem hi] at h3
  have h4 := Option.some.inj h3
  apply hx.2
  rw [← h4, List.getD_eq_getElem?_getD, List.getElem?_eq_getElem hi]
  rfl
end Go.Proofs.Ythijjpiddelefaa.PureKm
namespace Go.Proofs.Ythijjpiddelefaa.PureKm
open Go.Proofs.Ythijjpiddelefaa Go.RowKit Go.Proofs.Ythijjpiddelefaa.SpSum Go.Proofs.Ythijjpiddelefaa.Sponge Go.Proofs.Ythijjpiddelefaa.PSp Go.Proofs.YthijjpiddelefaaW.PrintWords Go.Proofs.YthijjpiddelefaaW.PrintLast CodeMath SpMath CodeSp Go.Proofs.Ythijjpiddelefaa.Pure Concat SpNamed KmSum
open Go.Proofs.Ythijjpiddelefaa.PKm (kmac_Says.f octet_Same.f)
set_option linter.unusedVariables false
section
variable {b : Int} {key m cu tag : List Int}
theorem says_any (hb : Bits b) (hk : key.length ≤ 1000000) (hm : m.length ≤ 100000000) (hc : cu.length ≤ 1000000) (bk : IsB key) (bm : IsB m) (bc : IsB cu) (n : Nat) (hn : 0 < n) (hn2 : n ≤ 65536) (ht : tag.length = n) (x : Bool) (hx : ((strOfNums (kmacL b key m cu n false)).toList == (strOfNums tag).toList) = x) : ∃ K, ∀ k, K ≤ k → kmac_Says.f k b key m cu tag = some x := by
  obtain ⟨K, e⟩ := sum_ev hb hk hm hc bk bm bc (n : Int) false ⟨by omega, by omega⟩
  refine ⟨K, fun k hk => ?_⟩
  have f0 := e k hk
  simp only at f0
  unfold kmac_Says.f
  rw [ht, if_neg (by omega), f0, Option.bind_some, if_pos rfl, ← hx]
  rfl
theorem says_self (hb : Bits b) (hk : key.length ≤ 1000000) (hm : m.length ≤ 100000000) (hc : cu.length ≤ 1000000) (bk : IsB key) (bm : IsB m) (bc : IsB cu) (n : Nat) (hn2 : n ≤ 65536) : ∃ K, ∀ k, K ≤ k → kmac_Says.f k b key m cu (kmacL b key m cu n false) = some (decide (0 < n)) := by
  by_cases h : 0 < n
  · rw [decide_eq_true h]
    exact says_any hb hk hm hc bk bm bc n h hn2 (kmac_len _ _ _ _ _ _) true (by simp)
  · rw [decide_eq_false h]
    refine ⟨0, fun k _ => ?_⟩
    unfold kmac_Says.f
    rw [kmac_len, if_pos (by omega)]
theorem says_flip (hb : Bits b) (hk : key.length ≤ 1000000) (hm : m.length ≤ 100000000) (hc : cu.length ≤ 1000000) (bk : IsB key) (bm : IsB m) (bc : IsB cu) (n i : Nat) (hi : i < n) (hn2 : n ≤ 65536) : ∃ K, ∀ k, K ≤ k → kmac_Says.f k b key m cu ((kmacL b key m cu n false).set i (Go.bits .xor .u8 ((kmacL b key m cu n false).getD i 0) 1)) = some false :=
  says_any hb hk hm hc bk bm bc n (by omega) hn2 (by rw [List.length_set, kmac_len]) false (flip_ne _ (kmac_b _ _ _ _ _ _) i (by rw [kmac_len]; exact hi))
end
end Go.Proofs.Ythijjpiddelefaa.PureKm
namespace Go.Proofs.Ythijjpiddelefaa.KmFree
open Go Go.RowKit Go.Proofs.Ythijjpiddelefaa Go.Proofs.Ythijjpiddelefaa.PSp Go.Proofs.YthijjpiddelefaaW.PrintWords Go.Proofs.YthijjpiddelefaaW.PrintLast Go.Proofs.YthijjpiddelefaaW.PrintMore Byte Sl Arr Mem Gives OctMath Store SWord CodeMath SpMath Chunk Sponge SpSum KmSum KmLaw
set_option linter.unusedVariables false
set_option linter.unusedSimpArgs false
set_option maxHeartbeats 4000000
set_option maxRecDepth 100000
theorem Six.free {w : World} {g : Nat} {v0 v1 v2 v3 v4 v5 : Value} (h : Six w g v0 v1 v2 v3 v4 v5) (i : Nat) : w.frozen? ⟨g, i, none⟩ = false := by
  unfold World.frozen?
  rw [h]
  simp
theorem Six.oth {w : World} {g : Nat} {v0 v1 v2 v3 v4 v5 : Value} (h : Six w g v0 v1 v2 v3 v4 v5) {g2 : Nat} (hne : g2 ≠ g) (i : Nat) (x : Value) : Six (w.setCell ⟨g2, i, none⟩ x) g v0 v1 v2 v3 v4 v5 := by
  unfold Six at h ⊢
  rw [← h]
  show (w.heap.modify g2 _)[g]? = _
  rw [Array.getElem?_modify, if_neg hne]
theorem Six.drew {w : World} {g : Nat} {v0 v1 v2 v3 v4 v5 : Value} (h : Six w g v0 v1 v2 v3 v4 v5) : Six w.drew g v0 v1 v2 v3 v4 v5 := h
theorem says_n (k : Nat) (A1 A2 A3 : Option Addr) (c1 c2 c3 : Nat) (key m cu : List Int) (B : Int) (n : Nat) (c : List Int) (sz : Bool) (hc1 : key.length ≤ c1) (hc2 : m.length ≤ c2) (hc3 : cu.length ≤ c3) (hlc : n = c.length) (eS : PKm.kmac_Says.f k B key m cu c = some sz) (cap : Nat) (A : Option Addr) (W : World) (h1 : Kd.C (Kd.int .u8) W A1 key.length key) (h2 : Kd.C (Kd.int .u8) W A2 m.length m) (h3 : Kd.C (Kd.int .u8) W A3 cu.length cu) (h4 : Kd.C (Kd.int .u8) W A c.length c) (h5 : n ≤ cap) :
    Calls Try.prog 51 #[.int .i64 B, .slice A1 key.length c1, .slice A2 m.length c2, .slice A3 cu.length c3, .slice A n cap] W fun e w' => e = .returned (.bool sz) ∧ Below W.heap.size W w' := by
  subst hlc
  exact PKm.kmac_Says.calls k B A1 c1 key A2 c2 m A3 c3 cu A cap c sz W h1 hc1 h2 hc2 h3 hc3 h4 h5 eS
theorem kmf_awake (k : Nat) (A1 A2 A3 : Option Addr) (c1 c2 c3 : Nat) (key m cu : List Int) (b0 nx : Int) (n mo nb : Nat) (at_ q q1 B : Int) (fr : Bool) (w : World) (hC1 : Kd.C (Kd.int .u8) w A1 key.length key) (hC2 : Kd.C (Kd.int .u8) w A2 m.length m) (hC3 : Kd.C (Kd.int .u8) w A3 cu.length cu) (hc1 : key.length ≤ c1) (hc2 : m.length ≤ c2) (hc3 : cu.length ≤ c3) (f1 : IntKind.i64.wrap (n : Int) = (n : Int)) (f2 : Int.tmod (n : Int) 2 = q) (f3 : wrap64 (1 + q) = q1) (f4 : wrap64 (128 * q1) = B) (eA : PKm.visorlaw16_awake.f k = some true) (hg : PKm.visorlaw16_great.f B (n : Int) key m cu fr = some true) :
    Calls Try.prog 11 #[.agg #[.int .i64 b0, .int .i64 nx, .slice A1 key.length c1, .slice A2 m.length c2, .slice A3 cu.length c3, .bool fr], .int .u8 (n : Int), .int .u8 (mo : Int), .int .i64 at_] w fun e w' => e = .returned (.bool true) ∧ Below w.heap.size w w' := by
  have HC1 := Aside0.mk hC1
  have HC2 := Aside0.mk hC2
  have HC3 := Aside0.mk hC3
  have HL := Aside0.mk (And.intro hc1 (And.intro hc2 hc3))
  have M1 := Aside0.mk (Six.new w (.int .i64 b0) (.int .i64 nx) (.slice A1 key.length c1) (.slice A2 m.length c2) (.slice A3 cu.length c3) (.bool fr))
  have HB := Aside0.mk (below_alloc (Below.refl w.heap.size w) (.cells #[.int .i64 b0, .int .i64 nx, .slice A1 key.length c1, .slice A2 m.length c2, .slice A3 cu.length c3, .bool fr] 62))
  have KA := Aside0.mk (fun W => PKm.visorlaw16_awake.calls k true W eA)
  have KG := Aside0.mk (fun W h1 h2 h3 => PKm.visorlaw16_great.calls B n A1 c1 key A2 c2 m A3 c3 cu fr true W h1 hc1 h2 hc2 h3 hc3 hg)
  clear hC1 hC2 hC3 hc1 hc2 hc3 hg eA
  go_enter Try.func11, Try.ntmps11
  go_upto_region 1 with (fail)
  have hg0 := M1.out.c0
  have hz0 := Six.free M1.out 0
  go_upto_region 2 with (fail)
  clear hg0 hz0
  have M1 := Aside0.mk (Six.new w (.int .i64 B) (.int .i64 nx) (.slice A1 key.length c1) (.slice A2 m.length c2) (.slice A3 cu.length c3) (.bool fr))
  have hg1 := M1.out.c1
  have hz1 := Six.free M1.out 1
  go_upto_region 3 with (fail)
  clear hg1 hz1 f2 f3 f4
  have M1 := Aside0.mk (Six.new w (.int .i64 B) (.int .i64 (n : Int)) (.slice A1 key.length c1) (.slice A2 m.length c2) (.slice A3 cu.length c3) (.bool fr))
  have HB := Aside0.mk (below_alloc (Below.refl w.heap.size w) (.cells #[.int .i64 B, .int .i64 (n : Int), .slice A1 key.length c1, .slice A2 m.length c2, .slice A3 cu.length c3, .bool fr] 62))
  have hg0 := M1.out.c0; have hg1 := M1.out.c1; have hg2 := M1.out.c2; have hg3 := M1.out.c3; have hg4 := M1.out.c4; have hg5 := M1.out.c5
  go_wp2_with (first
      | (go_at_call 44; go_loud ((with_reducible refine (KG.out _ (Kd.C_below HC1.out HB.out) (Kd.C_below HC2.out HB.out) (Kd.C_below HC3.out HB.out)).mono ?_); rintro e_ w2 ⟨rfl, hb_⟩; have M1 := Aside0.mk (Six.below M1.out hb_); have hg0 := M1.out.c0; have hg1 := M1.out.c1; have hg2 := M1.out.c2; have hg3 := M1.out.c3; have hg4 := M1.out.c4; have hg5 := M1.out.c5; (try have HVa := Aside0.mk (And.intro HVa.out.1 (Kd.C_below HVa.out.2 hb_))); (try have HVb := Aside0.mk (And.intro HVb.out.1 (Kd.C_below HVb.out.2 hb_))); (try have HO := Aside0.mk (Kd.R_below HO.out hb_)); have HB := Aside0.mk (below_step HB.out hb_); clear hb_))
      | (go_at_call 45; (with_reducible refine (KA.out _).mono ?_); rintro e_ w9 ⟨rfl, hb9⟩; have HB9 := Aside0.mk (below_step HB.out hb9); clear hb9))
  go_ret
  exact ⟨rfl, HB9.out⟩
theorem kmf_main (k : Nat) (a bb c : List Int) (sz : Bool) (A1 A2 A3 : Option Addr) (c1 c2 c3 : Nat) (key m cu : List Int) (b0 nx : Int) (n mo nb : Nat) (at_ q q1 B : Int) (fr : Bool) (w : World) (hC1 : Kd.C (Kd.int .u8) w A1 key.length key) (hC2 : Kd.C (Kd.int .u8) w A2 m.length m) (hC3 : Kd.C (Kd.int .u8) w A3 cu.length cu) (hc1 : key.length ≤ c1) (hc2 : m.length ≤ c2) (hc3 : cu.length ≤ c3) (f1 : IntKind.i64.wrap (n : Int) = (n : Int)) (f2 : Int.tmod (n : Int) 2 = q) (f3 : wrap64 (1 + q) = q1) (f4 : wrap64 (128 * q1) = B) (eA : PKm.visorlaw16_awake.f k = some true) (hg : PKm.visorlaw16_great.f B (n : Int) key m cu fr = some false)
    (f5 : IntKind.i64.wrap (mo : Int) = (mo : Int)) (f6 : wrap64 ((n : Int) + (mo : Int)) = (nb : Int)) (hle : n ≤ nb) (hsz : sz = decide ((0 : Int) < (n : Int)))
    (hla : a.length = n) (hlb : bb.length = nb) (hlc : n = c.length) (hgrow : bb.take n = a)
    (e1 : kmac_Sum.f k B key m cu (n : Int) true = some (a, 0)) (e2 : kmac_Sum.f k B key m cu (nb : Int) true = some (bb, 0))
    (KO0 : ∀ W : World, Kd.C (Kd.int .u8) W A1 key.length key → Kd.C (Kd.int .u8) W A2 m.length m → Kd.C (Kd.int .u8) W A3 cu.length cu → Calls Try.prog 47 #[.int .i64 B, .slice A1 key.length c1, .slice A2 m.length c2, .slice A3 cu.length c3, .int .i64 (n : Int), .bool false] W fun e' w' => ∃ v0_ : Value, e' = .returned (.tuple #[v0_, .int .i64 0]) ∧ OwnV w' W.heap.size v0_ n c ∧ Below W.heap.size W w')
    (eS : PKm.kmac_Says.f k B key m cu c = some sz)
    (hat : (at_ < 0) ∨ (¬ at_ < 0 ∧ (n : Int) ≤ at_) ∨ (0 ≤ at_ ∧ at_ < (n : Int) ∧ PKm.kmac_Says.f k B key m cu (c.set at_.toNat (Go.bits .xor .u8 (c.getD at_.toNat 0) 1)) = some false)) :
    Calls Try.prog 11 #[.agg #[.int .i64 b0, .int .i64 nx, .slice A1 key.length c1, .slice A2 m.length c2, .slice A3 cu.length c3, .bool fr], .int .u8 (n : Int), .int .u8 (mo : Int), .int .i64 at_] w fun e w' => e = .returned (.bool true) ∧ Below w.heap.size w w' := by
  have HC1 := Aside0.mk hC1
  have HC2 := Aside0.mk hC2
  have HC3 := Aside0.mk hC3
  have HL := Aside0.mk (And.intro hc1 (And.intro hc2 hc3))
  have M1 := Aside0.mk (Six.new w (.int .i64 b0) (.int .i64 nx) (.slice A1 key.length c1) (.slice A2 m.length c2) (.slice A3 cu.length c3) (.bool fr))
  have HB := Aside0.mk (below_alloc (Below.refl w.heap.size w) (.cells #[.int .i64 b0, .int .i64 nx, .slice A1 key.length c1, .slice A2 m.length c2, .slice A3 cu.length c3, .bool fr] 62))
  have KA := Aside0.mk (fun W => PKm.visorlaw16_awake.calls k true W eA)
  have KG := Aside0.mk (fun W h1 h2 h3 => PKm.visorlaw16_great.calls B n A1 c1 key A2 c2 m A3 c3 cu fr false W h1 hc1 h2 hc2 h3 hc3 hg)
  have KS1 := Aside0.mk (fun W h1 h2 h3 => KmSum.kmac_Sum.calls k B A1 c1 key A2 c2 m A3 c3 cu n true a 0 W h1 hc1 h2 hc2 h3 hc3 e1)
  have KS2 := Aside0.mk (fun W h1 h2 h3 => KmSum.kmac_Sum.calls k B A1 c1 key A2 c2 m A3 c3 cu nb true bb 0 W h1 hc1 h2 hc2 h3 hc3 e2)
  have KO := Aside0.mk KO0
  have KF := Aside0.mk (fun cap A W h1 h2 h3 h4 h5 => says_n k A1 A2 A3 c1 c2 c3 key m cu B n c sz hc1 hc2 hc3 hlc eS cap A W h1 h2 h3 h4 h5)
  have SAM0 := Aside0.mk (fun A c B d W hA hc hB hd' => same_m A c B d n a hla W hA hc hB hd')
  have HNA := Aside0.mk hla
  have HNB := Aside0.mk hlb
  have HNC := Aside0.mk hlc
  have HGR := Aside0.mk hgrow
  have HAT := Aside0.mk hat
  have HSZ := Aside0.mk hsz
  have HLE := Aside0.mk hle
  clear hC1 hC2 hC3 hc1 hc2 hc3 hg eA e1 e2 KO0 eS hla hlb hlc hgrow hat hsz hle
  go_enter Try.func11, Try.ntmps11
  go_upto_region 1 with (fail)
  have hg0 := M1.out.c0
  have hz0 := Six.free M1.out 0
  go_upto_region 2 with (fail)
  clear hg0 hz0
  have M1 := Aside0.mk (Six.new w (.int .i64 B) (.int .i64 nx) (.slice A1 key.length c1) (.slice A2 m.length c2) (.slice A3 cu.length c3) (.bool fr))
  have hg1 := M1.out.c1
  have hz1 := Six.free M1.out 1
  go_upto_region 3 with (fail)
  clear hg1 hz1 f2 f3 f4
  have M1 := Aside0.mk (Six.new w (.int .i64 B) (.int .i64 (n : Int)) (.slice A1 key.length c1) (.slice A2 m.length c2) (.slice A3 cu.length c3) (.bool fr))
  have HB := Aside0.mk (below_alloc (Below.refl w.heap.size w) (.cells #[.int .i64 B, .int .i64 (n : Int), .slice A1 key.length c1, .slice A2 m.length c2, .slice A3 cu.length c3, .bool fr] 62))
  have hg0 := M1.out.c0; have hg1 := M1.out.c1; have hg2 := M1.out.c2; have hg3 := M1.out.c3; have hg4 := M1.out.c4; have hg5 := M1.out.c5
  go_upto_region 5 with (first
    | (go_at_call 44; go_loud ((with_reducible refine (KG.out _ (Kd.C_below HC1.out HB.out) (Kd.C_below HC2.out HB.out) (Kd.C_below HC3.out HB.out)).mono ?_); rintro e_ w2 ⟨rfl, hb_⟩; have M1 := Aside0.mk (Six.below M1.out hb_); have hg0 := M1.out.c0; have hg1 := M1.out.c1; have hg2 := M1.out.c2; have hg3 := M1.out.c3; have hg4 := M1.out.c4; have hg5 := M1.out.c5; (try have HVa := Aside0.mk (And.intro HVa.out.1 (Kd.C_below HVa.out.2 hb_))); (try have HVb := Aside0.mk (And.intro HVb.out.1 (Kd.C_below HVb.out.2 hb_))); (try have HO := Aside0.mk (Kd.R_below HO.out hb_)); have HB := Aside0.mk (below_step HB.out hb_); clear hb_)))
  go_upto_region 6 with (first
    | (go_at_call 47; (with_reducible refine (KS1.out _ (Kd.C_below HC1.out HB.out) (Kd.C_below HC2.out HB.out) (Kd.C_below HC3.out HB.out)).mono ?_); rintro e_ w2 ⟨v2, rfl, hv2, hb_⟩; have M1 := Aside0.mk (Six.below M1.out hb_); have hg0 := M1.out.c0; have hg1 := M1.out.c1; have hg2 := M1.out.c2; have hg3 := M1.out.c3; have hg4 := M1.out.c4; have hg5 := M1.out.c5; (try have HVa := Aside0.mk (And.intro HVa.out.1 (Kd.C_below HVa.out.2 hb_))); (try have HVb := Aside0.mk (And.intro HVb.out.1 (Kd.C_below HVb.out.2 hb_))); (try have HO := Aside0.mk (Kd.R_below HO.out hb_)); have HB := Aside0.mk (below_step HB.out hb_); clear hb_; obtain ⟨Aa, ca, rfl, hl2, hf2⟩ := hv2; rw [HNA.out] at hl2 hf2 ⊢; have HVa := Aside0.mk (And.intro hl2 (Kd.F_now hf2)); clear hl2 hf2))
  go_upto_region 7 with (first
    | (go_at_call 47; (with_reducible refine (KS2.out _ (Kd.C_below HC1.out HB.out) (Kd.C_below HC2.out HB.out) (Kd.C_below HC3.out HB.out)).mono ?_); rintro e_ w2 ⟨v2, rfl, hv2, hb_⟩; have M1 := Aside0.mk (Six.below M1.out hb_); have hg0 := M1.out.c0; have hg1 := M1.out.c1; have hg2 := M1.out.c2; have hg3 := M1.out.c3; have hg4 := M1.out.c4; have hg5 := M1.out.c5; (try have HVa := Aside0.mk (And.intro HVa.out.1 (Kd.C_below HVa.out.2 hb_))); (try have HVb := Aside0.mk (And.intro HVb.out.1 (Kd.C_below HVb.out.2 hb_))); (try have HO := Aside0.mk (Kd.R_below HO.out hb_)); have HB := Aside0.mk (below_step HB.out hb_); clear hb_; obtain ⟨Ab, cb, rfl, hl2, hf2⟩ := hv2; rw [HNB.out] at hl2 hf2 ⊢; have HVb := Aside0.mk (And.intro hl2 (Kd.F_now hf2)); clear hl2 hf2))
  go_upto_region 8 with (first
    | (go_at_call 47; (with_reducible refine (KO.out _ (Kd.C_below HC1.out HB.out) (Kd.C_below HC2.out HB.out) (Kd.C_below HC3.out HB.out)).mono ?_); rintro e_ w2 ⟨v2, rfl, hv2, hb_⟩; have HLT := Aside0.mk M1.out.lt; have M1 := Aside0.mk (Six.below M1.out hb_); have hg0 := M1.out.c0; have hg1 := M1.out.c1; have hg2 := M1.out.c2; have hg3 := M1.out.c3; have hg4 := M1.out.c4; have hg5 := M1.out.c5; (try have HVa := Aside0.mk (And.intro HVa.out.1 (Kd.C_below HVa.out.2 hb_))); (try have HVb := Aside0.mk (And.intro HVb.out.1 (Kd.C_below HVb.out.2 hb_))); (try have HO := Aside0.mk (Kd.R_below HO.out hb_)); have HB := Aside0.mk (below_step HB.out hb_); clear hb_; obtain ⟨Ac, cc, rfl, hl2, hf2⟩ := hv2; have HO := Aside0.mk hf2; clear hl2 hf2))
  have HCB := HVb.out.1
  have hi1 : (n : Int) ≤ (cb : Int) := by have := HLE.out; omega
  have hi2 := HLE.out
  have HVT := Aside0.mk (show Kd.C (Kd.int .u8) _ Ab n a by
    have h0 := HVb.out.2
    rw [← HNB.out] at h0
    have h := Kd.C_take h0 (m := n) (by rw [HNB.out]; exact HLE.out)
    rw [HGR.out, HNA.out] at h
    exact h)
  have SAM := Aside0.mk (fun W hA hB => SAM0.out Ab cb Aa ca W hA (Nat.le_trans HLE.out HVb.out.1) hB HVa.out.1)
  go_upto_region 10 with (first
    | (go_at_call 31; (with_reducible refine (SAM.out _ HVT.out HVa.out.2).mono ?_); rintro e_ w2 ⟨rfl, hd_⟩; have hb_ := hd_.below; clear hd_; have M1 := Aside0.mk (Six.below M1.out hb_); have hg0 := M1.out.c0; have hg1 := M1.out.c1; have hg2 := M1.out.c2; have hg3 := M1.out.c3; have hg4 := M1.out.c4; have hg5 := M1.out.c5; (try have HVa := Aside0.mk (And.intro HVa.out.1 (Kd.C_below HVa.out.2 hb_))); (try have HVb := Aside0.mk (And.intro HVb.out.1 (Kd.C_below HVb.out.2 hb_))); (try have HO := Aside0.mk (Kd.R_below HO.out hb_)); have HB := Aside0.mk (below_step HB.out hb_); clear hb_))
  clear f1 f5 f6 hi1 hi2 HCB HVa HVb HVT
  by_cases hp : (0 : Int) < (n : Int)
  case' pos => obtain rfl : sz = true := by rw [HSZ.out, decide_eq_true hp]
  case' pos => have hpn : 0 < n := by omega
  case' neg => obtain rfl : sz = false := by rw [HSZ.out, decide_eq_false hp]
  case' neg => have hpn : ¬ 0 < n := by omega
  all_goals
    refine start_ (n := 14) (S := fun w' => w'.cell? ⟨w.heap.size, 0, none⟩ = some (.int .i64 B) ∧ w'.cell? ⟨w.heap.size, 1, none⟩ = some (.int .i64 (n : Int)) ∧ w'.cell? ⟨w.heap.size, 2, none⟩ = some (.slice A1 key.length c1) ∧ w'.cell? ⟨w.heap.size, 3, none⟩ = some (.slice A2 m.length c2) ∧ w'.cell? ⟨w.heap.size, 4, none⟩ = some (.slice A3 cu.length c3)) (ds := []) #[false, false, false, false, false, false, false, false, false, false, false, false, false, false] (by kernel_rfl) rfl rfl ⟨(Six.c0 (Six.drew M1.out)), (Six.c1 (Six.drew M1.out)), (Six.c2 (Six.drew M1.out)), (Six.c3 (Six.drew M1.out)), (Six.c4 (Six.drew M1.out))⟩ (fun hHeld => ?_)
    refine pure_ (i := 0) (N := some 115) (v := ?_) (a' := ?_) #[true, false, false, false, false, false, false, false, false, false, false, false, false, false] rfl rfl (by kernel_rfl) (fun _ _ _ h => h) (Or.inl ⟨by rfl, ?_⟩) ?_ ?_
    rotate_left
    · intro w'
      go_simp
      with_reducible rfl
    rotate_left
    · simp only [Act.put, List.setIfInBounds_toArray, List.set_cons_zero, List.set_cons_succ, i64_w, i32_w]
      rfl
    refine pure_ (i := 2) (N := some 117) (v := ?_) (a' := ?_) #[true, false, true, false, false, false, false, false, false, false, false, false, false, false] rfl rfl (by kernel_rfl) (fun _ _ _ h => h) (Or.inl ⟨by rfl, ?_⟩) ?_ ?_
    rotate_left
    · intro w'
      go_simp
      with_reducible rfl
    rotate_left
    · simp only [Act.put, List.setIfInBounds_toArray, List.set_cons_zero, List.set_cons_succ, i64_w, i32_w]
      rfl
    refine pure_ (i := 4) (N := some 119) (v := ?_) (a' := ?_) #[true, false, true, false, true, false, false, false, false, false, false, false, false, false] rfl rfl (by kernel_rfl) (fun _ _ _ h => h) (Or.inl ⟨by rfl, ?_⟩) ?_ ?_
    rotate_left
    · intro w'
      go_simp
      with_reducible rfl
    rotate_left
    · simp only [Act.put, List.setIfInBounds_toArray, List.set_cons_zero, List.set_cons_succ, i64_w, i32_w]
      rfl
    refine pure_ (i := 6) (N := some 121) (v := ?_) (a' := ?_) #[true, false, true, false, true, false, true, false, false, false, false, false, false, false] rfl rfl (by kernel_rfl) (fun _ _ _ h => h) (Or.inl ⟨by rfl, ?_⟩) ?_ ?_
    rotate_left
    · intro w'
      go_simp
      with_reducible rfl
    rotate_left
    · simp only [Act.put, List.setIfInBounds_toArray, List.set_cons_zero, List.set_cons_succ, i64_w, i32_w]
      rfl
    refine pure_ (i := 8) (N := some 123) (v := ?_) (a' := ?_) #[true, false, true, false, true, false, true, false, true, false, false, false, false, false] rfl rfl (by kernel_rfl) (fun _ _ _ h => h) (Or.inl ⟨by rfl, ?_⟩) ?_ ?_
    rotate_left
    · intro w'
      go_simp
      with_reducible rfl
    rotate_left
    · simp only [Act.put, List.setIfInBounds_toArray, List.set_cons_zero, List.set_cons_succ, i64_w, i32_w]
      rfl
    refine pure_ (i := 10) (N := some 125) (v := ?_) (a' := ?_) #[true, false, true, false, true, false, true, false, true, false, true, false, false, false] rfl rfl (by kernel_rfl) (fun _ _ _ h => h) (Or.inl ⟨by rfl, ?_⟩) ?_ ?_
    rotate_left
    · intro w'
      go_simp
      with_reducible rfl
    rotate_left
    · simp only [Act.put, List.setIfInBounds_toArray, List.set_cons_zero, List.set_cons_succ, i64_w, i32_w]
      rfl
    refine take_ (i := 1) (N := some 116) (v := ?_) (a' := ?_) #[true, true, true, false, true, false, true, false, true, false, true, false, false, false] rfl rfl (by kernel_rfl) (fun _ _ _ h => h) (Or.inl ⟨by rfl, ?_⟩) hHeld ?_ ?_
    rotate_left
    · rintro w' ⟨s0, s1, s2, s3, s4⟩
      go_simp
      with_reducible rfl
    rotate_left
    · simp only [Act.put, List.setIfInBounds_toArray, List.set_cons_zero, List.set_cons_succ, i64_w, i32_w]
      rfl
    refine take_ (i := 3) (N := some 118) (v := ?_) (a' := ?_) #[true, true, true, true, true, false, true, false, true, false, true, false, false, false] rfl rfl (by kernel_rfl) (fun _ _ _ h => h) (Or.inl ⟨by rfl, ?_⟩) hHeld ?_ ?_
    rotate_left
    · rintro w' ⟨s0, s1, s2, s3, s4⟩
      go_simp
      with_reducible rfl
    rotate_left
    · simp only [Act.put, List.setIfInBounds_toArray, List.set_cons_zero, List.set_cons_succ, i64_w, i32_w]
      rfl
    refine take_ (i := 5) (N := some 120) (v := ?_) (a' := ?_) #[true, true, true, true, true, true, true, false, true, false, true, false, false, false] rfl rfl (by kernel_rfl) (fun _ _ _ h => h) (Or.inl ⟨by rfl, ?_⟩) hHeld ?_ ?_
    rotate_left
    · rintro w' ⟨s0, s1, s2, s3, s4⟩
      go_simp
      with_reducible rfl
    rotate_left
    · simp only [Act.put, List.setIfInBounds_toArray, List.set_cons_zero, List.set_cons_succ, i64_w, i32_w]
      rfl
    refine take_ (i := 7) (N := some 122) (v := ?_) (a' := ?_) #[true, true, true, true, true, true, true, true, true, false, true, false, false, false] rfl rfl (by kernel_rfl) (fun _ _ _ h => h) (Or.inl ⟨by rfl, ?_⟩) hHeld ?_ ?_
    rotate_left
    · rintro w' ⟨s0, s1, s2, s3, s4⟩
      go_simp
      with_reducible rfl
    rotate_left
    · simp only [Act.put, List.setIfInBounds_toArray, List.set_cons_zero, List.set_cons_succ, i64_w, i32_w]
      rfl
    refine take_ (i := 11) (N := some 126) (v := ?_) (a' := ?_) #[true, true, true, true, true, true, true, true, true, false, true, true, false, false] rfl rfl (by kernel_rfl) (fun _ _ _ h => h) (Or.inl ⟨by rfl, ?_⟩) hHeld ?_ ?_
    rotate_left
    · rintro w' ⟨s0, s1, s2, s3, s4⟩
      go_simp
      with_reducible rfl
    rotate_left
    · simp only [Act.put, List.setIfInBounds_toArray, List.set_cons_zero, List.set_cons_succ, i64_w, i32_w]
      rfl
    refine pure_ (i := 12) (N := some 127) (v := ?_) (a' := ?_) #[true, true, true, true, true, true, true, true, true, false, true, true, true, false] rfl rfl (by kernel_rfl) (fun _ _ _ h => h) (Or.inl ⟨by rfl, ?_⟩) ?_ ?_
    rotate_left
    · intro w'
      go_simp
      with_reducible rfl
    rotate_left
    · simp only [Act.put, List.setIfInBounds_toArray, List.set_cons_zero, List.set_cons_succ, i64_w, i32_w]
      rfl
    refine one_ (i := 9) (N := some 124) #[true, true, true, true, true, true, true, true, true, true, true, true, true, false] rfl rfl (by kernel_rfl) (by decide) (fun K hK => ?_)
    refine goes_ Try.func51 (by kernel_rfl) rfl #[.int .i64 B, .slice A1 key.length c1, .slice A2 m.length c2, .slice A3 cu.length c3, .slice Ac n n] (by rfl) rfl rfl (by simp only [List.map_toArray, List.map_cons, List.map_nil]; rfl) ?_
    with_reducible refine (KF.out n Ac _ (Kd.C_below HC1.out (below_drew HB.out)) (Kd.C_below HC2.out (below_drew HB.out)) (Kd.C_below HC3.out (below_drew HB.out)) (Kd.R_reads' (Kd.R_drew HO.out)).2.2 (Nat.le_refl _)).mono ?_
    rintro e_ w3 ⟨rfl, hb_⟩
    refine ⟨_, rfl, ?_⟩
    have M1 := Aside0.mk (Six.below (Six.drew M1.out) hb_)
    have HO := Aside0.mk (Kd.R_below (Kd.R_drew HO.out) hb_)
    have HB := Aside0.mk (below_step (below_drew HB.out) hb_)
    refine hK.out _ _ ⟨M1.out.c0, M1.out.c1, M1.out.c2, M1.out.c3, M1.out.c4⟩ (fun hHeld => ?_)
    clear hK K
    refine norm_ (a' := ?_) ?_ ?_
    rotate_left
    · show Act.put _ (some 124) _ = _
      simp only [Act.put, List.setIfInBounds_toArray, List.set_cons_zero, List.set_cons_succ, i64_w, i32_w]
      rfl
    refine pure_ (i := 13) (N := some 128) (v := ?_) (a' := ?_) #[true, true, true, true, true, true, true, true, true, true, true, true, true, true] rfl rfl (by kernel_rfl) (fun _ _ _ h => h) (Or.inl ⟨by rfl, ?_⟩) ?_ ?_
    rotate_left
    · intro w'
      go_simp
      with_reducible rfl
    rotate_left
    · simp only [Act.put, List.setIfInBounds_toArray, List.set_cons_zero, List.set_cons_succ, i64_w, i32_w]
      rfl
    refine done_ (by kernel_rfl) ?_
    clear SAM KS1 KS2 KO KG
    rcases HAT.out with hx | ⟨hx, hy⟩ | ⟨hx, hy, hz⟩
    case' inl =>
      go_wp2_with (first
        | (go_at_call 45; (with_reducible refine (KA.out _).mono ?_); rintro e_ w9 ⟨rfl, hb9⟩; have HB9 := Aside0.mk (below_step HB.out hb9); clear hb9))
      go_ret
      exact ⟨rfl, HB9.out⟩
    case' inr.inl =>
      go_wp2_with (first
        | (go_at_call 45; (with_reducible refine (KA.out _).mono ?_); rintro e_ w9 ⟨rfl, hb9⟩; have HB9 := Aside0.mk (below_step HB.out hb9); clear hb9))
      go_ret
      exact ⟨rfl, HB9.out⟩
    case' inr.inr =>
      try exact absurd (show (0 : Int) < (n : Int) by omega) hp
    all_goals
      obtain ⟨p, rfl⟩ : ∃ p : Nat, at_ = (p : Int) := ⟨at_.toNat, by omega⟩
      rw [Int.toNat_natCast] at hz
      have KF2 := Aside0.mk (fun cap A W h1 h2 h3 h4 h5 => says_n k A1 A2 A3 c1 c2 c3 key m cu B n _ false HL.out.1 HL.out.2.1 HL.out.2.2 (by rw [List.length_set]; exact HNC.out) hz cap A W h1 h2 h3 h4 h5)
      have hw : ¬ (p : Int) < 0 := by omega
      have hv : ¬ (n : Int) ≤ (p : Int) := by omega
      clear hz KF
      go_upto_region 14 with (fail)
      obtain ⟨g, cap, hv2, hbg, hlt, _⟩ := Kd.R_form HO.out (by rw [← HNC.out]; omega)
      injection hv2 with e1 e2 e3
      subst e1
      subst e3
      obtain ⟨hx0, hf⟩ := Kd.R_celln (0 : Int) HO.out (p : Int) hx hy
      rw [Int.toNat_natCast] at hx0 hf
      have hxx := show _ = some (Value.int .u8 (c.getD (p : Int).toNat 0)) from hx0
      rw [Int.toNat_natCast] at hxx
      have h3 := (Kd.R_putg HO.out (p : Int) (Go.bits .xor .u8 (c.getD p 0) 1)).1
      rw [Int.toNat_natCast] at h3
      have HO2 := Aside0.mk (show Kd.R (Kd.int .u8) 5 _ _ _ _ _ from h3)
      have hgne : g ≠ w.heap.size := by have := HLT.out; omega
      have HG := Aside0.mk (show w.heap.size ≤ g by have := HLT.out; omega)
      have HNE := Aside0.mk hgne
      clear h3 hx0 hbg HO hlt hgne e2
      go_upto_region 15 with (fail)
      rw [List.getD_eq_getElem?_getD] at HO2 KF2
      have HB := Aside0.mk (below_set (j := p) (v := Value.int .u8 (Go.bits .xor .u8 (c[p]?.getD 0) 1)) HB.out HG.out)
      have M1 := Aside0.mk (Six.oth M1.out HNE.out p (Value.int .u8 (Go.bits .xor .u8 (c[p]?.getD 0) 1)))
      have HO := Aside0.mk HO2.out
      clear hxx hf HO2 hx hy hw hv hpn hp
      generalize hwx : World.setCell w3 _ _ = wx at *
      clear hwx
      have hg0 := M1.out.c0; have hg1 := M1.out.c1; have hg2 := M1.out.c2; have hg3 := M1.out.c3; have hg4 := M1.out.c4; have hg5 := M1.out.c5
      go_wp2_with (first
        | (go_at_call 51; go_loud ((with_reducible refine (KF2.out n _ _ (Kd.C_below HC1.out HB.out) (Kd.C_below HC2.out HB.out) (Kd.C_below HC3.out HB.out) (Kd.R_reads' HO.out).2.2 (Nat.le_refl _)).mono ?_); rintro e_ w2 ⟨rfl, hb_⟩; have M1 := Aside0.mk (Six.below M1.out hb_); have hg0 := M1.out.c0; have hg1 := M1.out.c1; have hg2 := M1.out.c2; have hg3 := M1.out.c3; have hg4 := M1.out.c4; have hg5 := M1.out.c5; (try have HO := Aside0.mk (Kd.R_below HO.out hb_)); have HB := Aside0.mk (below_step HB.out hb_); clear hb_))
        | (go_at_call 45; (with_reducible refine (KA.out _).mono ?_); rintro e_ w9 ⟨rfl, hb9⟩; have HB9 := Aside0.mk (below_step HB.out hb9); clear hb9))
      go_ret
      exact ⟨rfl, HB9.out⟩
end Go.Proofs.Ythijjpiddelefaa.KmFree
namespace Go.Proofs.Ythijjpiddelefaa.PureKm
open Go.Proofs.Ythijjpiddelefaa Go.RowKit Go.Proofs.Ythijjpiddelefaa.SpSum Go.Proofs.Ythijjpiddelefaa.Sponge Go.Proofs.Ythijjpiddelefaa.PSp Go.Proofs.YthijjpiddelefaaW.PrintWords Go.Proofs.YthijjpiddelefaaW.PrintLast CodeMath SpMath CodeSp Go.Proofs.Ythijjpiddelefaa.Pure Concat SpNamed KmSum
open Go.Proofs.Ythijjpiddelefaa.PKm (visorlaw16_great.f visorlaw16_awake.f kmac_Says.f octet_Same.f)
set_option linter.unusedVariables false
theorem awake16 : Ev (fun k => visorlaw16_awake.f k) true := by
  obtain ⟨K0, e0⟩ := head_ev (b := 128) (key := List.replicate 32 0) (.inl rfl) (by decide)
  refine ⟨K0, fun k hk => ?_⟩
  show visorlaw16_awake.f k = _
  have f0 := e0 k hk
  simp only at f0
  unfold visorlaw16_awake.f
  rw [if_pos (by decide), f0, Option.bind_some]
  decide +kernel
section
variable {b n : Int} {key m cu tag : List Int} {fr : Bool}
theorem great_no (h : ¬ (key.length > 400 ∨ m.length > 500 ∨ cu.length > 300 ∨ (n > 600 ∧ n ≤ 65536))) : visorlaw16_great.f b n key m cu fr = some false := by
  unfold visorlaw16_great.f
  rw [if_neg (by omega), if_neg (by omega), if_neg (by omega)]
  by_cases h6 : n > 600
  · rw [if_pos h6, decide_eq_false (by omega)]
  · rw [if_neg h6]
theorem great_yes (h : key.length > 400 ∨ m.length > 500 ∨ cu.length > 300 ∨ (n > 600 ∧ n ≤ 65536)) : visorlaw16_great.f b n key m cu fr = some true := by
  unfold visorlaw16_great.f
  split
  · rfl
  · split
    · rfl
    · split
      · rfl
      · rw [if_pos (by omega), decide_eq_true (by omega)]
end
end Go.Proofs.Ythijjpiddelefaa.PureKm
namespace Go.Proofs.Ythijjpiddelefaa.AskArg
open Go Go.RowKit Go.ChangeShapes Go.WideShapes Go.Proofs.Ythijjpiddelefaa.Slices Go.Proofs.Ythijjpiddelefaa.Arr Go.Proofs.Ythijjpiddelefaa.Arr3 Go.Proofs.YthijjpiddelefaaW.PrintWords CodeMath SpMath Sl
set_option maxRecDepth 100000
def IsAsked (w : World) (v : Value) : Prop := ∃ (b n : Int) (a0 : Option Addr) (l0 c0 : Nat) (z0 : List Int) (a1 : Option Addr) (l1 c1 : Nat) (z1 : List Int) (a2 : Option Addr) (l2 c2 : Nat) (z2 : List Int) (fr : Bool),
  v = .agg #[.int .i64 b, .int .i64 n, .slice a0 l0 c0, .slice a1 l1 c1, .slice a2 l2 c2, .bool fr] ∧ IsRow .u8 w a0 l0 c0 z0 ∧ IsRow .u8 w a1 l1 c1 z1 ∧ IsRow .u8 w a2 l2 c2 z2
section
variable {H : Type} {enc : TypeId × Value → H} {P : Program} {w : World} {base : Nat} {held : Bool}
theorem open_asked {r : Reach} {b0 : Nat} {v : Value} {d : DataW H} {p : List MemPlace} (hv : Value.okWide Try.prog w r b0 62 v) (h : DataW.Trod enc Try.prog w base (fun _ => true) held 62 v d p) : IsAsked w v := by
  obtain ⟨cs, rfl, hsz⟩ := okWide_struct Try.underlying62 hv
  obtain ⟨fuel, hf⟩ := h
  obtain ⟨xs, n, _, hx, hl, hxs, hfd⟩ := DataW.trod_struct Try.underlying62 hf
  have hcs : (Value.agg cs).cells.toList = cs.toList := rfl
  rw [hcs] at hfd hl
  have h6 : xs.length = 6 := hxs
  have c0 : Try.prog.cellsOf 3 = 1 := by kernel_rfl
  have c1 : Try.prog.cellsOf 22 = 1 := by kernel_rfl
  have c2 : Try.prog.cellsOf 4 = 1 := by kernel_rfl
  have cu : Try.prog.cellsOf 5 = 1 := by kernel_rfl
  obtain ⟨y0, y1, y2, y3, y4, y5, rfl⟩ : ∃ a b c d e f, xs = [a, b, c, d, e, f] := by
    match xs, h6 with
    | [a, b, c, d, e, f], _ => exact ⟨a, b, c, d, e, f, rfl⟩
  have t0 : DataW.trod enc Try.prog w base (fun _ => true) held n 3 ((cs.toList.drop 0).take (Try.prog.cellsOf 3)) = some y0 := hfd 0 _ rfl
  have t1 : DataW.trod enc Try.prog w base (fun _ => true) held n 3 ((cs.toList.drop 1).take (Try.prog.cellsOf 3)) = some y1 := hfd 1 _ rfl
  have t2 : DataW.trod enc Try.prog w base (fun _ => true) held n 22 ((cs.toList.drop 2).take (Try.prog.cellsOf 22)) = some y2 := hfd 2 _ rfl
  have t3 : DataW.trod enc Try.prog w base (fun _ => true) held n 22 ((cs.toList.drop 3).take (Try.prog.cellsOf 22)) = some y3 := hfd 3 _ rfl
  have t4 : DataW.trod enc Try.prog w base (fun _ => true) held n 22 ((cs.toList.drop 4).take (Try.prog.cellsOf 22)) = some y4 := hfd 4 _ rfl
  have t5 : DataW.trod enc Try.prog w base (fun _ => true) held n 4 ((cs.toList.drop 5).take (Try.prog.cellsOf 4)) = some y5 := hfd 5 _ rfl
  rw [c0] at t0 t1
  rw [c1] at t2 t3 t4
  rw [c2] at t5
  clear c0 c1 c2
  have hl6 : cs.toList.length = 6 := by rw [hl]; kernel_rfl
  obtain ⟨cl, hcl⟩ : ∃ cl, cs.toList = cl := ⟨_, rfl⟩
  have hcs2 : cs = cl.toArray := by rw [← hcl, Array.toArray_toList]
  rw [hcl] at t0 t1 t2 t3 t4 t5 hl6
  obtain ⟨v0, v1, v2, v3, v4, v5, rfl⟩ : ∃ a b c d e f, cl = [a, b, c, d, e, f] := by
    match cl, hl6 with
    | [a, b, c, d, e, f], _ => exact ⟨a, b, c, d, e, f, rfl⟩
  simp only [List.drop_zero, List.take_succ_cons, List.take_zero, List.drop_succ_cons] at t0 t1 t2 t3 t4 t5
  obtain ⟨n0, e0, _, _⟩ := DataW.trod_int Try.underlying3 t0
  obtain rfl : v0 = .int .i64 n0 := by simpa using e0
  obtain ⟨n1, e1, _, _⟩ := DataW.trod_int Try.underlying3 t1
  obtain rfl : v1 = .int .i64 n1 := by simpa using e1
  obtain ⟨a0, l0, k0, z0, rfl, w0⟩ := open_one (k := .u8) Try.underlying22 Try.underlying5 cu t2
  obtain ⟨a1, l1, k1, z1, rfl, w1⟩ := open_one (k := .u8) Try.underlying22 Try.underlying5 cu t3
  obtain ⟨a2, l2, k2, z2, rfl, w2⟩ := open_one (k := .u8) Try.underlying22 Try.underlying5 cu t4
  obtain ⟨fr, e5, _⟩ := DataW.trod_bool Try.underlying4 t5
  obtain rfl : v5 = .bool fr := by simpa using e5
  exact ⟨n0, n1, a0, l0, k0, z0, a1, l1, k1, z1, a2, l2, k2, z2, fr, by rw [hcs2], w0, w1, w2⟩
end
theorem row_C {w : World} {a : Option Addr} {len cap : Nat} {z : List Int} (h : Slices.IsRow .u8 w a len cap z) : ∃ x : List Int, x.length = len ∧ Kd.C (Kd.int .u8) w a x.length x ∧ x.length ≤ cap ∧ IsB x := by
  obtain ⟨hsl, hlen, hwf⟩ := h.sl
  obtain ⟨A, c, hv, hc, hC⟩ := hsl
  injection hv with e1 e2 e3
  subst e1
  subst e3
  exact ⟨z.take len, hlen, hC, hc, IsB.of_wf hwf⟩
end Go.Proofs.Ythijjpiddelefaa.AskArg
namespace Go.Proofs.Ythijjpiddelefaa.PureKm
open Go Go.RowKit Go.Proofs.Ythijjpiddelefaa Go.Proofs.Ythijjpiddelefaa.SpSum Go.Proofs.Ythijjpiddelefaa.Sponge Go.Proofs.Ythijjpiddelefaa.PSp Go.Proofs.YthijjpiddelefaaW.PrintWords Go.Proofs.YthijjpiddelefaaW.PrintLast CodeMath SpMath CodeSp OctMath Store Go.Proofs.Ythijjpiddelefaa.Pure Concat SpNamed KmSum Arr Byte
set_option linter.unusedVariables false
section
variable {b : Int} {key m cu : List Int}
theorem own_kmac (hb : Bits b) (hk : key.length ≤ 1000000) (hm : m.length ≤ 100000000) (hc : cu.length ≤ 1000000) (bk : IsB key) (bm : IsB m) (bc : IsB cu) (n : Nat) (hn : n ≤ 65536) (A1 A2 A3 : Option Addr) (c1 c2 c3 : Nat) (hc1 : key.length ≤ c1) (hc2 : m.length ≤ c2) (hc3 : cu.length ≤ c3)
    (W : World) (h1 : Kd.C (Kd.int .u8) W A1 key.length key) (h2 : Kd.C (Kd.int .u8) W A2 m.length m) (h3 : Kd.C (Kd.int .u8) W A3 cu.length cu) :
    Calls Try.prog 47 #[.int .i64 b, .slice A1 key.length c1, .slice A2 m.length c2, .slice A3 cu.length c3, .int .i64 (n : Int), .bool false] W fun e' w' => ∃ v0_ : Value, e' = .returned (.tuple #[v0_, .int .i64 0]) ∧ OwnV w' W.heap.size v0_ n (kmacL b key m cu n false) ∧ Below W.heap.size W w' := by
  have hn0 : (0 : Int) ≤ (n : Int) := Int.natCast_nonneg _
  have hl := longN_ok (n : Int) false hn0
  have hx : (longN (n : Int) false).toNat ≤ 8388608 := by omega
  obtain ⟨K0, e0⟩ := head_ev (key := key) hb hk
  obtain ⟨K1, e1⟩ := right_ev (longN (n : Int) false).toNat (by omega)
  obtain ⟨K2, e2⟩ := str_ev nameL (by decide)
  obtain ⟨K3, e3⟩ := str_ev cu (by omega)
  have l0 := strL_len nameL (by decide)
  have l1 := strL_len cu hc
  have hr := rateN_cases b
  obtain ⟨K4, e4⟩ := pad_ev (strL nameL ++ strL cu) (rateN b) (by omega) (by omega) (by rw [List.length_append]; have : nameL.length = 4 := rfl; omega)
  have hh := head_len (b := b) (x0 := nameL) (x1 := cu) (by decide) hc
  have hcl := cat_le (b := b) (key := key) (m := m) hk hm hx
  have h5 := headL_le (b := b) hk
  have h6 := rightL_le hx
  have f0 := e0 K0 (Nat.le_refl _)
  have f1 := e1 K1 (Nat.le_refl _)
  have f2 := e2 (K2 + K3 + K4) (by omega)
  have f3 := e3 (K2 + K3 + K4) (by omega)
  have f4 := e4 (K2 + K3 + K4) (by omega)
  simp only at f0 f1 f2 f3 f4
  rw [Int.toNat_of_nonneg hl.1] at f1
  refine kmsum_own K0 K1 A1 A2 A3 c1 c2 c3 b key m cu n false (headL b key) _ (headL b key ++ m ++ rightL (longN (n : Int) false).toNat) (kmacL b key m cu n false) W h1 h2 h3 hc1 hc2 hc3 f0 (join3 _ _ _ (by omega)) f1 hn ?_
  intro g A c W' g1 g2 g3 g4
  refine named_own (K2 + K3 + K4) b (rateN b : Int) A3 A c3 c cu _ _ _ _ _ _ (kmacL b key m cu n false) n g W' g1 g2 g3 hc3 g4 f2 f3 (concat2 _ _ (by have : nameL.length = 4 := rfl; omega)) (long_bits hb) f4 (concat2 _ _ (by omega)) ?_
  intro A' c' W2 k1 k2
  rw [kmac_named, Int.toNat_natCast]
  exact sum_own A' c' _ (rateN b) 4 n W2 k1 k2 (rateN_ok b) (by rw [List.length_append]; omega) hn (IsB.append (head_b (by decide) hc nameL_b bc) (catB hk bk bm hx)) (by decide)
end
theorem dec_n (n : Nat) : decide (0 < n) = decide ((0 : Int) < (n : Int)) := by
  by_cases h : 0 < n
  · have h2 : (0 : Int) < (n : Int) := by omega
    rw [decide_eq_true h, decide_eq_true h2]
  · have h2 : ¬ (0 : Int) < (n : Int) := by omega
    rw [decide_eq_false h, decide_eq_false h2]
theorem free_nums (n mo : Nat) (hn : n < 256) (hmo : mo < 256) : IntKind.i64.wrap (n : Int) = (n : Int) ∧ Int.tmod (n : Int) 2 = ((n % 2 : Nat) : Int) ∧ wrap64 (1 + ((n % 2 : Nat) : Int)) = 1 + ((n % 2 : Nat) : Int) ∧ wrap64 (128 * (1 + ((n % 2 : Nat) : Int))) = 128 * (1 + ((n % 2 : Nat) : Int)) ∧ IntKind.i64.wrap (mo : Int) = (mo : Int) ∧ wrap64 ((n : Int) + (mo : Int)) = ((n + mo : Nat) : Int) := by
  refine ⟨?_, ?_, ?_, ?_, ?_, ?_⟩
  · rw [IntKind.wrap_i64]; omega
  · rw [Int.tmod_eq_emod_of_nonneg (by omega)]; omega
  · exact w64 (by omega) (by omega)
  · exact w64 (by omega) (by omega)
  · rw [IntKind.wrap_i64]; omega
  · rw [w64 (by omega) (by omega)]; omega
theorem free_all (A1 A2 A3 : Option Addr) (c1 c2 c3 : Nat) (key m cu : List Int) (b0 nx : Int) (n mo : Nat) (at_ : Int) (fr : Bool) (w : World) (hC1 : Kd.C (Kd.int .u8) w A1 key.length key) (hC2 : Kd.C (Kd.int .u8) w A2 m.length m) (hC3 : Kd.C (Kd.int .u8) w A3 cu.length cu) (hc1 : key.length ≤ c1) (hc2 : m.length ≤ c2) (hc3 : cu.length ≤ c3) (bk : IsB key) (bm : IsB m) (bc : IsB cu) (hn : n < 256) (hmo : mo < 256) :
    Calls Try.prog 11 #[.agg #[.int .i64 b0, .int .i64 nx, .slice A1 key.length c1, .slice A2 m.length c2, .slice A3 cu.length c3, .bool fr], .int .u8 (n : Int), .int .u8 (mo : Int), .int .i64 at_] w fun e w' => e = .returned (.bool true) ∧ Below w.heap.size w w' := by
  obtain ⟨KA, eA⟩ := awake16
  obtain ⟨B, hB⟩ : ∃ B : Int, B = 128 * (1 + ((n % 2 : Nat) : Int)) := ⟨_, rfl⟩
  have hb := bits_of n
  rw [← hB] at hb
  by_cases hg : key.length > 400 ∨ m.length > 500 ∨ cu.length > 300 ∨ ((n : Int) > 600 ∧ (n : Int) ≤ 65536)
  · obtain ⟨f1, f2, f3, f4, f5, f6⟩ := free_nums n mo hn hmo
    have f4 := f4.trans hB.symm
    exact KmFree.kmf_awake KA A1 A2 A3 c1 c2 c3 key m cu b0 nx n mo n at_ _ _ _ fr w hC1 hC2 hC3 hc1 hc2 hc3 f1 f2 f3 f4 (eA KA (Nat.le_refl _)) (great_yes hg)
  · have hk : key.length ≤ 1000000 := by omega
    have hm : m.length ≤ 100000000 := by omega
    have hc : cu.length ≤ 1000000 := by omega
    have hna : (0 : Int) ≤ (n : Int) ∧ (n : Int) ≤ 65536 := by omega
    have hnb : (0 : Int) ≤ ((n + mo : Nat) : Int) ∧ ((n + mo : Nat) : Int) ≤ 65536 := by omega
    have hnc : n ≤ 65536 := by omega
    obtain ⟨K1, g1⟩ := sum_ev hb hk hm hc bk bm bc (n : Int) true hna
    obtain ⟨K2, g2⟩ := sum_ev hb hk hm hc bk bm bc ((n + mo : Nat) : Int) true hnb
    obtain ⟨K3, g3⟩ := says_self hb hk hm hc bk bm bc n hnc
    obtain ⟨K4, hat⟩ : ∃ K4, ∀ k, K4 ≤ k → (at_ < 0) ∨ (¬ at_ < 0 ∧ (n : Int) ≤ at_) ∨ (0 ≤ at_ ∧ at_ < (n : Int) ∧ PKm.kmac_Says.f k B key m cu ((kmacL B key m cu n false).set at_.toNat (Go.bits .xor .u8 ((kmacL B key m cu n false).getD at_.toNat 0) 1)) = some false) := by
      by_cases h1 : at_ < 0
      · exact ⟨0, fun _ _ => .inl h1⟩
      · by_cases h2 : (n : Int) ≤ at_
        · exact ⟨0, fun _ _ => .inr (.inl ⟨h1, h2⟩)⟩
        · obtain ⟨K, e⟩ := says_flip hb hk hm hc bk bm bc n at_.toNat (by omega) hnc
          exact ⟨K, fun k h => .inr (.inr ⟨by omega, by omega, e k h⟩)⟩
    obtain ⟨K, hK⟩ : ∃ K, K = KA + K1 + K2 + K3 + K4 := ⟨_, rfl⟩
    obtain ⟨f1, f2, f3, f4, f5, f6⟩ := free_nums n mo hn hmo
    have f4 := f4.trans hB.symm
    have hle : n ≤ n + mo := Nat.le_add_right _ _
    refine KmFree.kmf_main K _ _ (kmacL B key m cu n false) (decide (0 < n)) A1 A2 A3 c1 c2 c3 key m cu b0 nx n mo (n + mo) at_ _ _ _ fr w hC1 hC2 hC3 hc1 hc2 hc3 f1 f2 f3 f4 (eA K (by omega)) (great_no hg) f5 f6 hle ?_ (kmac_len _ _ _ _ _ _) (kmac_len _ _ _ _ _ _) (kmac_len _ _ _ _ _ _).symm (kmac_grow _ _ _ _ _ _) (g1 K (by omega)) (g2 K (by omega)) (own_kmac hb hk hm hc bk bm bc n hnc A1 A2 A3 c1 c2 c3 hc1 hc2 hc3) (g3 K (by omega)) (hat K (by omega))
    exact dec_n n
end Go.Proofs.Ythijjpiddelefaa.PureKm
namespace Go.Proofs.Ythijjpiddelefaa.AskArg
open Go Go.RowKit Go.ChangeShapes Go.WideShapes Go.Proofs.Ythijjpiddelefaa.Slices Go.Proofs.Ythijjpiddelefaa.Arr Go.Proofs.Ythijjpiddelefaa.Arr3 Go.Proofs.YthijjpiddelefaaW.PrintWords CodeMath SpMath Sl
theorem free_row (v : Value) (a1 a2 a3 : Int) (w : World) (w0 : IsAsked w v) (w1 : (Lit.int .u8 a1).wf = true) (w2 : (Lit.int .u8 a2).wf = true) (_ : (Lit.int .i64 a3).wf = true) :
    Calls Try.prog 11 #[v, .int .u8 a1, .int .u8 a2, .int .i64 a3] w fun e w' => e = .returned (.bool true) ∧ Below w.heap.size w w' := by
  obtain ⟨b, n, a0, l0, c0, z0, a1', l1, c1, z1, a2', l2, c2, z2, fr, rfl, h0, h1, h2⟩ := w0
  obtain ⟨x0, rfl, hC0, hc0, b0⟩ := row_C h0
  obtain ⟨x1, rfl, hC1, hc1, b1⟩ := row_C h1
  obtain ⟨x2, rfl, hC2, hc2, b2⟩ := row_C h2
  have hx := Byte.wf_u8 w1
  have hy := Byte.wf_u8 w2
  obtain ⟨p, rfl⟩ : ∃ q : Nat, a1 = (q : Int) := ⟨a1.toNat, by omega⟩
  obtain ⟨r, rfl⟩ : ∃ q : Nat, a2 = (q : Int) := ⟨a2.toNat, by omega⟩
  exact PureKm.free_all a0 a1' a2' c0 c1 c2 x0 x1 x2 b n p r a3 fr w hC0 hC1 hC2 hc0 hc1 hc2 b0 b1 b2 (by omega) (by omega)
end Go.Proofs.Ythijjpiddelefaa.AskArg
