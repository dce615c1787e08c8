/-
  The law KmacTells: its plain facts, how its arguments are opened, and the whole. No condition.
-/
import Derived.Test.YthijjpiddelefaaKmB
import Derived.Test.YthijjpiddelefaaPKmx1
import Derived.Test.YthijjpiddelefaaArr3
import Derived.Test.YthijjpiddelefaaKmLaw
namespace Go.Proofs.Ythijjpiddelefaa.PureKm
open Go.Proofs.Ythijjpiddelefaa Go.RowKit Go.Proofs.Ythijjpiddelefaa.SpSum Go.Proofs.Ythijjpiddelefaa.Sponge Go.Proofs.Ythijjpiddelefaa.PSp Go.Proofs.YthijjpiddelefaaW.PrintWords Go.Proofs.YthijjpiddelefaaW.PrintLast CodeMath SpMath CodeSp Go.Proofs.Ythijjpiddelefaa.Pure Concat SpNamed KmSum
open Go.Proofs.Ythijjpiddelefaa.PKm (visorlaw16_great.f visorlaw16_awake.f kmac_Says.f octet_Same.f)
set_option linter.unusedVariables false
theorem check_yes {b n : Int} (hb : Bits b) (hn : 0 ≤ n ∧ n ≤ 65536) : visorref15_Check.f b n = some 0 := by
  unfold visorref15_Check.f
  rcases hb with h | h <;> subst h
  · rw [if_pos rfl, if_neg (by omega), if_neg (by omega)]
  · rw [if_neg (by decide), if_pos rfl, if_neg (by omega), if_neg (by omega)]
theorem check_no {b n : Int} (h : ¬ (Bits b ∧ 0 ≤ n ∧ n ≤ 65536)) : visorref15_Check.f b n = some 1 := by
  unfold Bits at h
  unfold visorref15_Check.f
  (repeat' split) <;> first | rfl | (exfalso; omega)
theorem same_refl (l : List Int) : PKm.visorref01_Same.f l l = some true := by
  unfold PKm.visorref01_Same.f
  simp
theorem awake16 : Ev (fun k => visorlaw16_awake.f k) true := by
  obtain ⟨K0, e0⟩ := head_ev (b := 128) (key := List.replicate 32 0) (.inl rfl) (by decide)
  refine ⟨K0, fun k hk => ?_⟩
  show visorlaw16_awake.f k = _
  have f0 := e0 k hk
  simp only at f0
  unfold visorlaw16_awake.f
  rw [if_pos (by decide), f0, Option.bind_some]
  decide +kernel
section
variable {b n : Int} {key m cu tag : List Int} {fr : Bool}
theorem check16 (b n : Int) : visorref16_Check.f b n = visorref15_Check.f b n := by
  unfold visorref16_Check.f
  cases visorref15_Check.f b n <;> rfl
theorem says_bad (hb : ¬ Bits b) : Ev (fun k => kmac_Says.f k b key m cu tag) false := by
  obtain ⟨K, e⟩ := sum_bad (key := key) (m := m) (cu := cu) hb (tag.length : Int) false
  refine ⟨K, fun k hk => ?_⟩
  show kmac_Says.f k b key m cu tag = _
  have f0 := e k hk
  simp only at f0
  unfold kmac_Says.f
  by_cases h : (tag.length : Int) = 0
  · rw [if_pos h]
  · rw [if_neg h, f0, Option.bind_some, if_neg (by decide)]
theorem says_nil (h : (tag.length : Int) = 0) (k : Nat) : kmac_Says.f k b key m cu tag = some false := by
  unfold kmac_Says.f
  rw [if_pos h]
theorem says_ev (hb : Bits b) (hk : key.length ≤ 1000000) (hm : m.length ≤ 100000000) (hc : cu.length ≤ 1000000) (bk : IsB key) (bm : IsB m) (bc : IsB cu) (ht : ¬ (tag.length : Int) = 0) (ht2 : tag.length ≤ 65536) : Ev (fun k => kmac_Says.f k b key m cu tag) ((strOfNums (kmacL b key m cu tag.length false)).toList == (strOfNums tag).toList) := by
  obtain ⟨K, e⟩ := sum_ev hb hk hm hc bk bm bc (tag.length : Int) false ⟨by omega, by omega⟩
  refine ⟨K, fun k hk => ?_⟩
  show kmac_Says.f k b key m cu tag = _
  have f0 := e k hk
  simp only at f0
  unfold kmac_Says.f
  rw [if_neg ht, f0, Option.bind_some, if_pos rfl]
  rfl
theorem great_no (h : ¬ (key.length > 400 ∨ m.length > 500 ∨ cu.length > 300 ∨ (n > 600 ∧ n ≤ 65536))) : visorlaw16_great.f b n key m cu fr = some false := by
  unfold visorlaw16_great.f
  rw [if_neg (by omega), if_neg (by omega), if_neg (by omega)]
  by_cases h6 : n > 600
  · rw [if_pos h6, decide_eq_false (by omega)]
  · rw [if_neg h6]
theorem great_yes (h : key.length > 400 ∨ m.length > 500 ∨ cu.length > 300 ∨ (n > 600 ∧ n ≤ 65536)) : visorlaw16_great.f b n key m cu fr = some true := by
  unfold visorlaw16_great.f
  split
  · rfl
  · split
    · rfl
    · split
      · rfl
      · rw [if_pos (by omega), decide_eq_true (by omega)]
theorem tag_case (hb : Bits b) (hk : key.length ≤ 1000000) (hm : m.length ≤ 100000000) (hc : cu.length ≤ 1000000) (bk : IsB key) (bm : IsB m) (bc : IsB cu) (ht2 : tag.length ≤ 65536) : ∃ (u : List Int) (sy : Bool) (K : Nat), ∀ k, K ≤ k → kmac_Says.f k b key m cu tag = some sy ∧ ((¬ (0 : Int) < (tag.length : Int) ∧ sy = false) ∨ ((0 : Int) < (tag.length : Int) ∧ visorref16_Sum.f k b key m cu (tag.length : Int) false = some u ∧ PKm.visorref01_Same.f u tag = some sy)) := by
  by_cases ht : (tag.length : Int) = 0
  · exact ⟨[], false, 0, fun k _ => ⟨says_nil ht k, .inl ⟨by omega, rfl⟩⟩⟩
  · obtain ⟨K0, e0⟩ := says_ev hb hk hm hc bk bm bc ht ht2
    obtain ⟨K2, e2⟩ := rksum_ev hb hk hm hc bk bm bc (tag.length : Int) false ⟨by omega, by omega⟩
    exact ⟨_, _, K0 + K2, fun k hk => ⟨e0 k (by omega), .inr ⟨by omega, e2 k (by omega), rfl⟩⟩⟩
theorem sum_case (hb : Bits b) (hk : key.length ≤ 1000000) (hm : m.length ≤ 100000000) (hc : cu.length ≤ 1000000) (bk : IsB key) (bm : IsB m) (bc : IsB cu) : ∃ (s : List Int) (e : Int) (K : Nat), visorref16_Check.f b n = some e ∧ ∀ k, K ≤ k → kmac_Sum.f k b key m cu n fr = some (s, e) ∧ ((e = 1 ∧ s.length = 0) ∨ (e = 0 ∧ visorref16_Sum.f k b key m cu n fr = some s)) := by
  by_cases hn : 0 ≤ n ∧ n ≤ 65536
  · obtain ⟨K0, e0⟩ := sum_ev hb hk hm hc bk bm bc n fr hn
    obtain ⟨K2, e2⟩ := rksum_ev hb hk hm hc bk bm bc n fr hn
    exact ⟨_, 0, K0 + K2, (check16 b n).trans (check_yes hb hn), fun k hk => ⟨e0 k (by omega), .inr ⟨rfl, e2 k (by omega)⟩⟩⟩
  · have hs : Ev (fun k => kmac_Sum.f k b key m cu n fr) ([], 1) := by
      by_cases h0 : n < 0
      · exact sum_neg hb hk n fr h0
      · exact sum_over hb hk hm hc bk bm bc n fr (by omega)
    obtain ⟨K0, e0⟩ := hs
    exact ⟨[], 1, K0, (check16 b n).trans (check_no (fun h => hn h.2)), fun k hk => ⟨e0 k hk, .inl ⟨rfl, rfl⟩⟩⟩
end
theorem tells_all (A1 A2 A3 A4 : Option Addr) (c1 c2 c3 c4 : Nat) (key m cu tag : List Int) (b n : Int) (fr : Bool) (w : World) (hC1 : Kd.C (Kd.int .u8) w A1 key.length key) (hC2 : Kd.C (Kd.int .u8) w A2 m.length m) (hC3 : Kd.C (Kd.int .u8) w A3 cu.length cu) (hC4 : Kd.C (Kd.int .u8) w A4 tag.length tag) (hc1 : key.length ≤ c1) (hc2 : m.length ≤ c2) (hc3 : cu.length ≤ c3) (hc4 : tag.length ≤ c4) (bk : IsB key) (bm : IsB m) (bc : IsB cu) :
    Calls Try.prog 10 #[.agg #[.int .i64 b, .int .i64 n, .slice A1 key.length c1, .slice A2 m.length c2, .slice A3 cu.length c3, .bool fr], .slice A4 tag.length c4] w fun e w' => e = .returned (.bool true) ∧ Below w.heap.size w w' := by
  obtain ⟨KA, eA⟩ := awake16
  by_cases hg : key.length > 400 ∨ m.length > 500 ∨ cu.length > 300 ∨ (n > 600 ∧ n ≤ 65536)
  · exact KmLaw.kml_awake KA true A1 A2 A3 A4 c1 c2 c3 c4 key m cu tag b n fr w hC1 hC2 hC3 hC4 hc1 hc2 hc3 hc4 (eA KA (Nat.le_refl _)) (great_yes hg) (.inl rfl)
  · by_cases ht : (600 : Int) < (tag.length : Int)
    · exact KmLaw.kml_awake KA false A1 A2 A3 A4 c1 c2 c3 c4 key m cu tag b n fr w hC1 hC2 hC3 hC4 hc1 hc2 hc3 hc4 (eA KA (Nat.le_refl _)) (great_no hg) (.inr ⟨rfl, ht⟩)
    · have hk : key.length ≤ 1000000 := by omega
      have hm : m.length ≤ 100000000 := by omega
      have hc : cu.length ≤ 1000000 := by omega
      by_cases hb : Bits b
      · obtain ⟨K1, f1⟩ := head_ev (key := key) hb hk
        obtain ⟨K2, f2⟩ := rhead_ev (key := key) hb hk
        obtain ⟨u, sy, K3, f3⟩ := tag_case (tag := tag) hb hk hm hc bk bm bc (by omega)
        obtain ⟨s, e, K4, f4, f5⟩ := sum_case (n := n) (fr := fr) hb hk hm hc bk bm bc
        obtain ⟨K, hK⟩ : ∃ K, K = KA + K1 + K2 + K3 + K4 := ⟨_, rfl⟩
        obtain ⟨g1, g2⟩ := f3 K (by omega)
        obtain ⟨g3, g4⟩ := f5 K (by omega)
        exact KmLaw.kml_main K 0 e (headL b key) s u _ _ sy A1 A2 A3 A4 c1 c2 c3 c4 key m cu tag b n fr w hC1 hC2 hC3 hC4 hc1 hc2 hc3 hc4 (eA K (by omega)) (great_no hg) ht rfl rfl (f1 K (by omega)) g3 ((check16 b 0).trans (check_yes hb ⟨by decide, by decide⟩)) f4 g1 (.inr ⟨rfl, f2 K (by omega), g2⟩) g4
      · obtain ⟨K1, f1⟩ := sum_bad (key := key) (m := m) (cu := cu) hb n fr
        obtain ⟨K2, f2⟩ := says_bad (key := key) (m := m) (cu := cu) (tag := tag) hb
        obtain ⟨K, hK⟩ : ∃ K, K = KA + K1 + K2 := ⟨_, rfl⟩
        exact KmLaw.kml_main K 1 1 [] [] [] _ _ false A1 A2 A3 A4 c1 c2 c3 c4 key m cu tag b n fr w hC1 hC2 hC3 hC4 hc1 hc2 hc3 hc4 (eA K (by omega)) (great_no hg) ht rfl rfl (head_no hb K) (f1 K (by omega)) ((check16 b 0).trans (check_no (fun h => hb h.1))) ((check16 b n).trans (check_no (fun h => hb h.1))) (f2 K (by omega)) (.inl ⟨rfl, rfl, rfl⟩) (.inl ⟨rfl, rfl⟩)
end Go.Proofs.Ythijjpiddelefaa.PureKm
namespace Go.Proofs.Ythijjpiddelefaa.AskArg
open Go Go.RowKit Go.ChangeShapes Go.WideShapes Go.Proofs.Ythijjpiddelefaa.Slices Go.Proofs.Ythijjpiddelefaa.Arr Go.Proofs.Ythijjpiddelefaa.Arr3 Go.Proofs.YthijjpiddelefaaW.PrintWords CodeMath SpMath Sl
set_option maxRecDepth 100000
def IsAsked (w : World) (v : Value) : Prop := ∃ (b n : Int) (a0 : Option Addr) (l0 c0 : Nat) (z0 : List Int) (a1 : Option Addr) (l1 c1 : Nat) (z1 : List Int) (a2 : Option Addr) (l2 c2 : Nat) (z2 : List Int) (fr : Bool),
  v = .agg #[.int .i64 b, .int .i64 n, .slice a0 l0 c0, .slice a1 l1 c1, .slice a2 l2 c2, .bool fr] ∧ IsRow .u8 w a0 l0 c0 z0 ∧ IsRow .u8 w a1 l1 c1 z1 ∧ IsRow .u8 w a2 l2 c2 z2
section
variable {H : Type} {enc : TypeId × Value → H} {P : Program} {w : World} {base : Nat} {held : Bool}
theorem open_asked {r : Reach} {b0 : Nat} {v : Value} {d : DataW H} {p : List MemPlace} (hv : Value.okWide Try.prog w r b0 62 v) (h : DataW.Trod enc Try.prog w base (fun _ => true) held 62 v d p) : IsAsked w v := by
  obtain ⟨cs, rfl, hsz⟩ := okWide_struct Try.underlying62 hv
  obtain ⟨fuel, hf⟩ := h
  obtain ⟨xs, n, _, hx, hl, hxs, hfd⟩ := DataW.trod_struct Try.underlying62 hf
  have hcs : (Value.agg cs).cells.toList = cs.toList := rfl
  rw [hcs] at hfd hl
  have h6 : xs.length = 6 := hxs
  have c0 : Try.prog.cellsOf 3 = 1 := by kernel_rfl
  have c1 : Try.prog.cellsOf 22 = 1 := by kernel_rfl
  have c2 : Try.prog.cellsOf 4 = 1 := by kernel_rfl
  have cu : Try.prog.cellsOf 5 = 1 := by kernel_rfl
  obtain ⟨y0, y1, y2, y3, y4, y5, rfl⟩ : ∃ a b c d e f, xs = [a, b, c, d, e, f] := by
    match xs, h6 with
    | [a, b, c, d, e, f], _ => exact ⟨a, b, c, d, e, f, rfl⟩
  have t0 : DataW.trod enc Try.prog w base (fun _ => true) held n 3 ((cs.toList.drop 0).take (Try.prog.cellsOf 3)) = some y0 := hfd 0 _ rfl
  have t1 : DataW.trod enc Try.prog w base (fun _ => true) held n 3 ((cs.toList.drop 1).take (Try.prog.cellsOf 3)) = some y1 := hfd 1 _ rfl
  have t2 : DataW.trod enc Try.prog w base (fun _ => true) held n 22 ((cs.toList.drop 2).take (Try.prog.cellsOf 22)) = some y2 := hfd 2 _ rfl
  have t3 : DataW.trod enc Try.prog w base (fun _ => true) held n 22 ((cs.toList.drop 3).take (Try.prog.cellsOf 22)) = some y3 := hfd 3 _ rfl
  have t4 : DataW.trod enc Try.prog w base (fun _ => true) held n 22 ((cs.toList.drop 4).take (Try.prog.cellsOf 22)) = some y4 := hfd 4 _ rfl
  have t5 : DataW.trod enc Try.prog w base (fun _ => true) held n 4 ((cs.toList.drop 5).take (Try.prog.cellsOf 4)) = some y5 := hfd 5 _ rfl
  rw [c0] at t0 t1
  rw [c1] at t2 t3 t4
  rw [c2] at t5
  clear c0 c1 c2
  have hl6 : cs.toList.length = 6 := by rw [hl]; kernel_rfl
  obtain ⟨cl, hcl⟩ : ∃ cl, cs.toList = cl := ⟨_, rfl⟩
  have hcs2 : cs = cl.toArray := by rw [← hcl, Array.toArray_toList]
  rw [hcl] at t0 t1 t2 t3 t4 t5 hl6
  obtain ⟨v0, v1, v2, v3, v4, v5, rfl⟩ : ∃ a b c d e f, cl = [a, b, c, d, e, f] := by
    match cl, hl6 with
    | [a, b, c, d, e, f], _ => exact ⟨a, b, c, d, e, f, rfl⟩
  simp only [List.drop_zero, List.take_succ_cons, List.take_zero, List.drop_succ_cons] at t0 t1 t2 t3 t4 t5
  obtain ⟨n0, e0, _, _⟩ := DataW.trod_int Try.underlying3 t0
  obtain rfl : v0 = .int .i64 n0 := by simpa using e0
  obtain ⟨n1, e1, _, _⟩ := DataW.trod_int Try.underlying3 t1
  obtain rfl : v1 = .int .i64 n1 := by simpa using e1
  obtain ⟨a0, l0, k0, z0, rfl, w0⟩ := open_one (k := .u8) Try.underlying22 Try.underlying5 cu t2
  obtain ⟨a1, l1, k1, z1, rfl, w1⟩ := open_one (k := .u8) Try.underlying22 Try.underlying5 cu t3
  obtain ⟨a2, l2, k2, z2, rfl, w2⟩ := open_one (k := .u8) Try.underlying22 Try.underlying5 cu t4
  obtain ⟨fr, e5, _⟩ := DataW.trod_bool Try.underlying4 t5
  obtain rfl : v5 = .bool fr := by simpa using e5
  exact ⟨n0, n1, a0, l0, k0, z0, a1, l1, k1, z1, a2, l2, k2, z2, fr, by rw [hcs2], w0, w1, w2⟩
end
theorem row_C {w : World} {a : Option Addr} {len cap : Nat} {z : List Int} (h : Slices.IsRow .u8 w a len cap z) : ∃ x : List Int, x.length = len ∧ Kd.C (Kd.int .u8) w a x.length x ∧ x.length ≤ cap ∧ IsB x := by
  obtain ⟨hsl, hlen, hwf⟩ := h.sl
  obtain ⟨A, c, hv, hc, hC⟩ := hsl
  injection hv with e1 e2 e3
  subst e1
  subst e3
  exact ⟨z.take len, hlen, hC, hc, IsB.of_wf hwf⟩
theorem tells_row (v : Value) (a : Option Addr) (len cap : Nat) (z : List Int) (w : World) (w0 : IsAsked w v) (w1 : Slices.IsRow .u8 w a len cap z) (y1 : len * 1 ≤ 140737488351232) :
    Calls Try.prog 10 #[v, .slice a len cap] w fun e w' => e = .returned (.bool true) ∧ Below w.heap.size w w' := by
  obtain ⟨b, n, a0, l0, c0, z0, a1, l1, c1, z1, a2, l2, c2, z2, fr, rfl, h0, h1, h2⟩ := w0
  obtain ⟨x0, rfl, hC0, hc0, b0⟩ := row_C h0
  obtain ⟨x1, rfl, hC1, hc1, b1⟩ := row_C h1
  obtain ⟨x2, rfl, hC2, hc2, b2⟩ := row_C h2
  obtain ⟨x3, rfl, hC3, hc3, b3⟩ := row_C w1
  exact PureKm.tells_all a0 a1 a2 a c0 c1 c2 cap x0 x1 x2 x3 b n fr w hC0 hC1 hC2 hC3 hc0 hc1 hc2 hc3 b0 b1 b2
end Go.Proofs.Ythijjpiddelefaa.AskArg
