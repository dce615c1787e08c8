/-
  The law KmacTells, walked: it returns true. No condition.
-/
import Derived.Test.YthijjpiddelefaaKmDef
import Derived.Test.YthijjpiddelefaaPKmx1
namespace Go.Proofs.Ythijjpiddelefaa.KmLaw
open Go Go.RowKit Go.Proofs.Ythijjpiddelefaa Go.Proofs.Ythijjpiddelefaa.PSp Go.Proofs.YthijjpiddelefaaW.PrintWords Go.Proofs.YthijjpiddelefaaW.PrintLast Go.Proofs.YthijjpiddelefaaW.PrintMore Byte Sl Arr Mem Gives OctMath Store SWord CodeMath SpMath Chunk Sponge SpSum KmSum
set_option linter.unusedVariables false
set_option linter.unusedSimpArgs false
set_option maxHeartbeats 4000000
set_option maxRecDepth 100000
def Six (w : World) (g : Nat) (v0 v1 v2 v3 v4 v5 : Value) : Prop := w.heap[g]? = some (.cells #[v0, v1, v2, v3, v4, v5] 62 (0, 0))
section
variable {w : World} {g : Nat} {v0 v1 v2 v3 v4 v5 : Value}
theorem Six.lt (h : Six w g v0 v1 v2 v3 v4 v5) : g < w.heap.size := (Array.getElem?_eq_some_iff.1 h).1
theorem Six.new (w : World) (v0 v1 v2 v3 v4 v5 : Value) : Six (w.alloc (.cells #[v0, v1, v2, v3, v4, v5] 62)) w.heap.size v0 v1 v2 v3 v4 v5 := by
  show (w.heap.push _)[w.heap.size]? = _
  rw [Array.getElem?_push_size]
theorem Six.below (h : Six w g v0 v1 v2 v3 v4 v5) {w' : World} (hb : Below w.heap.size w w') : Six w' g v0 v1 v2 v3 v4 v5 := (hb.block g h.lt).trans h
theorem Six.c0 (h : Six w g v0 v1 v2 v3 v4 v5) : w.cell? ⟨g, 0, none⟩ = some v0 := by rw [cell_of_row w g 0 _ _ _ h]; rfl
theorem Six.c1 (h : Six w g v0 v1 v2 v3 v4 v5) : w.cell? ⟨g, 1, none⟩ = some v1 := by rw [cell_of_row w g 1 _ _ _ h]; rfl
theorem Six.c2 (h : Six w g v0 v1 v2 v3 v4 v5) : w.cell? ⟨g, 2, none⟩ = some v2 := by rw [cell_of_row w g 2 _ _ _ h]; rfl
theorem Six.c3 (h : Six w g v0 v1 v2 v3 v4 v5) : w.cell? ⟨g, 3, none⟩ = some v3 := by rw [cell_of_row w g 3 _ _ _ h]; rfl
theorem Six.c4 (h : Six w g v0 v1 v2 v3 v4 v5) : w.cell? ⟨g, 4, none⟩ = some v4 := by rw [cell_of_row w g 4 _ _ _ h]; rfl
theorem Six.c5 (h : Six w g v0 v1 v2 v3 v4 v5) : w.cell? ⟨g, 5, none⟩ = some v5 := by rw [cell_of_row w g 5 _ _ _ h]; rfl
end
theorem same_m (A : Option Addr) (c : Nat) (B : Option Addr) (d n1 : Nat) (l : List Int) (h1 : l.length = n1) (w : World) (hA : Kd.C (Kd.int .u8) w A n1 l) (hc : n1 ≤ c) (hB : Kd.C (Kd.int .u8) w B n1 l) (hd : n1 ≤ d) : Calls Try.prog 31 #[.slice A n1 c, .slice B n1 d] w fun e w' => e = .returned (.bool true) ∧ Drawn0 w w' := by
  subst h1
  exact PKm.visorref01_Same.calls A c l B d l true w hA hc hB hd (by unfold PKm.visorref01_Same.f; simp)
theorem kml_awake (k : Nat) (gr : Bool) (A1 A2 A3 A4 : Option Addr) (c1 c2 c3 c4 : Nat) (key m cu tag : List Int) (b n : Int) (fr : Bool) (w : World) (hC1 : Kd.C (Kd.int .u8) w A1 key.length key) (hC2 : Kd.C (Kd.int .u8) w A2 m.length m) (hC3 : Kd.C (Kd.int .u8) w A3 cu.length cu) (hC4 : Kd.C (Kd.int .u8) w A4 tag.length tag) (hc1 : key.length ≤ c1) (hc2 : m.length ≤ c2) (hc3 : cu.length ≤ c3) (hc4 : tag.length ≤ c4) (eA : PKm.visorlaw16_awake.f k = some true) (hg : PKm.visorlaw16_great.f b n key m cu fr = some gr) (ht : gr = true ∨ (gr = false ∧ (600 : Int) < (tag.length : Int))) :
    Calls Try.prog 10 #[.agg #[.int .i64 b, .int .i64 n, .slice A1 key.length c1, .slice A2 m.length c2, .slice A3 cu.length c3, .bool fr], .slice A4 tag.length c4] w fun e w' => e = .returned (.bool true) ∧ Below w.heap.size w w' := by
  have HC1 := Aside0.mk hC1
  have HC2 := Aside0.mk hC2
  have HC3 := Aside0.mk hC3
  have HC4 := Aside0.mk hC4
  have M1 := Aside0.mk (Six.new w (.int .i64 b) (.int .i64 n) (.slice A1 key.length c1) (.slice A2 m.length c2) (.slice A3 cu.length c3) (.bool fr))
  have HB := Aside0.mk (below_alloc (Below.refl w.heap.size w) (.cells #[.int .i64 b, .int .i64 n, .slice A1 key.length c1, .slice A2 m.length c2, .slice A3 cu.length c3, .bool fr] 62))
  have KA := Aside0.mk (fun W => PKm.visorlaw16_awake.calls k true W eA)
  have KG := Aside0.mk (fun W h1 h2 h3 => PKm.visorlaw16_great.calls b n A1 c1 key A2 c2 m A3 c3 cu fr gr W h1 hc1 h2 hc2 h3 hc3 hg)
  clear hC1 hC2 hC3 hC4 hg eA
  rcases ht with rfl | ⟨rfl, ht⟩
  all_goals
    go_enter Try.func10, Try.ntmps10
    go_upto_region 1 with (fail)
    have hg0 := M1.out.c0; have hg1 := M1.out.c1; have hg2 := M1.out.c2; have hg3 := M1.out.c3; have hg4 := M1.out.c4; have hg5 := M1.out.c5
    go_wp2_with (first
      | (go_at_call 44; (with_reducible refine (KG.out _ (Kd.C_below HC1.out HB.out) (Kd.C_below HC2.out HB.out) (Kd.C_below HC3.out HB.out)).mono ?_); rintro e_ w2 ⟨rfl, hb_⟩; have M1 := Aside0.mk (Six.below M1.out hb_); have hg0 := M1.out.c0; have hg1 := M1.out.c1; have hg2 := M1.out.c2; have hg3 := M1.out.c3; have hg4 := M1.out.c4; have hg5 := M1.out.c5; (try have HVh := Aside0.mk (And.intro HVh.out.1 (Kd.C_below HVh.out.2 hb_))); (try have HVs := Aside0.mk (And.intro HVs.out.1 (Kd.C_below HVs.out.2 hb_))); (try have HVr := Aside0.mk (And.intro HVr.out.1 (Kd.C_below HVr.out.2 hb_))); (try have HVq := Aside0.mk (And.intro HVq.out.1 (Kd.C_below HVq.out.2 hb_))); have HB := Aside0.mk (below_step HB.out hb_); clear hb_)
      | (go_at_call 45; (with_reducible refine (KA.out _).mono ?_); rintro e_ w9 ⟨rfl, hb9⟩; have HB9 := Aside0.mk (below_step HB.out hb9); clear hb9))
    go_ret
    exact ⟨rfl, HB9.out⟩
theorem kml_main (k : Nat) (d e : Int) (hd s u : List Int) (nh ns : Nat) (sy : Bool) (A1 A2 A3 A4 : Option Addr) (c1 c2 c3 c4 : Nat) (key m cu tag : List Int) (b n : Int) (fr : Bool) (w : World) (hC1 : Kd.C (Kd.int .u8) w A1 key.length key) (hC2 : Kd.C (Kd.int .u8) w A2 m.length m) (hC3 : Kd.C (Kd.int .u8) w A3 cu.length cu) (hC4 : Kd.C (Kd.int .u8) w A4 tag.length tag) (hc1 : key.length ≤ c1) (hc2 : m.length ≤ c2) (hc3 : cu.length ≤ c3) (hc4 : tag.length ≤ c4) (eA : PKm.visorlaw16_awake.f k = some true) (hg : PKm.visorlaw16_great.f b n key m cu fr = some false) (ht : ¬ (600 : Int) < (tag.length : Int))
    (hnh : hd.length = nh) (hns : s.length = ns) (e1 : kmac_Head.f k b key = some (hd, d)) (e2 : kmac_Sum.f k b key m cu n fr = some (s, e)) (e3 : visorref16_Check.f b 0 = some d) (e4 : visorref16_Check.f b n = some e) (eS : PKm.kmac_Says.f k b key m cu tag = some sy)
    (hD : (d = 1 ∧ nh = 0 ∧ sy = false) ∨ (d = 0 ∧ visorref16_Head.f k b key = some hd ∧ ((¬ (0 : Int) < (tag.length : Int) ∧ sy = false) ∨ ((0 : Int) < (tag.length : Int) ∧ visorref16_Sum.f k b key m cu (tag.length : Int) false = some u ∧ PKm.visorref01_Same.f u tag = some sy))))
    (hE : (e = 1 ∧ ns = 0) ∨ (e = 0 ∧ visorref16_Sum.f k b key m cu n fr = some s)) :
    Calls Try.prog 10 #[.agg #[.int .i64 b, .int .i64 n, .slice A1 key.length c1, .slice A2 m.length c2, .slice A3 cu.length c3, .bool fr], .slice A4 tag.length c4] w fun e w' => e = .returned (.bool true) ∧ Below w.heap.size w w' := by
  have HC1 := Aside0.mk hC1
  have HC2 := Aside0.mk hC2
  have HC3 := Aside0.mk hC3
  have HC4 := Aside0.mk hC4
  have M1 := Aside0.mk (Six.new w (.int .i64 b) (.int .i64 n) (.slice A1 key.length c1) (.slice A2 m.length c2) (.slice A3 cu.length c3) (.bool fr))
  have HB := Aside0.mk (below_alloc (Below.refl w.heap.size w) (.cells #[.int .i64 b, .int .i64 n, .slice A1 key.length c1, .slice A2 m.length c2, .slice A3 cu.length c3, .bool fr] 62))
  have KA := Aside0.mk (fun W => PKm.visorlaw16_awake.calls k true W eA)
  have KG := Aside0.mk (fun W h1 h2 h3 => PKm.visorlaw16_great.calls b n A1 c1 key A2 c2 m A3 c3 cu fr false W h1 hc1 h2 hc2 h3 hc3 hg)
  have KH := Aside0.mk (fun W h1 => PSp.kmac_Head.calls k b A1 c1 key hd d W h1 hc1 e1)
  have KS := Aside0.mk (fun W h1 h2 h3 => KmSum.kmac_Sum.calls k b A1 c1 key A2 c2 m A3 c3 cu n fr s e W h1 hc1 h2 hc2 h3 hc3 e2)
  have KC0 := Aside0.mk (fun W => PSp.visorref16_Check.calls b 0 d W e3)
  have KCn := Aside0.mk (fun W => PSp.visorref16_Check.calls b n e W e4)
  have KY := Aside0.mk (fun W h1 h2 h3 h4 => PKm.kmac_Says.calls k b A1 c1 key A2 c2 m A3 c3 cu A4 c4 tag sy W h1 hc1 h2 hc2 h3 hc3 h4 hc4 eS)
  have SMH := Aside0.mk (fun A c B d W hA hc hB hd' => same_m A c B d nh hd hnh W hA hc hB hd')
  have SMS := Aside0.mk (fun A c B d W hA hc hB hd' => same_m A c B d ns s hns W hA hc hB hd')
  have HNH := Aside0.mk hnh
  have HNS := Aside0.mk hns
  have HL := Aside0.mk (And.intro hc1 (And.intro hc2 (And.intro hc3 hc4)))
  have HD := Aside0.mk hD
  have HE := Aside0.mk hE
  clear hC1 hC2 hC3 hC4 hg eA e1 e2 e3 e4 eS hnh hns hc1 hc2 hc3 hc4 hD hE
  go_enter Try.func10, Try.ntmps10
  go_upto_region 1 with (fail)
  have hg0 := M1.out.c0; have hg1 := M1.out.c1; have hg2 := M1.out.c2; have hg3 := M1.out.c3; have hg4 := M1.out.c4; have hg5 := M1.out.c5
  go_upto_region 3 with (first
    | (go_at_call 44; (with_reducible refine (KG.out _ (Kd.C_below HC1.out HB.out) (Kd.C_below HC2.out HB.out) (Kd.C_below HC3.out HB.out)).mono ?_); rintro e_ w2 ⟨rfl, hb_⟩; have M1 := Aside0.mk (Six.below M1.out hb_); have hg0 := M1.out.c0; have hg1 := M1.out.c1; have hg2 := M1.out.c2; have hg3 := M1.out.c3; have hg4 := M1.out.c4; have hg5 := M1.out.c5; (try have HVh := Aside0.mk (And.intro HVh.out.1 (Kd.C_below HVh.out.2 hb_))); (try have HVs := Aside0.mk (And.intro HVs.out.1 (Kd.C_below HVs.out.2 hb_))); (try have HVr := Aside0.mk (And.intro HVr.out.1 (Kd.C_below HVr.out.2 hb_))); (try have HVq := Aside0.mk (And.intro HVq.out.1 (Kd.C_below HVq.out.2 hb_))); have HB := Aside0.mk (below_step HB.out hb_); clear hb_))
  go_upto_region 4 with (first
    | (go_at_call 46; (with_reducible refine (KH.out _ (Kd.C_below HC1.out HB.out)).mono ?_); rintro e_ w2 ⟨v2, rfl, hv2, hb_⟩; have M1 := Aside0.mk (Six.below M1.out hb_); have hg0 := M1.out.c0; have hg1 := M1.out.c1; have hg2 := M1.out.c2; have hg3 := M1.out.c3; have hg4 := M1.out.c4; have hg5 := M1.out.c5; have HB := Aside0.mk (below_step HB.out hb_); clear hb_; obtain ⟨Ah, ch, rfl, hl2, hf2⟩ := Kd.R_reads hv2; rw [HNH.out] at hl2 hf2 ⊢; have HVh := Aside0.mk (And.intro hl2 hf2); clear hv2 hl2 hf2))
  go_upto_region 5 with (first
    | (go_at_call 47; (with_reducible refine (KS.out _ (Kd.C_below HC1.out HB.out) (Kd.C_below HC2.out HB.out) (Kd.C_below HC3.out HB.out)).mono ?_); rintro e_ w2 ⟨v2, rfl, hv2, hb_⟩; have M1 := Aside0.mk (Six.below M1.out hb_); have hg0 := M1.out.c0; have hg1 := M1.out.c1; have hg2 := M1.out.c2; have hg3 := M1.out.c3; have hg4 := M1.out.c4; have hg5 := M1.out.c5; (try have HVh := Aside0.mk (And.intro HVh.out.1 (Kd.C_below HVh.out.2 hb_))); have HB := Aside0.mk (below_step HB.out hb_); clear hb_; obtain ⟨As, cs, rfl, hl2, hf2⟩ := hv2; rw [HNS.out] at hl2 hf2 ⊢; have HVs := Aside0.mk (And.intro hl2 (Kd.F_now hf2)); clear hl2 hf2))
  refine HD.out.elim (fun h => ?d1) (fun h => h.2.2.elim (fun h' => ?d2) (fun h' => ?d3))
  case' d1 => obtain ⟨rfl, rfl, rfl⟩ := h
  case' d2 => obtain ⟨rfl, h1, -⟩ := h; obtain ⟨htt, rfl⟩ := h'; have KRH := Aside0.mk (fun W hC => PSp.visorref16_Head.calls k b A1 c1 key hd W hC HL.out.1 h1); clear h1
  case' d3 => obtain ⟨rfl, h1, -⟩ := h; obtain ⟨htt, h2, h3⟩ := h'; have KRH := Aside0.mk (fun W hC => PSp.visorref16_Head.calls k b A1 c1 key hd W hC HL.out.1 h1); have KSt := Aside0.mk (fun W g1 g2 g3 => KmSum.visorref16_Sum.calls k b A1 c1 key A2 c2 m A3 c3 cu (tag.length : Int) false u W g1 HL.out.1 g2 HL.out.2.1 g3 HL.out.2.2.1 h2); have SMT := Aside0.mk (fun A c W hA hc hB => PKm.visorref01_Same.calls A c u A4 c4 tag sy W hA hc hB HL.out.2.2.2 h3); clear h1 h2 h3
  all_goals
    rcases HE.out with ⟨hx, hy⟩ | ⟨hx, h1⟩
    case' inl => subst hx; subst hy
    case' inr => subst hx; have KSn := Aside0.mk (fun W g1 g2 g3 => KmSum.visorref16_Sum.calls k b A1 c1 key A2 c2 m A3 c3 cu n fr s W g1 HL.out.1 g2 HL.out.2.1 g3 HL.out.2.2.1 h1); clear h1
    all_goals
      go_wp2_with (first
        | (go_at_call 48; (with_reducible refine (KC0.out _).mono ?_); rintro e_ w2 ⟨rfl, hd_⟩; have hb_ := hd_.below; clear hd_; have M1 := Aside0.mk (Six.below M1.out hb_); have hg0 := M1.out.c0; have hg1 := M1.out.c1; have hg2 := M1.out.c2; have hg3 := M1.out.c3; have hg4 := M1.out.c4; have hg5 := M1.out.c5; (try have HVh := Aside0.mk (And.intro HVh.out.1 (Kd.C_below HVh.out.2 hb_))); (try have HVs := Aside0.mk (And.intro HVs.out.1 (Kd.C_below HVs.out.2 hb_))); (try have HVr := Aside0.mk (And.intro HVr.out.1 (Kd.C_below HVr.out.2 hb_))); (try have HVq := Aside0.mk (And.intro HVq.out.1 (Kd.C_below HVq.out.2 hb_))); have HB := Aside0.mk (below_step HB.out hb_); clear hb_)
        | (go_at_call 48; (with_reducible refine (KCn.out _).mono ?_); rintro e_ w2 ⟨rfl, hd_⟩; have hb_ := hd_.below; clear hd_; have M1 := Aside0.mk (Six.below M1.out hb_); have hg0 := M1.out.c0; have hg1 := M1.out.c1; have hg2 := M1.out.c2; have hg3 := M1.out.c3; have hg4 := M1.out.c4; have hg5 := M1.out.c5; (try have HVh := Aside0.mk (And.intro HVh.out.1 (Kd.C_below HVh.out.2 hb_))); (try have HVs := Aside0.mk (And.intro HVs.out.1 (Kd.C_below HVs.out.2 hb_))); (try have HVr := Aside0.mk (And.intro HVr.out.1 (Kd.C_below HVr.out.2 hb_))); (try have HVq := Aside0.mk (And.intro HVq.out.1 (Kd.C_below HVq.out.2 hb_))); have HB := Aside0.mk (below_step HB.out hb_); clear hb_)
        | (go_at_call 49; (with_reducible refine (KRH.out _ (Kd.C_below HC1.out HB.out)).mono ?_); rintro e_ w2 ⟨v2, rfl, hv2, hb_⟩; have M1 := Aside0.mk (Six.below M1.out hb_); have hg0 := M1.out.c0; have hg1 := M1.out.c1; have hg2 := M1.out.c2; have hg3 := M1.out.c3; have hg4 := M1.out.c4; have hg5 := M1.out.c5; (try have HVh := Aside0.mk (And.intro HVh.out.1 (Kd.C_below HVh.out.2 hb_))); (try have HVs := Aside0.mk (And.intro HVs.out.1 (Kd.C_below HVs.out.2 hb_))); (try have HVr := Aside0.mk (And.intro HVr.out.1 (Kd.C_below HVr.out.2 hb_))); (try have HVq := Aside0.mk (And.intro HVq.out.1 (Kd.C_below HVq.out.2 hb_))); have HB := Aside0.mk (below_step HB.out hb_); clear hb_; obtain ⟨AxHVr, cxHVr, rfl, hl2, hf2⟩ := Kd.R_reads hv2; rw [HNH.out] at hl2 hf2 ⊢; have HVr := Aside0.mk (And.intro hl2 hf2); clear hv2 hl2 hf2)
        | (go_at_call 50; (with_reducible refine (KSn.out _ (Kd.C_below HC1.out HB.out) (Kd.C_below HC2.out HB.out) (Kd.C_below HC3.out HB.out)).mono ?_); rintro e_ w2 ⟨v2, rfl, hv2, hb_⟩; have M1 := Aside0.mk (Six.below M1.out hb_); have hg0 := M1.out.c0; have hg1 := M1.out.c1; have hg2 := M1.out.c2; have hg3 := M1.out.c3; have hg4 := M1.out.c4; have hg5 := M1.out.c5; (try have HVh := Aside0.mk (And.intro HVh.out.1 (Kd.C_below HVh.out.2 hb_))); (try have HVs := Aside0.mk (And.intro HVs.out.1 (Kd.C_below HVs.out.2 hb_))); (try have HVr := Aside0.mk (And.intro HVr.out.1 (Kd.C_below HVr.out.2 hb_))); (try have HVq := Aside0.mk (And.intro HVq.out.1 (Kd.C_below HVq.out.2 hb_))); have HB := Aside0.mk (below_step HB.out hb_); clear hb_; obtain ⟨AxHVq, cxHVq, rfl, hl2, hf2⟩ := Kd.R_reads hv2; rw [HNS.out] at hl2 hf2 ⊢; have HVq := Aside0.mk (And.intro hl2 hf2); clear hv2 hl2 hf2)
        | (go_at_call 50; (with_reducible refine (KSt.out _ (Kd.C_below HC1.out HB.out) (Kd.C_below HC2.out HB.out) (Kd.C_below HC3.out HB.out)).mono ?_); rintro e_ w2 ⟨v2, rfl, hv2, hb_⟩; have M1 := Aside0.mk (Six.below M1.out hb_); have hg0 := M1.out.c0; have hg1 := M1.out.c1; have hg2 := M1.out.c2; have hg3 := M1.out.c3; have hg4 := M1.out.c4; have hg5 := M1.out.c5; (try have HVh := Aside0.mk (And.intro HVh.out.1 (Kd.C_below HVh.out.2 hb_))); (try have HVs := Aside0.mk (And.intro HVs.out.1 (Kd.C_below HVs.out.2 hb_))); (try have HVr := Aside0.mk (And.intro HVr.out.1 (Kd.C_below HVr.out.2 hb_))); (try have HVq := Aside0.mk (And.intro HVq.out.1 (Kd.C_below HVq.out.2 hb_))); have HB := Aside0.mk (below_step HB.out hb_); clear hb_; obtain ⟨AxHVu, cxHVu, rfl, hl2, hf2⟩ := Kd.R_reads hv2; have HVu := Aside0.mk (And.intro hl2 hf2); clear hv2 hl2 hf2)
        | (go_at_call 31; (with_reducible refine (SMH.out _ _ _ _ _ HVh.out.2 HVh.out.1 HVr.out.2 HVr.out.1).mono ?_); rintro e_ w2 ⟨rfl, hd_⟩; have hb_ := hd_.below; clear hd_; have M1 := Aside0.mk (Six.below M1.out hb_); have hg0 := M1.out.c0; have hg1 := M1.out.c1; have hg2 := M1.out.c2; have hg3 := M1.out.c3; have hg4 := M1.out.c4; have hg5 := M1.out.c5; (try have HVh := Aside0.mk (And.intro HVh.out.1 (Kd.C_below HVh.out.2 hb_))); (try have HVs := Aside0.mk (And.intro HVs.out.1 (Kd.C_below HVs.out.2 hb_))); (try have HVr := Aside0.mk (And.intro HVr.out.1 (Kd.C_below HVr.out.2 hb_))); (try have HVq := Aside0.mk (And.intro HVq.out.1 (Kd.C_below HVq.out.2 hb_))); have HB := Aside0.mk (below_step HB.out hb_); clear hb_)
        | (go_at_call 31; (with_reducible refine (SMS.out _ _ _ _ _ HVs.out.2 HVs.out.1 HVq.out.2 HVq.out.1).mono ?_); rintro e_ w2 ⟨rfl, hd_⟩; have hb_ := hd_.below; clear hd_; have M1 := Aside0.mk (Six.below M1.out hb_); have hg0 := M1.out.c0; have hg1 := M1.out.c1; have hg2 := M1.out.c2; have hg3 := M1.out.c3; have hg4 := M1.out.c4; have hg5 := M1.out.c5; (try have HVh := Aside0.mk (And.intro HVh.out.1 (Kd.C_below HVh.out.2 hb_))); (try have HVs := Aside0.mk (And.intro HVs.out.1 (Kd.C_below HVs.out.2 hb_))); (try have HVr := Aside0.mk (And.intro HVr.out.1 (Kd.C_below HVr.out.2 hb_))); (try have HVq := Aside0.mk (And.intro HVq.out.1 (Kd.C_below HVq.out.2 hb_))); have HB := Aside0.mk (below_step HB.out hb_); clear hb_)
        | (go_at_call 31; (with_reducible refine (SMT.out _ _ _ HVu.out.2 HVu.out.1 (Kd.C_below HC4.out HB.out)).mono ?_); rintro e_ w2 ⟨rfl, hd_⟩; have hb_ := hd_.below; clear hd_; have M1 := Aside0.mk (Six.below M1.out hb_); have hg0 := M1.out.c0; have hg1 := M1.out.c1; have hg2 := M1.out.c2; have hg3 := M1.out.c3; have hg4 := M1.out.c4; have hg5 := M1.out.c5; (try have HVh := Aside0.mk (And.intro HVh.out.1 (Kd.C_below HVh.out.2 hb_))); (try have HVs := Aside0.mk (And.intro HVs.out.1 (Kd.C_below HVs.out.2 hb_))); (try have HVr := Aside0.mk (And.intro HVr.out.1 (Kd.C_below HVr.out.2 hb_))); (try have HVq := Aside0.mk (And.intro HVq.out.1 (Kd.C_below HVq.out.2 hb_))); have HB := Aside0.mk (below_step HB.out hb_); clear hb_)
        | (go_at_call 51; (with_reducible refine (KY.out _ (Kd.C_below HC1.out HB.out) (Kd.C_below HC2.out HB.out) (Kd.C_below HC3.out HB.out) (Kd.C_below HC4.out HB.out)).mono ?_); rintro e_ w2 ⟨rfl, hb_⟩; have M1 := Aside0.mk (Six.below M1.out hb_); have hg0 := M1.out.c0; have hg1 := M1.out.c1; have hg2 := M1.out.c2; have hg3 := M1.out.c3; have hg4 := M1.out.c4; have hg5 := M1.out.c5; (try have HVh := Aside0.mk (And.intro HVh.out.1 (Kd.C_below HVh.out.2 hb_))); (try have HVs := Aside0.mk (And.intro HVs.out.1 (Kd.C_below HVs.out.2 hb_))); (try have HVr := Aside0.mk (And.intro HVr.out.1 (Kd.C_below HVr.out.2 hb_))); (try have HVq := Aside0.mk (And.intro HVq.out.1 (Kd.C_below HVq.out.2 hb_))); have HB := Aside0.mk (below_step HB.out hb_); clear hb_)
        | (go_at_call 45; (with_reducible refine (KA.out _).mono ?_); rintro e_ w9 ⟨rfl, hb9⟩; have HB9 := Aside0.mk (below_step HB.out hb9); clear hb9))
      go_ret
      exact ⟨rfl, HB9.out⟩
end Go.Proofs.Ythijjpiddelefaa.KmLaw
