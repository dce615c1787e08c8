/-
  visorref16.Sum, walked: what it tells, of what the functions that it calls tell. No condition.
-/
import Derived.Test.YthijjpiddelefaaKmSum
namespace Go.Proofs.Ythijjpiddelefaa.KmSum
open Go Go.RowKit Go.Proofs.Ythijjpiddelefaa Go.Proofs.Ythijjpiddelefaa.PSp Go.Proofs.YthijjpiddelefaaW.PrintWords Go.Proofs.YthijjpiddelefaaW.PrintLast Go.Proofs.YthijjpiddelefaaW.PrintMore Byte Sl Arr Mem Gives OctMath Store SWord CodeMath SpMath HandKit Chunk Sponge SpSum
set_option linter.unusedVariables false
set_option linter.unusedSimpArgs false
set_option maxHeartbeats 4000000
set_option maxRecDepth 100000
theorem rnamed_c (kn : Nat) (b : Int) (A3 : Option Addr) (c3 : Nat) (cu cat : List Int) (n : Int) (r : List Int) (g : Nat) (A : Option Addr) (c : Nat) (W : World) (hN : Kd.C (Kd.int .u8) W (some ⟨g, 0, none⟩) 4 nameL) (hC3 : Kd.C (Kd.int .u8) W A3 cu.length cu) (hc3 : cu.length ≤ c3) (hC : Kd.C (Kd.int .u8) W A cat.length cat) (hc : cat.length ≤ c) (h : visorref15_Named.f kn b nameL cu cat n = some r) :
    Calls Try.prog 38 #[.int .i64 b, .slice (some ⟨g, 0, none⟩) 4 4, .slice A3 cu.length c3, .slice A cat.length c, .int .i64 n] W fun e' w' => ∃ v0_ : Value, e' = .returned v0_ ∧ Kd.R (Kd.int .u8) 5 w' W.heap.size (fun _ => True) v0_ r ∧ Below W.heap.size W w' :=
  PSp.visorref15_Named.calls kn b (some ⟨g, 0, none⟩) 4 nameL A3 c3 cu A c cat n r W hN (by decide) hC3 hc3 hC hc h
/-- The name's row, whatever becomes of the other blocks. -/
theorem name_F {w1 w2 : World} {C : Array Value} {fz : Nat × Nat} (hb : Below (w1.alloc (.cells C 5 fz)).heap.size (w1.alloc (.cells C 5 fz)) w2) (hC : C = cellsOf .u8 nameL) : Kd.F (Kd.int .u8) w2 (fun k => k = w1.heap.size) (some ⟨w1.heap.size, 0, none⟩) 4 nameL := by
  subst hC
  have h0 : (w1.alloc (.cells (cellsOf .u8 nameL) 5 fz)).heap[w1.heap.size]? = some (.cells (cellsOf .u8 nameL) 5 fz) := by
    show (w1.heap.push _)[w1.heap.size]? = _
    rw [Array.getElem?_push_size]
  have hl : w1.heap.size < (w1.alloc (.cells (cellsOf .u8 nameL) 5 fz)).heap.size := (Array.getElem?_eq_some_iff.1 h0).1
  exact fun W' hW => name_C ((hW _ rfl (Nat.lt_of_lt_of_le hl hb.size)).trans ((hb.block _ hl).trans h0))
def RKcase (kr : Nat) (n : Int) (fr : Bool) (rt : List Int) : Prop := (fr = true ∧ visorref14_Right.f kr 0 = some rt) ∨ (fr = false ∧ visorref14_Right.f kr (8 * n) = some rt)
theorem rkmsum_c (kh kr kn : Nat) (A1 A2 A3 : Option Addr) (c1 c2 c3 : Nat) (b : Int) (key m cu : List Int) (n : Int) (fr : Bool) (hd rt r : List Int) (w : World)
    (hC1 : Kd.C (Kd.int .u8) w A1 key.length key) (hC2 : Kd.C (Kd.int .u8) w A2 m.length m) (hC3 : Kd.C (Kd.int .u8) w A3 cu.length cu) (hc1 : key.length ≤ c1) (hc2 : m.length ≤ c2) (hc3 : cu.length ≤ c3)
    (hnn : 0 ≤ n ∧ n ≤ 65536) (hle : hd.length + m.length + rt.length ≤ 1000000000) (e1 : visorref16_Head.f kh b key = some hd) (e3 : visorref15_Named.f kn b nameL cu (hd ++ m ++ rt) n = some r) (hk : RKcase kr n fr rt) :
    Calls Try.prog 50 #[.int .i64 b, .slice A1 key.length c1, .slice A2 m.length c2, .slice A3 cu.length c3, .int .i64 n, .bool fr] w fun e' w' => ∃ v0_ : Value, e' = .returned v0_ ∧ Kd.R (Kd.int .u8) 5 w' w.heap.size (fun _ => True) v0_ r ∧ Below w.heap.size w w' := by
  have HC1 := Aside0.mk hC1
  have HC2 := Aside0.mk hC2
  have HC3 := Aside0.mk hC3
  have HL := Aside0.mk (And.intro hc1 (And.intro hc2 hc3))
  have HLE := Aside0.mk hle
  have HB := Aside0.mk (Below.refl w.heap.size w)
  have K1 := Aside0.mk (fun W hC => PSp.visorref16_Head.calls kh b A1 c1 key hd W hC hc1 e1)
  obtain ⟨ys, hys⟩ : ∃ ys, ys = hd ++ m ++ rt := ⟨_, rfl⟩
  rw [← hys] at e3
  have HY := Aside0.mk hys
  have K4 := Aside0.mk (fun g A c W hN hC3 hC hc => rnamed_c kn b A3 c3 cu ys n r g A c W hN hC3 hc3 hC hc e3)
  have h8 : wrap64 (8 * n) = 8 * n := w64 (by omega) (by omega)
  clear hC1 hC2 hC3 hc1 hc2 hc3 e1 e3 hys hle
  have kc := fun (w : World) (C : Array Value) (n c : Nat) => Lib.run_convert_bytes_const (P := Try.prog) w 22 5 C n c Try.underlying22 Try.underlying5
  rcases hk with ⟨rfl, e4⟩ | ⟨rfl, e4⟩
  case' inl => have K2 := Aside0.mk (fun W => PSp.visorref14_Right.calls kr 0 rt W e4)
  case' inr => have K2 := Aside0.mk (fun W => PSp.visorref14_Right.calls kr (8 * n) rt W e4)
  all_goals
    clear e4
    go_enter Try.func50, Try.ntmps50
    go_upto_region 5 with (first
      | ((with_reducible refine gate_dst (N := 18) rfl ?_); go_loud (refine Kd.R_lit (Kd.int .u8) w.heap.size 5 ?hg (N := 18) ?hd (w0 := w) (xs := ([] : List Int)) (inner := []) (ok := fun k => w.heap.size ≤ k) (okp := fun _ => False) ?hr ?hp (fun _ hk => hk.elim) HB.out.size HB.out HB.out.size (by simp) ?_; (case hd => rfl); (case hg => rfl); (case hr => first | (go_simp; done) | (go_simp; rfl)); (case hp => exact (Reps.none _ _)); intro v5 w3 ho4 hb hg_ hnew_; have HB := Aside0.mk hb; have HO := Aside0.mk ho4; clear hb ho4 hg_ hnew_))
      | (go_at_call 49; go_loud ((with_reducible refine (K1.out _ (Kd.C_below HC1.out HB.out)).mono ?_); rintro e_ w1 ⟨v1, rfl, hv1, hb1⟩; obtain ⟨Ah, ch, rfl, hlh, hfh⟩ := Kd.R_reads hv1; have HH := Aside0.mk (And.intro hlh hfh); have HO := Aside0.mk (Kd.R_below HO.out hb1); have HB := Aside0.mk (below_step HB.out hb1); clear hv1 hlh hfh hb1))
      | ((with_reducible refine gate_builtin (b := .append) (xs := #[.tmp 18, .tmp 21]) rfl ?_); go_loud (refine Kd.R_append_rows (Kd.int .u8) (w0 := w) w.heap.size rfl (.tmp 18) (.tmp 21) 22 5 (.int .u8 0) 1 rfl Try.underlying22 info_u8 rfl (by decide) (by omega) _ [] hd Ah hd.length ch (fun k => w.heap.size ≤ k) (fun _ => False) rfl rfl HO.out HH.out.2 (fun _ _ h => h) (fun _ h => h.elim) (fun k hk => Nat.le_trans HB.out.size hk) HB.out HB.out.size ?aL ?_; (case aL => have h1_ := HLE.out; simp only [List.length_nil, List.length_append]; omega); intro v6 w5 ho hb hg hat; have HB := Aside0.mk hb; have HO := Aside0.mk ho; clear ho hb hg hat))
      | ((with_reducible refine gate_builtin (b := .append) (xs := #[.tmp 22, .tmp 23]) rfl ?_); go_loud (refine Kd.R_append_rows (Kd.int .u8) (w0 := w) w.heap.size rfl (.tmp 22) (.tmp 23) 22 5 (.int .u8 0) 1 rfl Try.underlying22 info_u8 rfl (by decide) (by omega) _ _ m A2 m.length c2 (fun k => w.heap.size ≤ k) (fun _ => False) rfl rfl HO.out (Kd.C_below HC2.out HB.out) (fun _ _ h => h) (fun _ h => h.elim) (fun k hk => Nat.le_trans HB.out.size hk) HB.out HB.out.size ?aL ?_; (case aL => have h1_ := HLE.out; simp only [List.length_nil, List.length_append]; omega); intro v6 w5 ho hb hg hat; have HB := Aside0.mk hb; have HO := Aside0.mk ho; clear ho hb hg hat)))
    go_wp2_with (first
      | (go_at_call 21; go_loud ((with_reducible refine (K2.out _).mono ?_); rintro e_ w2 ⟨v2, rfl, hv2, hb2⟩; obtain ⟨Ar, cr, rfl, hlr, hfr⟩ := Kd.R_reads hv2; have HR := Aside0.mk (And.intro hlr hfr); have HN := Aside0.mk (name_F hb2 rfl); have HNE := Aside0.mk (Kd.R_lt HO.out); have HO := Aside0.mk (Kd.R_below (Kd.R_alloc HO.out _) hb2); have HB := Aside0.mk (below_step (below_alloc HB.out _) hb2); clear hv2 hlr hfr hb2))
      | ((with_reducible refine gate_builtin (b := .append) (xs := #[.tmp 29, .tmp 31]) rfl ?_); go_loud (refine Kd.R_append_rows (Kd.int .u8) (w0 := w) w.heap.size rfl (.tmp 29) (.tmp 31) 22 5 (.int .u8 0) 1 rfl Try.underlying22 info_u8 rfl (by decide) (by omega) _ _ rt Ar rt.length cr (fun k => w.heap.size ≤ k) (fun _ => False) rfl rfl HO.out HR.out.2 (fun _ _ h => h) (fun _ h => h.elim) (fun k hk => Nat.le_trans HB.out.size hk) HB.out HB.out.size ?aL ?_; (case aL => have h1_ := HLE.out; simp only [List.length_nil, List.length_append]; omega); intro v6 w5 ho hb hg hat; have HB := Aside0.mk hb; have HN := Aside0.mk (Kd.F_grown HN.out hg (fun k hk he => by have h3_ := HNE.out k he.symm; omega)); have HY2 := Aside0.mk ((show ([] ++ hd ++ m ++ rt : List Int) = ys by rw [HY.out]; rfl)); rw [HY2.out] at ho; obtain ⟨Al, cl, rfl, hll, hfl⟩ := Kd.R_reads ho; have HCT := Aside0.mk (And.intro hll hfl); clear ho hb hg hat hll hfl))
      | (go_at_call 38; go_loud ((with_reducible refine (K4.out _ _ _ _ (Kd.F_now HN.out) (Kd.C_below HC3.out HB.out) HCT.out.2 HCT.out.1).mono ?_); rintro e_ w5 ⟨v5, rfl, hv5, hb5⟩; have HV := Aside0.mk (Kd.R_lower hv5 HB.out.size); have HB := Aside0.mk (below_step HB.out hb5); clear hv5 hb5)))
    go_ret
    exact ⟨_, rfl, HV.out, HB.out⟩
end Go.Proofs.Ythijjpiddelefaa.KmSum
