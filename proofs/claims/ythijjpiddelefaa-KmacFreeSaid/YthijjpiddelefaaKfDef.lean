/-
  Merged texts, what is reached of them: KmSum, KmDefT: walks and plain lemmas; no condition.
-/
import Derived.Test.YthijjpiddelefaaSpAll
import Derived.Test.YthijjpiddelefaaPSk4
import Derived.Lib.SlBytesConst
namespace Go.Proofs.Ythijjpiddelefaa.KmSum
open Go Go.RowKit Go.Proofs.Ythijjpiddelefaa Go.Proofs.Ythijjpiddelefaa.PSp Go.Proofs.YthijjpiddelefaaW.PrintWords Go.Proofs.YthijjpiddelefaaW.PrintLast Go.Proofs.YthijjpiddelefaaW.PrintMore Byte Sl Arr Mem Gives OctMath Store SWord CodeMath SpMath HandKit Chunk Sponge SpSum
attribute [local go_sem] max2_int min2_int max_two min_two
set_option linter.unusedVariables false
set_option linter.unusedSimpArgs false
set_option maxHeartbeats 4000000
set_option maxRecDepth 100000
def nameL : List Int := [75, 77, 65, 67]
theorem name_C {W : World} {g : Nat} {fz : Nat × Nat} (h : W.heap[g]? = some (.cells (cellsOf .u8 nameL) 5 fz)) : Kd.C (Kd.int .u8) W (some ⟨g, 0, none⟩) 4 nameL := by
  have hs : Sl .u8 W (.slice (some ⟨g, 0, none⟩) nameL.length 4) nameL := Sl.of_cells (k := .u8) (w := W) (ad := ⟨g, 0, none⟩) (c := 4) (l := nameL) (by decide) (by decide) (fun j y hj => by
    rw [show (⟨g, 0, none⟩ : Addr).add j = ⟨g, j, none⟩ by simp [Addr.add]; intro h; exact h.symm]
    rw [cell_of_row W g j _ _ _ h, cellsOf_get, hj]; rfl)
  obtain ⟨A, c, hv, hc, hC⟩ := hs
  injection hv with e1 e2 e3
  subst e1
  exact hC
theorem name_after {w1 w2 : World} {C : Array Value} {fz : Nat × Nat} (hb : Below (w1.alloc (.cells C 5 fz)).heap.size (w1.alloc (.cells C 5 fz)) w2) (hC : C = cellsOf .u8 nameL) : Kd.C (Kd.int .u8) w2 (some ⟨w1.heap.size, 0, none⟩) 4 nameL := by
  subst hC
  have h0 : (w1.alloc (.cells (cellsOf .u8 nameL) 5 fz)).heap[w1.heap.size]? = some (.cells (cellsOf .u8 nameL) 5 fz) := by
    show (w1.heap.push _)[w1.heap.size]? = _
    rw [Array.getElem?_push_size]
  have hl : w1.heap.size < (w1.alloc (.cells (cellsOf .u8 nameL) 5 fz)).heap.size := (Array.getElem?_eq_some_iff.1 h0).1
  exact name_C ((hb.block _ hl).trans h0)
theorem named_c (kn : Nat) (b : Int) (A3 : Option Addr) (c3 : Nat) (cu cat : List Int) (n e : Int) (r : List Int) (N0 : Nat) (g : Nat) (A : Option Addr) (c : Nat) (W : World) (hN : Kd.C (Kd.int .u8) W (some ⟨g, 0, none⟩) 4 nameL) (hC3 : Kd.C (Kd.int .u8) W A3 cu.length cu) (hc3 : cu.length ≤ c3) (hV : Kd.V (Kd.int .u8) 5 W W.heap.size (fun k => N0 ≤ k) (.slice A cat.length c) cat) (hle : N0 ≤ W.heap.size) (h : sponge_Named.f kn b nameL cu cat n = some (r, e)) :
    Calls Try.prog 36 #[.int .i64 b, .slice (some ⟨g, 0, none⟩) 4 4, .slice A3 cu.length c3, .slice A cat.length c, .int .i64 n] W fun e' w' => ∃ v0_ : Value, e' = .returned (.tuple #[v0_, .int .i64 e]) ∧ Kd.V (Kd.int .u8) 5 w' N0 (fun k => N0 ≤ k) v0_ r ∧ Below W.heap.size W w' :=
  (PSp.sponge_Named.calls kn b (some ⟨g, 0, none⟩) 4 nameL A3 c3 cu (fun k => N0 ≤ k) A c cat n r e W hN (by decide) hC3 hc3 hV h).mono fun e' w' hh => by
    obtain ⟨v, h1, h2, h3⟩ := hh
    exact ⟨v, h1, Kd.V_mono h2 (fun k hk => hk.elim id (fun h4 => Nat.le_trans hle h4)), h3⟩
def Kcase (kh kr kn : Nat) (b : Int) (key m cu : List Int) (n : Int) (fr : Bool) (hd rt cat r : List Int) (e : Int) : Prop :=
  (kmac_Head.f kh b key = some (hd, 1) ∧ r = [] ∧ e = 1) ∨
  (kmac_Head.f kh b key = some (hd, 0) ∧ n < 0 ∧ r = [] ∧ e = 1) ∨
  (kmac_Head.f kh b key = some (hd, 0) ∧ ¬ n < 0 ∧ kmac_join.f [hd, m, rt] = some cat ∧ sponge_Named.f kn b nameL cu cat n = some (r, e) ∧ ((fr = true ∧ code_Right.f kr 0 = some rt) ∨ (fr = false ∧ 1048576 < n ∧ code_Right.f kr 8388608 = some rt) ∨ (fr = false ∧ ¬ 1048576 < n ∧ code_Right.f kr (8 * n) = some rt)))
theorem kmsum_c (kh kr kn : Nat) (A1 A2 A3 : Option Addr) (c1 c2 c3 : Nat) (b : Int) (key m cu : List Int) (n : Int) (fr : Bool) (hd rt cat r : List Int) (e : Int) (w : World)
    (hC1 : Kd.C (Kd.int .u8) w A1 key.length key) (hC2 : Kd.C (Kd.int .u8) w A2 m.length m) (hC3 : Kd.C (Kd.int .u8) w A3 cu.length cu) (hc1 : key.length ≤ c1) (hc2 : m.length ≤ c2) (hc3 : cu.length ≤ c3) (hk : Kcase kh kr kn b key m cu n fr hd rt cat r e) :
    Calls Try.prog 47 #[.int .i64 b, .slice A1 key.length c1, .slice A2 m.length c2, .slice A3 cu.length c3, .int .i64 n, .bool fr] w fun e' w' => ∃ v0_ : Value, e' = .returned (.tuple #[v0_, .int .i64 e]) ∧ Kd.V (Kd.int .u8) 5 w' w.heap.size (fun k_ => w.heap.size ≤ k_) v0_ r ∧ Below w.heap.size w w' := by
  have HC1 := Aside0.mk hC1
  have HC2 := Aside0.mk hC2
  have HC3 := Aside0.mk hC3
  have HL := Aside0.mk (And.intro hc1 (And.intro hc2 hc3))
  have HB := Aside0.mk (Below.refl w.heap.size w)
  clear hC1 hC2 hC3 hc1 hc2 hc3
  rcases hk with ⟨e1, rfl, rfl⟩ | ⟨e1, hn, rfl, rfl⟩ | ⟨e1, hn, e2, e3, hl⟩
  case' inl => have K1 := Aside0.mk (fun W hC => PSp.kmac_Head.calls kh b A1 c1 key hd 1 W hC HL.out.1 e1)
  case' inr.inl => have K1 := Aside0.mk (fun W hC => PSp.kmac_Head.calls kh b A1 c1 key hd 0 W hC HL.out.1 e1)
  case' inr.inr =>
    have K1 := Aside0.mk (fun W hC => PSp.kmac_Head.calls kh b A1 c1 key hd 0 W hC HL.out.1 e1)
    obtain ⟨ys, hys⟩ : ∃ ys, ys = [hd, m, rt] := ⟨_, rfl⟩
    rw [← hys] at e2
    have HY := Aside0.mk hys
    clear hys
    have K3 := Aside0.mk (fun A c W hC hc => PSp.kmac_join.calls A c ys cat W hC hc e2)
    have K4 := Aside0.mk (fun g A c W hN hC3 hV hle => named_c kn b A3 c3 cu cat n e r w.heap.size g A c W hN hC3 HL.out.2.2 hV hle e3)
    clear e2 e3
  case' inl =>
    clear e1
    go_enter Try.func47, Try.ntmps47
    go_wp2_with (first
      | (go_at_call 46; (with_reducible refine (K1.out _ (Kd.C_below HC1.out HB.out)).mono ?_); rintro e_ w1 ⟨v1, rfl, hv1, hb1⟩; obtain ⟨Ah, ch, rfl, hlh, hfh⟩ := Kd.R_reads hv1; have HB := Aside0.mk (below_step HB.out hb1); clear hv1 hlh hfh hb1))
    go_ret2
    exact ⟨_, rfl, Kd.V_nil _ _ _ _ _, HB.out⟩
  case' inr.inl =>
    clear e1
    go_enter Try.func47, Try.ntmps47
    go_wp2_with (first
      | (go_at_call 46; (with_reducible refine (K1.out _ (Kd.C_below HC1.out HB.out)).mono ?_); rintro e_ w1 ⟨v1, rfl, hv1, hb1⟩; obtain ⟨Ah, ch, rfl, hlh, hfh⟩ := Kd.R_reads hv1; have HB := Aside0.mk (below_step HB.out hb1); clear hv1 hlh hfh hb1))
    go_ret2
    exact ⟨_, rfl, Kd.V_nil _ _ _ _ _, HB.out⟩
  case' inr.inr =>
    clear e1
    have kc := fun (w : World) (C : Array Value) (n c : Nat) => Lib.run_convert_bytes_const (P := Try.prog) w 22 5 C n c Try.underlying22 Try.underlying5
    refine hl.elim (fun h4 => ?k1) (fun h4 => h4.elim (fun h4 => ?k2) (fun h4 => ?k3))
    case' k1 => obtain ⟨rfl, e4⟩ := h4
    case' k2 => obtain ⟨rfl, hn2, e4⟩ := h4
    case' k3 => obtain ⟨rfl, hn2, e4⟩ := h4
    case' k1 => have K2 := Aside0.mk (fun W => PSp.code_Right.calls kr 0 rt W e4)
    case' k2 => have K2 := Aside0.mk (fun W => PSp.code_Right.calls kr 8388608 rt W e4)
    case' k3 => have K2 := Aside0.mk (fun W => PSp.code_Right.calls kr (8 * n) rt W e4)
    all_goals
      clear e4 hl
      go_enter Try.func47, Try.ntmps47
      go_upto_region 9 with (first
        | (go_at_call 46; (with_reducible refine (K1.out _ (Kd.C_below HC1.out HB.out)).mono ?_); rintro e_ w1 ⟨v1, rfl, hv1, hb1⟩; obtain ⟨Ah, ch, rfl, hlh, hfh⟩ := Kd.R_reads hv1; have HH := Aside0.mk (And.intro hlh hfh); have HB := Aside0.mk (below_step HB.out hb1); clear hv1 hlh hfh hb1))
      go_wp2_with (first
        | (go_at_call 20; go_loud ((with_reducible refine (K2.out _).mono ?_); rintro e_ w2 ⟨v2, rfl, hv2, hb2⟩; obtain ⟨Ar, cr, rfl, hlr, hfr⟩ := Kd.R_reads hv2; have HR := Aside0.mk (And.intro hlr hfr); have HN := Aside0.mk (name_after hb2 rfl); have HH := Aside0.mk (And.intro HH.out.1 (Kd.C_below (Kd.C_alloc HH.out.2 _) hb2)); have HB := Aside0.mk (below_step (below_alloc HB.out _) hb2); clear hv2 hlr hfr hb2; have HM := Aside0.mk (And.intro HL.out.2.1 (Kd.C_below HC2.out HB.out))))
        | ((with_reducible refine gate_dst (N := 42) rfl ?_); go_loud (refine Kd.N_lit (Kd.slice 5 (Kd.int .u8)) _ 22 ?hg (N' := 42) ?hd (xs := ([hd, m, rt] : List (List Int))) (inner := [.slice Ah hd.length ch, .slice A2 m.length c2, .slice Ar rt.length cr]) (ok := fun _ => True) (okp := fun _ => True) ?hr ?hp (fun _ hk => hk) trivial (Below.refl _ _) (Nat.le_refl _) (by simp) ?_; (case hd => rfl); (case hg => rfl); (case hr => first | (go_simp; done) | (go_simp; rfl)); (case hp => exact (Reps.one (Kd.FK_slice_mk HH.out.1 (Kd.F_mono (Kd.C_F (Kd.heap_int .u8) HH.out.2) (fun _ _ => trivial))) (Reps.one (Kd.FK_slice_mk HM.out.1 (Kd.F_mono (Kd.C_F (Kd.heap_int .u8) HM.out.2) (fun _ _ => trivial))) (Reps.one (Kd.FK_slice_mk HR.out.1 (Kd.F_mono (Kd.C_F (Kd.heap_int .u8) HR.out.2) (fun _ _ => trivial))) (Reps.none _ _))))); intro v5 w3 ho4 hb hg_ hnew_; clear hg_ hnew_; rw [← HY.out] at ho4; obtain ⟨Ao, co, eo⟩ := Kd.N_slice ho4; subst eo; have HO := Aside0.mk (And.intro (Kd.N_reads' ho4).2.1 (Kd.N_reads' ho4).2.2); have HN := Aside0.mk (Kd.C_below HN.out hb); have HB := Aside0.mk (below_step HB.out hb); clear ho4 hb))
        | (go_at_call 73; go_loud (with_reducible refine (K3.out _ _ _ HO.out.2 HO.out.1).mono ?_); rintro e_ w4 ⟨v4, rfl, hv4, hb4⟩; have hv9 := Kd.R_V (base' := w4.heap.size) (Kd.R_mono (ok' := fun k_ => w.heap.size ≤ k_) (Kd.R_newM (M := fun k_ => w.heap.size ≤ k_) hv4 HB.out.size (fun _ h => h)) (fun _ h => h.1)); obtain ⟨Ac, cc, eo⟩ := Kd.V_slice hv9; subst eo; have HCT := Aside0.mk hv9; have HN := Aside0.mk (Kd.C_below HN.out hb4); have HB := Aside0.mk (below_step HB.out hb4); clear hv4 hv9 hb4)
        | (go_at_call 36; go_loud (with_reducible refine (K4.out _ _ _ _ HN.out (Kd.C_below HC3.out HB.out) HCT.out HB.out.size).mono ?_); rintro e_ w5 ⟨v5, rfl, hv5, hb5⟩; have HV := Aside0.mk hv5; have HB := Aside0.mk (below_step HB.out hb5); clear hv5 hb5))
      go_ret2
      exact ⟨_, rfl, HV.out, HB.out⟩
  all_goals
    go_ret2
    exact ⟨_, rfl, HV.out, HB.out⟩
end Go.Proofs.Ythijjpiddelefaa.KmSum
namespace Go.Proofs.Ythijjpiddelefaa.KmSum
open Go Go.RowKit Go.Proofs.Ythijjpiddelefaa Go.Proofs.Ythijjpiddelefaa.PSp Go.Proofs.YthijjpiddelefaaW.PrintWords Go.Proofs.YthijjpiddelefaaW.PrintLast Go.Proofs.YthijjpiddelefaaW.PrintMore
set_option linter.unusedVariables false
def longN (n : Int) (fr : Bool) : Int := if fr = true then 0 else 8 * (if 1048576 < n then 1048576 else n)
def kmac_Sum.f (k : Nat) (a0 : Int) (l1 l2 l3 : List Int) (a4 : Int) (b5 : Bool) : Option (List Int × Int) :=
  (kmac_Head.f k a0 l1).bind fun h => if h.2 = 0 then (if a4 < 0 then some (([] : List Int), 1) else (code_Right.f k (longN a4 b5)).bind fun rt => (kmac_join.f [h.1, l2, rt]).bind fun cat => sponge_Named.f k a0 nameL l3 cat a4) else if h.2 = 1 then some (([] : List Int), 1) else none
theorem kmac_Sum.mono : ∀ a0 a1 a2 a3 a4 a5 k, LeO (kmac_Sum.f k a0 a1 a2 a3 a4 a5) (kmac_Sum.f (k + 1) a0 a1 a2 a3 a4 a5) := by
  intro a0 a1 a2 a3 a4 a5 k
  unfold kmac_Sum.f
  repeat' first
    | (with_reducible exact kmac_Head.mono _ _ _)
    | (with_reducible exact code_Right.mono _ _)
    | (with_reducible exact sponge_Named.mono _ _ _ _ _ _)
    | (with_reducible exact LeO.refl _)
    | (with_reducible exact LeO.none _)
    | (with_reducible refine LeO.ite ?_ ?_)
    | (with_reducible refine LeO.bind ?_ (fun _ => ?_))
theorem kmac_Sum.calls (k : Nat) (a0 : Int) (A1 : Option Addr) (c1 : Nat) (l1 : List Int) (A2 : Option Addr) (c2 : Nat) (l2 : List Int) (A3 : Option Addr) (c3 : Nat) (l3 : List Int) (a4 : Int) (b5 : Bool) (r1 : List Int) (r2 : Int) (w : World) (hr1 : Kd.C (Kd.int .u8) w A1 l1.length l1) (hc1 : l1.length ≤ c1) (hr2 : Kd.C (Kd.int .u8) w A2 l2.length l2) (hc2 : l2.length ≤ c2) (hr3 : Kd.C (Kd.int .u8) w A3 l3.length l3) (hc3 : l3.length ≤ c3) (h : kmac_Sum.f k a0 l1 l2 l3 a4 b5 = some (r1, r2)) :
    Calls Try.prog 47 #[.int .i64 a0, .slice A1 l1.length c1, .slice A2 l2.length c2, .slice A3 l3.length c3, .int .i64 a4, .bool b5] w fun e w' => ∃ v0_ : Value, e = .returned (.tuple #[v0_, .int .i64 r2]) ∧ Kd.V (Kd.int .u8) 5 w' w.heap.size (fun k_ => (w.heap.size ≤ k_)) v0_ r1 ∧ Below w.heap.size w w' := by
  unfold kmac_Sum.f at h
  obtain ⟨⟨hd, e1⟩, h1, h⟩ := Option.bind_eq_some_iff.mp h
  simp only at h
  by_cases h0 : e1 = 0
  · subst h0
    rw [if_pos rfl] at h
    by_cases hn : a4 < 0
    · rw [if_pos hn] at h
      obtain ⟨rfl, rfl⟩ := Prod.mk.inj (Option.some.inj h)
      exact kmsum_c k k k A1 A2 A3 c1 c2 c3 a0 l1 l2 l3 a4 b5 hd [] [] [] 1 w hr1 hr2 hr3 hc1 hc2 hc3 (.inr (.inl ⟨h1, hn, rfl, rfl⟩))
    · rw [if_neg hn] at h
      obtain ⟨rt, h2, h⟩ := Option.bind_eq_some_iff.mp h
      obtain ⟨cat, h3, h⟩ := Option.bind_eq_some_iff.mp h
      refine kmsum_c k k k A1 A2 A3 c1 c2 c3 a0 l1 l2 l3 a4 b5 hd rt cat r1 r2 w hr1 hr2 hr3 hc1 hc2 hc3 (.inr (.inr ⟨h1, hn, h3, h, ?_⟩))
      unfold longN at h2
      cases b5 with
      | true => exact .inl ⟨rfl, h2⟩
      | false =>
        rw [if_neg (by decide)] at h2
        by_cases hb : 1048576 < a4
        · rw [if_pos hb] at h2
          exact .inr (.inl ⟨rfl, hb, h2⟩)
        · rw [if_neg hb] at h2
          exact .inr (.inr ⟨rfl, hb, h2⟩)
  · rw [if_neg h0] at h
    by_cases h01 : e1 = 1
    · subst h01
      rw [if_pos rfl] at h
      obtain ⟨rfl, rfl⟩ := Prod.mk.inj (Option.some.inj h)
      exact kmsum_c k k k A1 A2 A3 c1 c2 c3 a0 l1 l2 l3 a4 b5 hd [] [] [] 1 w hr1 hr2 hr3 hc1 hc2 hc3 (.inl ⟨h1, rfl, rfl⟩)
    · rw [if_neg h01] at h
      cases h
end Go.Proofs.Ythijjpiddelefaa.KmSum
