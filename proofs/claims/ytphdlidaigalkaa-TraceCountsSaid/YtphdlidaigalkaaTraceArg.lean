/-
  A trace that comes in: how it is opened. Plain lemmas; no condition.
-/
import Derived.Test.YtphdlidaigalkaaPTtx
import Derived.Deep.Slices
import Derived.ChangeSame
import Derived.WideShapes
import Derived.Laws.LoneSync
import Derived.SizedLaws
namespace Go.Proofs.Ytphdlidaigalkaa.TraceArg
open Go.ChangeShapes Go.WideShapes Go.Deep Go.RowKit Go.Proofs.Ytphdlidaigalkaa.PTt Go.Proofs.YtphdlidaigalkaaW.PrintWords
set_option maxRecDepth 100000
/-- The value reads as a trace. -/
def IsTrace (w : World) (v : Value) : Prop := ∃ (n : Int) (A1 : Option Addr) (c1 : Nat) (l1 : List S53) (A2 : Option Addr) (c2 : Nat) (l2 : List S38),
  v = .agg #[.int .i64 n, .slice A1 l1.length c1, .slice A2 l2.length c2] ∧ Kd.C k53 w A1 l1.length l1 ∧ l1.length ≤ c1 ∧ Kd.C k38 w A2 l2.length l2 ∧ l2.length ≤ c2 ∧ l1.length ≤ 8796093022208 ∧ l2.length ≤ 8796093022208
section
variable {H : Type} {enc : TypeId × Value → H} {P : Program} {w : World} {base : Nat} {held : Bool} {spare : Nat → Bool}
theorem field_int {fs : Array Field} {cs : List Value} {xs : List (DataW H × List MemPlace)} {n i : Nat} {f : Field} {k : IntKind} (hf : ∀ (i : Nat) (f : Field), fs[i]? = some f → DataW.trod enc P w base spare held n f.type ((cs.drop f.offset).take (P.cellsOf f.type)) = xs[i]?) (hx : xs.length = fs.size) (h : fs[i]? = some f) (ho : f.offset = i) (hc : P.cellsOf f.type = 1) (hu : P.underlying f.type = some (.int k)) : ∃ x, cs[i]? = some (.int k x) := by
  have h1 := hf i f h
  have hi : i < xs.length := by rw [hx]; exact (Array.getElem?_eq_some_iff.1 h).1
  rw [List.getElem?_eq_getElem hi, ho, hc] at h1
  obtain ⟨x, e, _, _⟩ := DataW.trod_int hu h1
  refine ⟨x, ?_⟩
  have : cs[i]? = ((cs.drop i).take 1)[0]? := by simp
  rw [this, e]; rfl
theorem weights_head {t : TypeId} {ts : List TypeId} {d : DataW H} {ds : List (DataW H)} (h : (DataW.weightsEach P (t :: ts) (d :: ds)).all (· ≤ reachBytes) = true) : (d.weights P t).all (· ≤ reachBytes) = true ∧ (DataW.weightsEach P ts ds).all (· ≤ reachBytes) = true := by
  rw [DataW.weightsEach, List.all_append, Bool.and_eq_true] at h
  exact h
/-- A slice of []api.Op. -/
theorem open_ops {fuel : Nat} {A : Option Addr} {len cap : Nat} {x : DataW H × List MemPlace} (h : DataW.trod enc Try.prog w base (fun _ => true) held fuel 22 [.slice A len cap] = some x) : ∃ l : List S53, l.length = len ∧ len ≤ cap ∧ (len ≤ 9223372036854775807 → Kd.C k53 w A len l) ∧ ∃ d ps, x = (d, ps) ∧ ((d = .nil ∧ len = 0) ∨ ∃ els sp, d = .slice els sp ∧ els.length = len) := by
  rcases open_slice Try.underlying22 h with ⟨hcs, hx⟩ | ⟨a, l, c, m, n, D, Pl, hcs, _, hl, hm, hmm, hx, hi⟩
  · simp only [List.cons.injEq, Value.slice.injEq, and_true] at hcs
    obtain ⟨rfl, rfl, rfl⟩ := hcs
    exact ⟨[], rfl, Nat.le_refl _, fun _ => ⟨rfl, by decide, fun h => by omega⟩, _, _, hx, .inl ⟨rfl, rfl⟩⟩
  · simp only [List.cons.injEq, Value.slice.injEq, and_true] at hcs
    obtain ⟨rfl, rfl, rfl⟩ := hcs
    have key : ∀ i, i < len → ∃ s : S53, ∀ q u, ([.int .i64 s.f0, .int .i64 s.f1, .int .i64 s.f2, .int .i64 s.f3, .int .i64 s.f4, .int .u64 s.f5] : List Value)[q]? = some u → w.cell? (a.add (i * 6 + q)) = some u := by
      intro i hil
      obtain ⟨cs', hcl, htr⟩ := hi i (by rw [hmm]; simp; omega)
      have hc6 : Try.prog.cellsOf 53 = 6 := by kernel_rfl
      rw [hc6] at hcl
      obtain ⟨_, hlen, hat⟩ := World.cells?_some hcl
      obtain ⟨xs, n', _, _, _, hxs, hf⟩ := DataW.trod_struct Try.underlying53 htr
      obtain ⟨x0, e0⟩ := field_int (i := 0) (k := .i64) hf hxs rfl rfl (by kernel_rfl) Try.underlying3
      obtain ⟨x1, e1⟩ := field_int (i := 1) (k := .i64) hf hxs rfl rfl (by kernel_rfl) Try.underlying3
      obtain ⟨x2, e2⟩ := field_int (i := 2) (k := .i64) hf hxs rfl rfl (by kernel_rfl) Try.underlying3
      obtain ⟨x3, e3⟩ := field_int (i := 3) (k := .i64) hf hxs rfl rfl (by kernel_rfl) Try.underlying3
      obtain ⟨x4, e4⟩ := field_int (i := 4) (k := .i64) hf hxs rfl rfl (by kernel_rfl) Try.underlying3
      obtain ⟨x5, e5⟩ := field_int (i := 5) (k := .u64) hf hxs rfl rfl (by kernel_rfl) Try.underlying39
      refine ⟨⟨x0, x1, x2, x3, x4, x5⟩, fun q u hq => ?_⟩
      have hqn : q < 6 := by have := (List.getElem?_eq_some_iff.1 hq).1; simpa using this
      have hw := hat q hqn
      rw [Go.Deep.add_add] at hw
      rw [hw]
      rcases (show q = 0 ∨ q = 1 ∨ q = 2 ∨ q = 3 ∨ q = 4 ∨ q = 5 by omega) with rfl | rfl | rfl | rfl | rfl | rfl
      · rw [e0]; simpa using hq
      · rw [e1]; simpa using hq
      · rw [e2]; simpa using hq
      · rw [e3]; simpa using hq
      · rw [e4]; simpa using hq
      · rw [e5]; simpa using hq
    have hch : ∃ f : Nat → S53, ∀ i, i < len → ∀ q u, ([.int .i64 (f i).f0, .int .i64 (f i).f1, .int .i64 (f i).f2, .int .i64 (f i).f3, .int .i64 (f i).f4, .int .u64 (f i).f5] : List Value)[q]? = some u → w.cell? (a.add (i * 6 + q)) = some u := by
      refine ⟨fun i => if h : i < len then Classical.choose (key i h) else z53, fun i hil => ?_⟩
      have := Classical.choose_spec (key i hil)
      simpa only [hil, dif_pos] using this
    obtain ⟨f, hf⟩ := hch
    refine ⟨(List.range len).map f, by simp, hl, fun hb => ⟨by simp, hb, fun _ => ⟨a, rfl, fun j p hj => ?_⟩⟩, _, _, hx, .inr ⟨_, _, rfl, by simp⟩⟩
    have hjl : j < len := by have := (List.getElem?_eq_some_iff.1 hj).1; simpa using this
    have hp : f j = p := by simpa [hjl] using hj
    rw [← hp]
    exact ⟨_, rfl, k53_mk w (f j), hf j hjl⟩
/-- A slice of []api.Span. -/
theorem open_spans {fuel : Nat} {A : Option Addr} {len cap : Nat} {x : DataW H × List MemPlace} (h : DataW.trod enc Try.prog w base (fun _ => true) held fuel 23 [.slice A len cap] = some x) : ∃ l : List S38, l.length = len ∧ len ≤ cap ∧ (len ≤ 9223372036854775807 → Kd.C k38 w A len l) ∧ ∃ d ps, x = (d, ps) ∧ ((d = .nil ∧ len = 0) ∨ ∃ els sp, d = .slice els sp ∧ els.length = len) := by
  rcases open_slice Try.underlying23 h with ⟨hcs, hx⟩ | ⟨a, l, c, m, n, D, Pl, hcs, _, hl, hm, hmm, hx, hi⟩
  · simp only [List.cons.injEq, Value.slice.injEq, and_true] at hcs
    obtain ⟨rfl, rfl, rfl⟩ := hcs
    exact ⟨[], rfl, Nat.le_refl _, fun _ => ⟨rfl, by decide, fun h => by omega⟩, _, _, hx, .inl ⟨rfl, rfl⟩⟩
  · simp only [List.cons.injEq, Value.slice.injEq, and_true] at hcs
    obtain ⟨rfl, rfl, rfl⟩ := hcs
    have key : ∀ i, i < len → ∃ s : S38, ∀ q u, ([.int .i64 s.f0, .int .i64 s.f1, .int .i64 s.f2] : List Value)[q]? = some u → w.cell? (a.add (i * 3 + q)) = some u := by
      intro i hil
      obtain ⟨cs', hcl, htr⟩ := hi i (by rw [hmm]; simp; omega)
      have hc6 : Try.prog.cellsOf 38 = 3 := by kernel_rfl
      rw [hc6] at hcl
      obtain ⟨_, hlen, hat⟩ := World.cells?_some hcl
      obtain ⟨xs, n', _, _, _, hxs, hf⟩ := DataW.trod_struct Try.underlying38 htr
      obtain ⟨x0, e0⟩ := field_int (i := 0) (k := .i64) hf hxs rfl rfl (by kernel_rfl) Try.underlying3
      obtain ⟨x1, e1⟩ := field_int (i := 1) (k := .i64) hf hxs rfl rfl (by kernel_rfl) Try.underlying3
      obtain ⟨x2, e2⟩ := field_int (i := 2) (k := .i64) hf hxs rfl rfl (by kernel_rfl) Try.underlying3
      refine ⟨⟨x0, x1, x2⟩, fun q u hq => ?_⟩
      have hqn : q < 3 := by have := (List.getElem?_eq_some_iff.1 hq).1; simpa using this
      have hw := hat q hqn
      rw [Go.Deep.add_add] at hw
      rw [hw]
      rcases (show q = 0 ∨ q = 1 ∨ q = 2 by omega) with rfl | rfl | rfl
      · rw [e0]; simpa using hq
      · rw [e1]; simpa using hq
      · rw [e2]; simpa using hq
    have hch : ∃ f : Nat → S38, ∀ i, i < len → ∀ q u, ([.int .i64 (f i).f0, .int .i64 (f i).f1, .int .i64 (f i).f2] : List Value)[q]? = some u → w.cell? (a.add (i * 3 + q)) = some u := by
      refine ⟨fun i => if h : i < len then Classical.choose (key i h) else z38, fun i hil => ?_⟩
      have := Classical.choose_spec (key i hil)
      simpa only [hil, dif_pos] using this
    obtain ⟨f, hf⟩ := hch
    refine ⟨(List.range len).map f, by simp, hl, fun hb => ⟨by simp, hb, fun _ => ⟨a, rfl, fun j p hj => ?_⟩⟩, _, _, hx, .inr ⟨_, _, rfl, by simp⟩⟩
    have hjl : j < len := by have := (List.getElem?_eq_some_iff.1 hj).1; simpa using this
    have hp : f j = p := by simpa [hjl] using hj
    rw [← hp]
    exact ⟨_, rfl, k38_mk w (f j), hf j hjl⟩
theorem agg_weights {t : TypeId} {fs : Array Field} {parts : List (DataW H)} (ht : P.underlying t = some (.struct fs)) : DataW.weights P t (.agg parts) = DataW.weightsEach P (fs.toList.map (·.type)) parts := by
  rw [DataW.weights, ht]
theorem slice_weight {t e : TypeId} {els sp : List (DataW H)} (ht : P.underlying t = some (.slice e)) (h : (DataW.weights P t (.slice els sp)).all (· ≤ reachBytes) = true) : els.length * P.bytesOf e ≤ 140737488351232 := by
  rw [DataW.weights, ht] at h
  simp only [List.all_cons, Bool.and_eq_true, decide_eq_true_eq] at h
  have h1 : (els.length + sp.length) * P.bytesOf e ≤ 140737488351232 := h.1
  exact Nat.le_trans (Nat.mul_le_mul_right _ (Nat.le_add_right _ _)) h1
/-- A trace. -/
theorem open_trace {r : Reach} {b0 : Nat} {v : Value} {d : DataW H} {p : List MemPlace} (hv : Value.okWide Try.prog w r b0 25 v) (h : DataW.Trod enc Try.prog w base (fun _ => true) held 25 v d p) (hz : (DataW.weights Try.prog 25 d).all (· ≤ reachBytes) = true) : IsTrace w v := by
  obtain ⟨cs, rfl, hsz⟩ := okWide_struct Try.underlying25 hv
  obtain ⟨fuel, hf⟩ := h
  obtain ⟨xs, n, _, hx, hl, hxs, hfd⟩ := DataW.trod_struct Try.underlying25 hf
  have hcs : (Value.agg cs).cells.toList = cs.toList := rfl
  rw [hcs] at hfd hl
  have hd : d = .agg (xs.map (·.1)) := (Prod.mk.inj hx).1
  have h3 : xs.length = 3 := hxs
  have c0 : Try.prog.cellsOf 3 = 1 := by kernel_rfl
  have c1 : Try.prog.cellsOf 22 = 1 := by kernel_rfl
  have c2 : Try.prog.cellsOf 23 = 1 := by kernel_rfl
  obtain ⟨y0, y1, y2, rfl⟩ : ∃ a b c, xs = [a, b, c] := by
    match xs, h3 with
    | [a, b, c], _ => exact ⟨a, b, c, rfl⟩
  · have t0 : DataW.trod enc Try.prog w base (fun _ => true) held n 3 ((cs.toList.drop 0).take (Try.prog.cellsOf 3)) = some y0 := hfd 0 _ rfl
    have t1 : DataW.trod enc Try.prog w base (fun _ => true) held n 22 ((cs.toList.drop 1).take (Try.prog.cellsOf 22)) = some y1 := hfd 1 _ rfl
    have t2 : DataW.trod enc Try.prog w base (fun _ => true) held n 23 ((cs.toList.drop 2).take (Try.prog.cellsOf 23)) = some y2 := hfd 2 _ rfl
    rw [c0] at t0
    rw [c1] at t1
    rw [c2] at t2
    clear c0 c1 c2
    have hl3 : cs.toList.length = 3 := by rw [hl]; kernel_rfl
    obtain ⟨cl, hcl⟩ : ∃ cl, cs.toList = cl := ⟨_, rfl⟩
    have hcs2 : cs = cl.toArray := by rw [← hcl, Array.toArray_toList]
    rw [hcl] at t0 t1 t2 hl3
    obtain ⟨v0, v1, v2, rfl⟩ : ∃ a b c, cl = [a, b, c] := by
      match cl, hl3 with
      | [a, b, c], _ => exact ⟨a, b, c, rfl⟩
    · simp only [List.drop_zero, List.take_succ_cons, List.take_zero, List.drop_succ_cons] at t0 t1 t2
      obtain ⟨n0, e0, _, _⟩ := DataW.trod_int Try.underlying3 t0
      obtain rfl : v0 = .int .i64 n0 := by simpa using e0
      have g1 : ∃ A1 len1 c1, v1 = .slice A1 len1 c1 := by
        rcases open_slice Try.underlying22 t1 with ⟨h, _⟩ | ⟨a, l, c, m, n, D, Pl, h, _⟩
        · exact ⟨_, _, _, by simpa using h⟩
        · exact ⟨_, _, _, by simpa using h⟩
      have g2 : ∃ A2 len2 c2, v2 = .slice A2 len2 c2 := by
        rcases open_slice Try.underlying23 t2 with ⟨h, _⟩ | ⟨a, l, c, m, n, D, Pl, h, _⟩
        · exact ⟨_, _, _, by simpa using h⟩
        · exact ⟨_, _, _, by simpa using h⟩
      obtain ⟨A1, len1, c1, rfl⟩ := g1
      obtain ⟨A2, len2, c2, rfl⟩ := g2
      obtain ⟨l1, rfl, hc1, hk1, d1, ps1, rfl, hd1⟩ := open_ops t1
      obtain ⟨l2, rfl, hc2, hk2, d2, ps2, rfl, hd2⟩ := open_spans t2
      rw [hd, agg_weights Try.underlying25] at hz
      have w0 := weights_head (t := 3) (d := y0.1) hz
      have w1 := weights_head (t := 22) (d := d1) w0.2
      have w2 := weights_head (t := 23) (d := d2) w1.2
      have b1 : Try.prog.bytesOf 53 = 48 := by kernel_rfl
      have b2 : Try.prog.bytesOf 38 = 24 := by kernel_rfl
      have L1 : l1.length ≤ 8796093022208 := by
        rcases hd1 with ⟨_, h⟩ | ⟨els, sp, rfl, h⟩
        · omega
        · have := slice_weight Try.underlying22 w1.1
          rw [b1] at this
          omega
      have L2 : l2.length ≤ 8796093022208 := by
        rcases hd2 with ⟨_, h⟩ | ⟨els, sp, rfl, h⟩
        · omega
        · have := slice_weight Try.underlying23 w2.1
          rw [b2] at this
          omega
      exact ⟨n0, A1, c1, l1, A2, c2, l2, by rw [hcs2], hk1 (by omega), hc1, hk2 (by omega), hc2, L1, L2⟩
end
end Go.Proofs.Ytphdlidaigalkaa.TraceArg
