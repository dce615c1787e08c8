/-
  Tallies of traces that are the same: the law, walked. No condition.
-/
import Derived.Test.YtphdlidaigalkaaTraceL
import Derived.Test.YtphdlidaigalkaaCntMath
namespace Go.Proofs.Ytphdlidaigalkaa.TraceC
open Go.RowKit Go.Proofs.Ytphdlidaigalkaa.PTt Go.Proofs.YtphdlidaigalkaaW.PrintWords Go.Proofs.YtphdlidaigalkaaW.PrintLast Go.Proofs.YtphdlidaigalkaaW.PrintMore Gives Byte RightT Mem Arr TallyT SameT TrMath ArrEq TraceL CntMath
set_option linter.unusedVariables false
set_option linter.unusedSimpArgs false
theorem st13 {o : Oper} {a : Act} {w : World} {x y : Operand} {g : Nat} {c c2 : List Int} (h : Mem .i64 w g 28 c) (h2 : c2.length = 13) (ho : o.op = .store 28 x y) (hx : a.eval x = .pointer (some ⟨g, 0, none⟩)) (hy : a.eval y = .agg (cellsOf .i64 c2)) (hc : c.length = 13 := by rfl) : (execOp a.eval o).run Try.prog w = .ok .skip (w.setRow g (cellsOf .i64 c2)) := by
  unfold execOp
  simp only [ho, hx, hy, Instr.storeAt, Instr.sureAddr, Sem.run_bind, Sem.run_pure, Result.andThen_ok, run_storeVar_row w g 28 28 _ (cellsOf .i64 c2) h (by rw [cellsOf_size, h2]; exact info13) (by rw [cellsOf_size, cellsOf_size, hc, h2]) (by simp [cellsOf, Value.oneCell'])]
set_option maxHeartbeats 8000000 in
set_option maxRecDepth 100000 in
theorem counts_c (n1 : Int) (A1 : Option Addr) (c1 : Nat) (l1 : List S53) (B1 : Option Addr) (d1 : Nat) (s1 : List S38) (n2 : Int) (A2 : Option Addr) (c2 : Nat) (l2 : List S53) (B2 : Option Addr) (d2 : Nat) (s2 : List S38) (w : World) (hr1 : Kd.C k53 w A1 l1.length l1) (hc1 : l1.length ≤ c1) (hs1 : Kd.C k38 w B1 s1.length s1) (hd1 : s1.length ≤ d1) (hL1 : l1.length ≤ 8796093022208) (hS1 : s1.length ≤ 8796093022208) (hr2 : Kd.C k53 w A2 l2.length l2) (hc2 : l2.length ≤ c2) (hs2 : Kd.C k38 w B2 s2.length s2) (hd2 : s2.length ≤ d2) (hL2 : l2.length ≤ 8796093022208) (hS2 : s2.length ≤ 8796093022208) :
    Calls Try.prog 4 #[.agg #[.int .i64 n1, .slice A1 l1.length c1, .slice B1 s1.length d1], .agg #[.int .i64 n2, .slice A2 l2.length c2, .slice B2 s2.length d2]] w fun e w' => e = .returned (.bool true) ∧ Below w.heap.size w w' := by
  have hu1 := Try.underlying25
  have HR1 := Aside0.mk hr1
  have HC1 := Aside0.mk hc1
  have HS1 := Aside0.mk hs1
  have HD1 := Aside0.mk hd1
  have HR2 := Aside0.mk hr2
  have HC2 := Aside0.mk hc2
  have HS2 := Aside0.mk hs2
  have HD2 := Aside0.mk hd2
  clear hr1 hs1 hr2 hs2
  have HB := Aside0.mk (Below.refl w.heap.size w)
  have HT1 : Aside0 (∀ w0 : World, Kd.C k53 w0 A1 l1.length l1 → Calls Try.prog 16 #[.agg #[.int .i64 n1, .slice A1 l1.length c1, .slice B1 s1.length d1]] w0 fun e w' => e = .returned (.agg (cellsOf .i64 (tallyL l1))) ∧ Below w0.heap.size w0 w') := ⟨fun w0 h => tally_c n1 A1 c1 l1 B1 d1 s1 w0 h hc1 (by omega)⟩
  have HT2 : Aside0 (∀ w0 : World, Kd.C k53 w0 A2 l2.length l2 → Calls Try.prog 16 #[.agg #[.int .i64 n2, .slice A2 l2.length c2, .slice B2 s2.length d2]] w0 fun e w' => e = .returned (.agg (cellsOf .i64 (tallyL l2))) ∧ Below w0.heap.size w0 w') := ⟨fun w0 h => tally_c n2 A2 c2 l2 B2 d2 s2 w0 h hc2 (by omega)⟩
  have HSUM := Aside0.mk (sum_tally l1 (by omega))
  have HS12 := Aside0.mk (fun w0 h1 h2 h3 h4 => same_c n1 A1 c1 l1 B1 d1 s1 n2 A2 c2 l2 B2 d2 s2 w0 h1 hc1 h2 hd1 h3 hc2 h4 hd2 (by omega) (by omega))
  have HS21 := Aside0.mk (fun w0 h1 h2 h3 h4 => same_c n2 A2 c2 l2 B2 d2 s2 n1 A1 c1 l1 B1 d1 s1 w0 h1 hc2 h2 hd2 h3 hc1 h4 hd1 (by omega) (by omega))
  have HS11 := Aside0.mk (fun w0 h1 h2 h3 h4 => same_c n1 A1 c1 l1 B1 d1 s1 n1 A1 c1 l1 B1 d1 s1 w0 h1 hc1 h2 hd1 h3 hc1 h4 hd1 (by omega) (by omega))
  rw [← same_symm] at HS21
  rw [same_refl] at HS11
  have HALL := Aside0.mk (fun h : sameB n1 l1 s1 n2 l2 s2 = true => same_all h)
  obtain ⟨k1, hk1⟩ := (check_ev n1 l1 s1 (by omega) (by omega)).rounds
  obtain ⟨k2, hk2⟩ := (check_ev n2 l2 s2 (by omega) (by omega)).rounds
  obtain ⟨k6, hk6⟩ := awake_ev.rounds
  have HK1 := Aside0.mk hk1
  have HK2 := Aside0.mk hk2
  have HK6 := Aside0.mk hk6
  generalize sameB n1 l1 s1 n2 l2 s2 = sb at *
  generalize rightT n1 l1 s1 = r1 at *
  generalize rightT n2 l2 s2 = r2 at *
  have HTL1 := Aside0.mk (tally_len l1)
  have HTL2 := Aside0.mk (tally_len l2)
  generalize tallyL l1 = t1 at *
  generalize tallyL l2 = t2 at *
  clear hc1 hd1 hL1 hS1 hc2 hd2 hL2 hS2 hk1 hk2 hk6
  go_enter Try.func4, Try.ntmps4
  go_wp2_with (first
    | ((with_reducible refine gate_dst (N := 2) rfl ?_); refine box_event ?hg (N := 2) ?hd (cs := #[.int .i64 n1, .slice A1 l1.length c1, .slice B1 s1.length d1]) (t := 25) ?hr ?_; (case hd => rfl); (case hg => rfl); (case hr => first | (go_simp; done) | (go_simp; rfl)); intro gb hg wb1 hbox hb; subst hg; have HB := Aside0.mk (below_step HB.out hb); have BA := Aside0.mk hbox; clear hb hbox)
    | ((with_reducible refine gate_dst (N := 3) rfl ?_); refine box_event ?hg (N := 3) ?hd (cs := #[.int .i64 n2, .slice A2 l2.length c2, .slice B2 s2.length d2]) (t := 25) ?hr ?_; (case hd => rfl); (case hg => rfl); (case hr => first | (go_simp; done) | (go_simp; rfl)); intro gb hg wb2 hbox hb; subst hg; have HGB := Aside0.mk (blk_lt BA.out); have BA := Aside0.mk (blk_below BA.out hb); have HB := Aside0.mk (below_step HB.out hb); have BB := Aside0.mk hbox; obtain ⟨ha0, ha1, ha2⟩ := three BA.out; obtain ⟨hb0, hb1, hb2⟩ := three BB.out; clear hb hbox))
  clear ha0 ha1 ha2 hb0 hb1 hb2
  generalize wb2 = W at *
  generalize wb1.heap.size = gB at *
  have BA := Aside0.mk (blk_drew BA.out)
  have BB := Aside0.mk (blk_drew BB.out)
  have HB := Aside0.mk (below_drew HB.out)
  refine start_ (n := 8) (S := fun w' => w'.cell? ⟨w.heap.size, 0, none⟩ = some (.int .i64 n1) ∧ w'.cell? ⟨w.heap.size, 1, none⟩ = some (.slice A1 l1.length c1) ∧ w'.cell? ⟨w.heap.size, 2, none⟩ = some (.slice B1 s1.length d1) ∧ w'.cell? ⟨gB, 0, none⟩ = some (.int .i64 n2) ∧ w'.cell? ⟨gB, 1, none⟩ = some (.slice A2 l2.length c2) ∧ w'.cell? ⟨gB, 2, none⟩ = some (.slice B2 s2.length d2)) (ds := []) #[false, false, false, false, false, false, false, false] (by kernel_rfl) rfl rfl ⟨(three BA.out).1, (three BA.out).2.1, (three BA.out).2.2, (three BB.out).1, (three BB.out).2.1, (three BB.out).2.2⟩ (fun hHeld => ?_)
  refine take_ (i := 0) (N := some 10) (v := ?_) (a' := ?_) #[true, false, false, false, false, false, false, false] rfl rfl (by kernel_rfl) (fun _ _ _ h => h) (Or.inl ⟨by rfl, ?_⟩) hHeld ?_ ?_
  rotate_left
  · rintro w' ⟨s0, s1, s2, s3, s4, s5⟩
    go_simp
    with_reducible rfl
  rotate_left
  · simp only [Act.put, List.setIfInBounds_toArray, List.set_cons_zero, List.set_cons_succ, i64_w, i32_w]
    rfl
  refine take_ (i := 2) (N := some 12) (v := ?_) (a' := ?_) #[true, false, true, false, false, false, false, false] rfl rfl (by kernel_rfl) (fun _ _ _ h => h) (Or.inl ⟨by rfl, ?_⟩) hHeld ?_ ?_
  rotate_left
  · rintro w' ⟨s0, s1, s2, s3, s4, s5⟩
    go_simp
    with_reducible rfl
  rotate_left
  · simp only [Act.put, List.setIfInBounds_toArray, List.set_cons_zero, List.set_cons_succ, i64_w, i32_w]
    rfl
  refine join_ (σ := Nat × Nat) 2 #[true, true, true, true, true, true, false, false] (fun s => [(11, .agg (cellsOf .i64 t1)), (13, .agg (cellsOf .i64 t2)), (5, .pointer (some ⟨s.1, 0, none⟩)), (6, .pointer (some ⟨s.2, 0, none⟩))]) (fun s w' => Aside0 (w'.heap[w.heap.size]? = some (.cells #[.int .i64 n1, .slice A1 l1.length c1, .slice B1 s1.length d1] 25 (0, 0))) ∧ Aside0 (w'.heap[gB]? = some (.cells #[.int .i64 n2, .slice A2 l2.length c2, .slice B2 s2.length d2] 25 (0, 0))) ∧ Aside0 (Below w.heap.size w w') ∧ Aside0 (Mem .i64 w' s.1 28 z13) ∧ Aside0 (gB < s.1) ∧ Aside0 (Mem .i64 w' s.2 28 z13) ∧ Aside0 (gB < s.2) ∧ Aside0 (s.1 ≠ s.2)) ?_ ?_
  rotate_left
  · intro hJ1_3_4_5
    refine join_ (σ := Nat × Nat) 3 #[true, true, true, true, true, false, false, false] (fun s => [(11, .agg (cellsOf .i64 t1)), (13, .agg (cellsOf .i64 t2)), (5, .pointer (some ⟨s.1, 0, none⟩))]) (fun s w' => Aside0 (w'.heap[w.heap.size]? = some (.cells #[.int .i64 n1, .slice A1 l1.length c1, .slice B1 s1.length d1] 25 (0, 0))) ∧ Aside0 (w'.heap[gB]? = some (.cells #[.int .i64 n2, .slice A2 l2.length c2, .slice B2 s2.length d2] 25 (0, 0))) ∧ Aside0 (Below w.heap.size w w') ∧ Aside0 (Mem .i64 w' s.1 28 z13) ∧ Aside0 (gB < s.1)) ?_ ?_
    rotate_left
    · intro hJ1_3_4
      refine join_ (σ := Nat × Nat) 3 #[true, true, true, true, false, true, false, false] (fun s => [(11, .agg (cellsOf .i64 t1)), (13, .agg (cellsOf .i64 t2)), (6, .pointer (some ⟨s.2, 0, none⟩))]) (fun s w' => Aside0 (w'.heap[w.heap.size]? = some (.cells #[.int .i64 n1, .slice A1 l1.length c1, .slice B1 s1.length d1] 25 (0, 0))) ∧ Aside0 (w'.heap[gB]? = some (.cells #[.int .i64 n2, .slice A2 l2.length c2, .slice B2 s2.length d2] 25 (0, 0))) ∧ Aside0 (Below w.heap.size w w') ∧ Aside0 (Mem .i64 w' s.2 28 z13) ∧ Aside0 (gB < s.2)) ?_ ?_
      rotate_left
      · intro hJ1_3_5
        refine join_ (σ := Nat × Nat) 3 #[true, true, true, false, true, true, false, false] (fun s => [(11, .agg (cellsOf .i64 t1)), (5, .pointer (some ⟨s.1, 0, none⟩)), (6, .pointer (some ⟨s.2, 0, none⟩))]) (fun s w' => Aside0 (w'.heap[w.heap.size]? = some (.cells #[.int .i64 n1, .slice A1 l1.length c1, .slice B1 s1.length d1] 25 (0, 0))) ∧ Aside0 (w'.heap[gB]? = some (.cells #[.int .i64 n2, .slice A2 l2.length c2, .slice B2 s2.length d2] 25 (0, 0))) ∧ Aside0 (Below w.heap.size w w') ∧ Aside0 (Mem .i64 w' s.1 28 z13) ∧ Aside0 (gB < s.1) ∧ Aside0 (Mem .i64 w' s.2 28 z13) ∧ Aside0 (gB < s.2) ∧ Aside0 (s.1 ≠ s.2)) ?_ ?_
        rotate_left
        · intro hJ1_4_5
          refine join_ (σ := Nat × Nat) 4 #[true, true, true, true, false, false, false, false] (fun s => [(11, .agg (cellsOf .i64 t1)), (13, .agg (cellsOf .i64 t2))]) (fun s w' => Aside0 (w'.heap[w.heap.size]? = some (.cells #[.int .i64 n1, .slice A1 l1.length c1, .slice B1 s1.length d1] 25 (0, 0))) ∧ Aside0 (w'.heap[gB]? = some (.cells #[.int .i64 n2, .slice A2 l2.length c2, .slice B2 s2.length d2] 25 (0, 0))) ∧ Aside0 (Below w.heap.size w w')) ?_ ?_
          rotate_left
          · intro hJ1_3
            refine join_ (σ := Nat × Nat) 4 #[true, true, true, false, true, false, false, false] (fun s => [(11, .agg (cellsOf .i64 t1)), (5, .pointer (some ⟨s.1, 0, none⟩))]) (fun s w' => Aside0 (w'.heap[w.heap.size]? = some (.cells #[.int .i64 n1, .slice A1 l1.length c1, .slice B1 s1.length d1] 25 (0, 0))) ∧ Aside0 (w'.heap[gB]? = some (.cells #[.int .i64 n2, .slice A2 l2.length c2, .slice B2 s2.length d2] 25 (0, 0))) ∧ Aside0 (Below w.heap.size w w') ∧ Aside0 (Mem .i64 w' s.1 28 z13) ∧ Aside0 (gB < s.1)) ?_ ?_
            rotate_left
            · intro hJ1_4
              refine join_ (σ := Nat × Nat) 4 #[true, true, true, false, false, true, false, false] (fun s => [(11, .agg (cellsOf .i64 t1)), (6, .pointer (some ⟨s.2, 0, none⟩))]) (fun s w' => Aside0 (w'.heap[w.heap.size]? = some (.cells #[.int .i64 n1, .slice A1 l1.length c1, .slice B1 s1.length d1] 25 (0, 0))) ∧ Aside0 (w'.heap[gB]? = some (.cells #[.int .i64 n2, .slice A2 l2.length c2, .slice B2 s2.length d2] 25 (0, 0))) ∧ Aside0 (Below w.heap.size w w') ∧ Aside0 (Mem .i64 w' s.2 28 z13) ∧ Aside0 (gB < s.2)) ?_ ?_
              rotate_left
              · intro hJ1_5
                refine join_ (σ := Nat × Nat) 4 #[true, false, true, false, true, true, false, false] (fun s => [(5, .pointer (some ⟨s.1, 0, none⟩)), (6, .pointer (some ⟨s.2, 0, none⟩))]) (fun s w' => Aside0 (w'.heap[w.heap.size]? = some (.cells #[.int .i64 n1, .slice A1 l1.length c1, .slice B1 s1.length d1] 25 (0, 0))) ∧ Aside0 (w'.heap[gB]? = some (.cells #[.int .i64 n2, .slice A2 l2.length c2, .slice B2 s2.length d2] 25 (0, 0))) ∧ Aside0 (Below w.heap.size w w') ∧ Aside0 (Mem .i64 w' s.1 28 z13) ∧ Aside0 (gB < s.1) ∧ Aside0 (Mem .i64 w' s.2 28 z13) ∧ Aside0 (gB < s.2) ∧ Aside0 (s.1 ≠ s.2)) ?_ ?_
                rotate_left
                · intro hJ4_5
                  refine join_ (σ := Nat × Nat) 5 #[true, true, true, false, false, false, false, false] (fun s => [(11, .agg (cellsOf .i64 t1))]) (fun s w' => Aside0 (w'.heap[w.heap.size]? = some (.cells #[.int .i64 n1, .slice A1 l1.length c1, .slice B1 s1.length d1] 25 (0, 0))) ∧ Aside0 (w'.heap[gB]? = some (.cells #[.int .i64 n2, .slice A2 l2.length c2, .slice B2 s2.length d2] 25 (0, 0))) ∧ Aside0 (Below w.heap.size w w')) ?_ ?_
                  rotate_left
                  · intro hJ1
                    refine join_ (σ := Nat × Nat) 5 #[true, false, true, false, true, false, false, false] (fun s => [(5, .pointer (some ⟨s.1, 0, none⟩))]) (fun s w' => Aside0 (w'.heap[w.heap.size]? = some (.cells #[.int .i64 n1, .slice A1 l1.length c1, .slice B1 s1.length d1] 25 (0, 0))) ∧ Aside0 (w'.heap[gB]? = some (.cells #[.int .i64 n2, .slice A2 l2.length c2, .slice B2 s2.length d2] 25 (0, 0))) ∧ Aside0 (Below w.heap.size w w') ∧ Aside0 (Mem .i64 w' s.1 28 z13) ∧ Aside0 (gB < s.1)) ?_ ?_
                    rotate_left
                    · intro hJ4
                      refine join_ (σ := Nat × Nat) 5 #[true, false, true, false, false, true, false, false] (fun s => [(6, .pointer (some ⟨s.2, 0, none⟩))]) (fun s w' => Aside0 (w'.heap[w.heap.size]? = some (.cells #[.int .i64 n1, .slice A1 l1.length c1, .slice B1 s1.length d1] 25 (0, 0))) ∧ Aside0 (w'.heap[gB]? = some (.cells #[.int .i64 n2, .slice A2 l2.length c2, .slice B2 s2.length d2] 25 (0, 0))) ∧ Aside0 (Below w.heap.size w w') ∧ Aside0 (Mem .i64 w' s.2 28 z13) ∧ Aside0 (gB < s.2)) ?_ ?_
                      rotate_left
                      · intro hJ5
                        refine three_ (i := 1) (j := 4) (k := 5) (Ni := some 11) (Nj := some 5) (Nk := some 6) #[true, true, true, false, false, false, false, false] #[true, false, true, false, true, false, false, false] #[true, false, true, false, false, true, false, false] rfl rfl rfl rfl rfl rfl (by kernel_rfl) (by decide) (by decide) (by decide) (fun K hK => ?_) (fun K hK => ?_) (fun K hK => ?_)
                        · skip
                          refine goes_ Try.func16 (by kernel_rfl) rfl #[.agg #[.int .i64 n1, .slice A1 l1.length c1, .slice B1 s1.length d1]] (by rfl) rfl rfl (by simp only [List.map_toArray, List.map_cons, List.map_nil]; rfl) ?_
                          with_reducible refine (HT1.out _ (Kd.C_below HR1.out HB.out)).mono ?_
                          rintro e w3 ⟨rfl, hb⟩
                          refine ⟨_, rfl, ?_⟩
                          have BA := Aside0.mk (blk_below BA.out hb)
                          have BB := Aside0.mk (blk_below BB.out hb)
                          have HB := Aside0.mk (below_step HB.out hb)
                          clear hb
                          refine hK.out _ _ ⟨(three BA.out).1, (three BA.out).2.1, (three BA.out).2.2, (three BB.out).1, (three BB.out).2.1, (three BB.out).2.2⟩ (fun hHeld => ?_)
                          clear hK K
                          refine norm_ (a' := ?_) ?_ ?_
                          rotate_left
                          · show Act.put _ (some 11) _ = _
                            simp only [Act.put, List.setIfInBounds_toArray, List.set_cons_zero, List.set_cons_succ, i64_w, i32_w]
                            rfl
                          exact norm_ (by first | (simp only [putAll, Act.put, List.setIfInBounds_toArray, List.set_cons_zero, List.set_cons_succ]; done) | (simp only [putAll, Act.put, List.setIfInBounds_toArray, List.set_cons_zero, List.set_cons_succ]; rfl)) (hJ1 (0, 0) _ ⟨BA, BB, HB⟩)
                        · skip
                          refine value_ (w1 := ?_) (v := ?_) (by rfl) rfl ?_ ?_
                          rotate_left 2
                          · go_simp
                            constructor
                            · rfl
                            · rfl
                          have M5 := Aside0.mk (show Mem .i64 (W.drew.alloc (.cells #[.int .i64 0, .int .i64 0, .int .i64 0, .int .i64 0, .int .i64 0, .int .i64 0, .int .i64 0, .int .i64 0, .int .i64 0, .int .i64 0, .int .i64 0, .int .i64 0, .int .i64 0] 28)) W.drew.heap.size 28 z13 from Mem.new .i64 W.drew 28 z13)
                          have L5 := Aside0.mk (blk_lt BB.out)
                          have BA := Aside0.mk (blk_alloc BA.out (.cells #[.int .i64 0, .int .i64 0, .int .i64 0, .int .i64 0, .int .i64 0, .int .i64 0, .int .i64 0, .int .i64 0, .int .i64 0, .int .i64 0, .int .i64 0, .int .i64 0, .int .i64 0] 28))
                          have BB := Aside0.mk (blk_alloc BB.out (.cells #[.int .i64 0, .int .i64 0, .int .i64 0, .int .i64 0, .int .i64 0, .int .i64 0, .int .i64 0, .int .i64 0, .int .i64 0, .int .i64 0, .int .i64 0, .int .i64 0, .int .i64 0] 28))
                          have HB := Aside0.mk (below_alloc HB.out (.cells #[.int .i64 0, .int .i64 0, .int .i64 0, .int .i64 0, .int .i64 0, .int .i64 0, .int .i64 0, .int .i64 0, .int .i64 0, .int .i64 0, .int .i64 0, .int .i64 0, .int .i64 0] 28))
                          refine hK.out _ _ ⟨(three BA.out).1, (three BA.out).2.1, (three BA.out).2.2, (three BB.out).1, (three BB.out).2.1, (three BB.out).2.2⟩ (fun hHeld => ?_)
                          clear hK K
                          refine norm_ (a' := ?_) ?_ ?_
                          rotate_left
                          · show Act.put _ (some 5) _ = _
                            simp only [Act.put, List.setIfInBounds_toArray, List.set_cons_zero, List.set_cons_succ, i64_w, i32_w]
                            rfl
                          exact norm_ (by first | (simp only [putAll, Act.put, List.setIfInBounds_toArray, List.set_cons_zero, List.set_cons_succ]; done) | (simp only [putAll, Act.put, List.setIfInBounds_toArray, List.set_cons_zero, List.set_cons_succ]; rfl)) (hJ4 (W.drew.heap.size, 0) _ ⟨BA, BB, HB, M5, L5⟩)
                        · skip
                          refine value_ (w1 := ?_) (v := ?_) (by rfl) rfl ?_ ?_
                          rotate_left 2
                          · go_simp
                            constructor
                            · rfl
                            · rfl
                          have M6 := Aside0.mk (show Mem .i64 (W.drew.alloc (.cells #[.int .i64 0, .int .i64 0, .int .i64 0, .int .i64 0, .int .i64 0, .int .i64 0, .int .i64 0, .int .i64 0, .int .i64 0, .int .i64 0, .int .i64 0, .int .i64 0, .int .i64 0] 28)) W.drew.heap.size 28 z13 from Mem.new .i64 W.drew 28 z13)
                          have L6 := Aside0.mk (blk_lt BB.out)
                          have BA := Aside0.mk (blk_alloc BA.out (.cells #[.int .i64 0, .int .i64 0, .int .i64 0, .int .i64 0, .int .i64 0, .int .i64 0, .int .i64 0, .int .i64 0, .int .i64 0, .int .i64 0, .int .i64 0, .int .i64 0, .int .i64 0] 28))
                          have BB := Aside0.mk (blk_alloc BB.out (.cells #[.int .i64 0, .int .i64 0, .int .i64 0, .int .i64 0, .int .i64 0, .int .i64 0, .int .i64 0, .int .i64 0, .int .i64 0, .int .i64 0, .int .i64 0, .int .i64 0, .int .i64 0] 28))
                          have HB := Aside0.mk (below_alloc HB.out (.cells #[.int .i64 0, .int .i64 0, .int .i64 0, .int .i64 0, .int .i64 0, .int .i64 0, .int .i64 0, .int .i64 0, .int .i64 0, .int .i64 0, .int .i64 0, .int .i64 0, .int .i64 0] 28))
                          refine hK.out _ _ ⟨(three BA.out).1, (three BA.out).2.1, (three BA.out).2.2, (three BB.out).1, (three BB.out).2.1, (three BB.out).2.2⟩ (fun hHeld => ?_)
                          clear hK K
                          refine norm_ (a' := ?_) ?_ ?_
                          rotate_left
                          · show Act.put _ (some 6) _ = _
                            simp only [Act.put, List.setIfInBounds_toArray, List.set_cons_zero, List.set_cons_succ, i64_w, i32_w]
                            rfl
                          exact norm_ (by first | (simp only [putAll, Act.put, List.setIfInBounds_toArray, List.set_cons_zero, List.set_cons_succ]; done) | (simp only [putAll, Act.put, List.setIfInBounds_toArray, List.set_cons_zero, List.set_cons_succ]; rfl)) (hJ5 (0, W.drew.heap.size) _ ⟨BA, BB, HB, M6, L6⟩)
                      · skip
                        rintro ⟨g5, g6⟩ w1 ⟨BA, BB, HB, M6, L6⟩
                        have hHeld : w1.cell? ⟨w.heap.size, 0, none⟩ = some (.int .i64 n1) ∧ w1.cell? ⟨w.heap.size, 1, none⟩ = some (.slice A1 l1.length c1) ∧ w1.cell? ⟨w.heap.size, 2, none⟩ = some (.slice B1 s1.length d1) ∧ w1.cell? ⟨gB, 0, none⟩ = some (.int .i64 n2) ∧ w1.cell? ⟨gB, 1, none⟩ = some (.slice A2 l2.length c2) ∧ w1.cell? ⟨gB, 2, none⟩ = some (.slice B2 s2.length d2) := ⟨(three BA.out).1, (three BA.out).2.1, (three BA.out).2.2, (three BB.out).1, (three BB.out).2.1, (three BB.out).2.2⟩
                        refine norm_ (a' := ?_) ?_ ?_
                        rotate_left
                        · simp only [putAll, Act.put, List.setIfInBounds_toArray, List.set_cons_zero, List.set_cons_succ]
                          rfl
                        refine two_ (i := 1) (j := 4) (Ni := some 11) (Nj := some 5) #[true, true, true, false, false, true, false, false] #[true, false, true, false, true, true, false, false] rfl rfl rfl rfl (by kernel_rfl) (by decide) (by decide) (fun K hK => ?_) (fun K hK => ?_)
                        · skip
                          refine goes_ Try.func16 (by kernel_rfl) rfl #[.agg #[.int .i64 n1, .slice A1 l1.length c1, .slice B1 s1.length d1]] (by rfl) rfl rfl (by simp only [List.map_toArray, List.map_cons, List.map_nil]; rfl) ?_
                          with_reducible refine (HT1.out _ (Kd.C_below HR1.out HB.out)).mono ?_
                          rintro e w3 ⟨rfl, hb⟩
                          refine ⟨_, rfl, ?_⟩
                          have M6 := Aside0.mk (Mem.below M6.out hb)
                          have BA := Aside0.mk (blk_below BA.out hb)
                          have BB := Aside0.mk (blk_below BB.out hb)
                          have HB := Aside0.mk (below_step HB.out hb)
                          clear hb
                          refine hK.out _ _ ⟨(three BA.out).1, (three BA.out).2.1, (three BA.out).2.2, (three BB.out).1, (three BB.out).2.1, (three BB.out).2.2⟩ (fun hHeld => ?_)
                          clear hK K
                          refine norm_ (a' := ?_) ?_ ?_
                          rotate_left
                          · show Act.put _ (some 11) _ = _
                            simp only [Act.put, List.setIfInBounds_toArray, List.set_cons_zero, List.set_cons_succ, i64_w, i32_w]
                            rfl
                          exact norm_ (by first | (simp only [putAll, Act.put, List.setIfInBounds_toArray, List.set_cons_zero, List.set_cons_succ]; done) | (simp only [putAll, Act.put, List.setIfInBounds_toArray, List.set_cons_zero, List.set_cons_succ]; rfl)) (hJ1_5 (0, g6) _ ⟨BA, BB, HB, M6, L6⟩)
                        · skip
                          refine value_ (w1 := ?_) (v := ?_) (by rfl) rfl ?_ ?_
                          rotate_left 2
                          · go_simp
                            constructor
                            · rfl
                            · rfl
                          have M5 := Aside0.mk (show Mem .i64 (w1.alloc (.cells #[.int .i64 0, .int .i64 0, .int .i64 0, .int .i64 0, .int .i64 0, .int .i64 0, .int .i64 0, .int .i64 0, .int .i64 0, .int .i64 0, .int .i64 0, .int .i64 0, .int .i64 0] 28)) w1.heap.size 28 z13 from Mem.new .i64 w1 28 z13)
                          have L5 := Aside0.mk (blk_lt BB.out)
                          have HN := Aside0.mk (Nat.ne_of_gt M6.out.lt)
                          have M6 := Aside0.mk (Mem.alloc M6.out (.cells #[.int .i64 0, .int .i64 0, .int .i64 0, .int .i64 0, .int .i64 0, .int .i64 0, .int .i64 0, .int .i64 0, .int .i64 0, .int .i64 0, .int .i64 0, .int .i64 0, .int .i64 0] 28))
                          have BA := Aside0.mk (blk_alloc BA.out (.cells #[.int .i64 0, .int .i64 0, .int .i64 0, .int .i64 0, .int .i64 0, .int .i64 0, .int .i64 0, .int .i64 0, .int .i64 0, .int .i64 0, .int .i64 0, .int .i64 0, .int .i64 0] 28))
                          have BB := Aside0.mk (blk_alloc BB.out (.cells #[.int .i64 0, .int .i64 0, .int .i64 0, .int .i64 0, .int .i64 0, .int .i64 0, .int .i64 0, .int .i64 0, .int .i64 0, .int .i64 0, .int .i64 0, .int .i64 0, .int .i64 0] 28))
                          have HB := Aside0.mk (below_alloc HB.out (.cells #[.int .i64 0, .int .i64 0, .int .i64 0, .int .i64 0, .int .i64 0, .int .i64 0, .int .i64 0, .int .i64 0, .int .i64 0, .int .i64 0, .int .i64 0, .int .i64 0, .int .i64 0] 28))
                          refine hK.out _ _ ⟨(three BA.out).1, (three BA.out).2.1, (three BA.out).2.2, (three BB.out).1, (three BB.out).2.1, (three BB.out).2.2⟩ (fun hHeld => ?_)
                          clear hK K
                          refine norm_ (a' := ?_) ?_ ?_
                          rotate_left
                          · show Act.put _ (some 5) _ = _
                            simp only [Act.put, List.setIfInBounds_toArray, List.set_cons_zero, List.set_cons_succ, i64_w, i32_w]
                            rfl
                          exact norm_ (by first | (simp only [putAll, Act.put, List.setIfInBounds_toArray, List.set_cons_zero, List.set_cons_succ]; done) | (simp only [putAll, Act.put, List.setIfInBounds_toArray, List.set_cons_zero, List.set_cons_succ]; rfl)) (hJ4_5 (w1.heap.size, g6) _ ⟨BA, BB, HB, M5, L5, M6, L6, HN⟩)
                    · skip
                      rintro ⟨g5, g6⟩ w1 ⟨BA, BB, HB, M5, L5⟩
                      have hHeld : w1.cell? ⟨w.heap.size, 0, none⟩ = some (.int .i64 n1) ∧ w1.cell? ⟨w.heap.size, 1, none⟩ = some (.slice A1 l1.length c1) ∧ w1.cell? ⟨w.heap.size, 2, none⟩ = some (.slice B1 s1.length d1) ∧ w1.cell? ⟨gB, 0, none⟩ = some (.int .i64 n2) ∧ w1.cell? ⟨gB, 1, none⟩ = some (.slice A2 l2.length c2) ∧ w1.cell? ⟨gB, 2, none⟩ = some (.slice B2 s2.length d2) := ⟨(three BA.out).1, (three BA.out).2.1, (three BA.out).2.2, (three BB.out).1, (three BB.out).2.1, (three BB.out).2.2⟩
                      refine norm_ (a' := ?_) ?_ ?_
                      rotate_left
                      · simp only [putAll, Act.put, List.setIfInBounds_toArray, List.set_cons_zero, List.set_cons_succ]
                        rfl
                      refine two_ (i := 1) (j := 5) (Ni := some 11) (Nj := some 6) #[true, true, true, false, true, false, false, false] #[true, false, true, false, true, true, false, false] rfl rfl rfl rfl (by kernel_rfl) (by decide) (by decide) (fun K hK => ?_) (fun K hK => ?_)
                      · skip
                        refine goes_ Try.func16 (by kernel_rfl) rfl #[.agg #[.int .i64 n1, .slice A1 l1.length c1, .slice B1 s1.length d1]] (by rfl) rfl rfl (by simp only [List.map_toArray, List.map_cons, List.map_nil]; rfl) ?_
                        with_reducible refine (HT1.out _ (Kd.C_below HR1.out HB.out)).mono ?_
                        rintro e w3 ⟨rfl, hb⟩
                        refine ⟨_, rfl, ?_⟩
                        have M5 := Aside0.mk (Mem.below M5.out hb)
                        have BA := Aside0.mk (blk_below BA.out hb)
                        have BB := Aside0.mk (blk_below BB.out hb)
                        have HB := Aside0.mk (below_step HB.out hb)
                        clear hb
                        refine hK.out _ _ ⟨(three BA.out).1, (three BA.out).2.1, (three BA.out).2.2, (three BB.out).1, (three BB.out).2.1, (three BB.out).2.2⟩ (fun hHeld => ?_)
                        clear hK K
                        refine norm_ (a' := ?_) ?_ ?_
                        rotate_left
                        · show Act.put _ (some 11) _ = _
                          simp only [Act.put, List.setIfInBounds_toArray, List.set_cons_zero, List.set_cons_succ, i64_w, i32_w]
                          rfl
                        exact norm_ (by first | (simp only [putAll, Act.put, List.setIfInBounds_toArray, List.set_cons_zero, List.set_cons_succ]; done) | (simp only [putAll, Act.put, List.setIfInBounds_toArray, List.set_cons_zero, List.set_cons_succ]; rfl)) (hJ1_4 (g5, 0) _ ⟨BA, BB, HB, M5, L5⟩)
                      · skip
                        refine value_ (w1 := ?_) (v := ?_) (by rfl) rfl ?_ ?_
                        rotate_left 2
                        · go_simp
                          constructor
                          · rfl
                          · rfl
                        have M6 := Aside0.mk (show Mem .i64 (w1.alloc (.cells #[.int .i64 0, .int .i64 0, .int .i64 0, .int .i64 0, .int .i64 0, .int .i64 0, .int .i64 0, .int .i64 0, .int .i64 0, .int .i64 0, .int .i64 0, .int .i64 0, .int .i64 0] 28)) w1.heap.size 28 z13 from Mem.new .i64 w1 28 z13)
                        have L6 := Aside0.mk (blk_lt BB.out)
                        have HN := Aside0.mk (Nat.ne_of_lt M5.out.lt)
                        have M5 := Aside0.mk (Mem.alloc M5.out (.cells #[.int .i64 0, .int .i64 0, .int .i64 0, .int .i64 0, .int .i64 0, .int .i64 0, .int .i64 0, .int .i64 0, .int .i64 0, .int .i64 0, .int .i64 0, .int .i64 0, .int .i64 0] 28))
                        have BA := Aside0.mk (blk_alloc BA.out (.cells #[.int .i64 0, .int .i64 0, .int .i64 0, .int .i64 0, .int .i64 0, .int .i64 0, .int .i64 0, .int .i64 0, .int .i64 0, .int .i64 0, .int .i64 0, .int .i64 0, .int .i64 0] 28))
                        have BB := Aside0.mk (blk_alloc BB.out (.cells #[.int .i64 0, .int .i64 0, .int .i64 0, .int .i64 0, .int .i64 0, .int .i64 0, .int .i64 0, .int .i64 0, .int .i64 0, .int .i64 0, .int .i64 0, .int .i64 0, .int .i64 0] 28))
                        have HB := Aside0.mk (below_alloc HB.out (.cells #[.int .i64 0, .int .i64 0, .int .i64 0, .int .i64 0, .int .i64 0, .int .i64 0, .int .i64 0, .int .i64 0, .int .i64 0, .int .i64 0, .int .i64 0, .int .i64 0, .int .i64 0] 28))
                        refine hK.out _ _ ⟨(three BA.out).1, (three BA.out).2.1, (three BA.out).2.2, (three BB.out).1, (three BB.out).2.1, (three BB.out).2.2⟩ (fun hHeld => ?_)
                        clear hK K
                        refine norm_ (a' := ?_) ?_ ?_
                        rotate_left
                        · show Act.put _ (some 6) _ = _
                          simp only [Act.put, List.setIfInBounds_toArray, List.set_cons_zero, List.set_cons_succ, i64_w, i32_w]
                          rfl
                        exact norm_ (by first | (simp only [putAll, Act.put, List.setIfInBounds_toArray, List.set_cons_zero, List.set_cons_succ]; done) | (simp only [putAll, Act.put, List.setIfInBounds_toArray, List.set_cons_zero, List.set_cons_succ]; rfl)) (hJ4_5 (g5, w1.heap.size) _ ⟨BA, BB, HB, M5, L5, M6, L6, HN⟩)
                  · skip
                    rintro ⟨g5, g6⟩ w1 ⟨BA, BB, HB⟩
                    have hHeld : w1.cell? ⟨w.heap.size, 0, none⟩ = some (.int .i64 n1) ∧ w1.cell? ⟨w.heap.size, 1, none⟩ = some (.slice A1 l1.length c1) ∧ w1.cell? ⟨w.heap.size, 2, none⟩ = some (.slice B1 s1.length d1) ∧ w1.cell? ⟨gB, 0, none⟩ = some (.int .i64 n2) ∧ w1.cell? ⟨gB, 1, none⟩ = some (.slice A2 l2.length c2) ∧ w1.cell? ⟨gB, 2, none⟩ = some (.slice B2 s2.length d2) := ⟨(three BA.out).1, (three BA.out).2.1, (three BA.out).2.2, (three BB.out).1, (three BB.out).2.1, (three BB.out).2.2⟩
                    refine norm_ (a' := ?_) ?_ ?_
                    rotate_left
                    · simp only [putAll, Act.put, List.setIfInBounds_toArray, List.set_cons_zero, List.set_cons_succ]
                      rfl
                    refine three_ (i := 3) (j := 4) (k := 5) (Ni := some 13) (Nj := some 5) (Nk := some 6) #[true, true, true, true, false, false, false, false] #[true, true, true, false, true, false, false, false] #[true, true, true, false, false, true, false, false] rfl rfl rfl rfl rfl rfl (by kernel_rfl) (by decide) (by decide) (by decide) (fun K hK => ?_) (fun K hK => ?_) (fun K hK => ?_)
                    · skip
                      refine goes_ Try.func16 (by kernel_rfl) rfl #[.agg #[.int .i64 n2, .slice A2 l2.length c2, .slice B2 s2.length d2]] (by rfl) rfl rfl (by simp only [List.map_toArray, List.map_cons, List.map_nil]; rfl) ?_
                      with_reducible refine (HT2.out _ (Kd.C_below HR2.out HB.out)).mono ?_
                      rintro e w3 ⟨rfl, hb⟩
                      refine ⟨_, rfl, ?_⟩
                      have BA := Aside0.mk (blk_below BA.out hb)
                      have BB := Aside0.mk (blk_below BB.out hb)
                      have HB := Aside0.mk (below_step HB.out hb)
                      clear hb
                      refine hK.out _ _ ⟨(three BA.out).1, (three BA.out).2.1, (three BA.out).2.2, (three BB.out).1, (three BB.out).2.1, (three BB.out).2.2⟩ (fun hHeld => ?_)
                      clear hK K
                      refine norm_ (a' := ?_) ?_ ?_
                      rotate_left
                      · show Act.put _ (some 13) _ = _
                        simp only [Act.put, List.setIfInBounds_toArray, List.set_cons_zero, List.set_cons_succ, i64_w, i32_w]
                        rfl
                      exact norm_ (by first | (simp only [putAll, Act.put, List.setIfInBounds_toArray, List.set_cons_zero, List.set_cons_succ]; done) | (simp only [putAll, Act.put, List.setIfInBounds_toArray, List.set_cons_zero, List.set_cons_succ]; rfl)) (hJ1_3 (0, 0) _ ⟨BA, BB, HB⟩)
                    · skip
                      refine value_ (w1 := ?_) (v := ?_) (by rfl) rfl ?_ ?_
                      rotate_left 2
                      · go_simp
                        constructor
                        · rfl
                        · rfl
                      have M5 := Aside0.mk (show Mem .i64 (w1.alloc (.cells #[.int .i64 0, .int .i64 0, .int .i64 0, .int .i64 0, .int .i64 0, .int .i64 0, .int .i64 0, .int .i64 0, .int .i64 0, .int .i64 0, .int .i64 0, .int .i64 0, .int .i64 0] 28)) w1.heap.size 28 z13 from Mem.new .i64 w1 28 z13)
                      have L5 := Aside0.mk (blk_lt BB.out)
                      have BA := Aside0.mk (blk_alloc BA.out (.cells #[.int .i64 0, .int .i64 0, .int .i64 0, .int .i64 0, .int .i64 0, .int .i64 0, .int .i64 0, .int .i64 0, .int .i64 0, .int .i64 0, .int .i64 0, .int .i64 0, .int .i64 0] 28))
                      have BB := Aside0.mk (blk_alloc BB.out (.cells #[.int .i64 0, .int .i64 0, .int .i64 0, .int .i64 0, .int .i64 0, .int .i64 0, .int .i64 0, .int .i64 0, .int .i64 0, .int .i64 0, .int .i64 0, .int .i64 0, .int .i64 0] 28))
                      have HB := Aside0.mk (below_alloc HB.out (.cells #[.int .i64 0, .int .i64 0, .int .i64 0, .int .i64 0, .int .i64 0, .int .i64 0, .int .i64 0, .int .i64 0, .int .i64 0, .int .i64 0, .int .i64 0, .int .i64 0, .int .i64 0] 28))
                      refine hK.out _ _ ⟨(three BA.out).1, (three BA.out).2.1, (three BA.out).2.2, (three BB.out).1, (three BB.out).2.1, (three BB.out).2.2⟩ (fun hHeld => ?_)
                      clear hK K
                      refine norm_ (a' := ?_) ?_ ?_
                      rotate_left
                      · show Act.put _ (some 5) _ = _
                        simp only [Act.put, List.setIfInBounds_toArray, List.set_cons_zero, List.set_cons_succ, i64_w, i32_w]
                        rfl
                      exact norm_ (by first | (simp only [putAll, Act.put, List.setIfInBounds_toArray, List.set_cons_zero, List.set_cons_succ]; done) | (simp only [putAll, Act.put, List.setIfInBounds_toArray, List.set_cons_zero, List.set_cons_succ]; rfl)) (hJ1_4 (w1.heap.size, 0) _ ⟨BA, BB, HB, M5, L5⟩)
                    · skip
                      refine value_ (w1 := ?_) (v := ?_) (by rfl) rfl ?_ ?_
                      rotate_left 2
                      · go_simp
                        constructor
                        · rfl
                        · rfl
                      have M6 := Aside0.mk (show Mem .i64 (w1.alloc (.cells #[.int .i64 0, .int .i64 0, .int .i64 0, .int .i64 0, .int .i64 0, .int .i64 0, .int .i64 0, .int .i64 0, .int .i64 0, .int .i64 0, .int .i64 0, .int .i64 0, .int .i64 0] 28)) w1.heap.size 28 z13 from Mem.new .i64 w1 28 z13)
                      have L6 := Aside0.mk (blk_lt BB.out)
                      have BA := Aside0.mk (blk_alloc BA.out (.cells #[.int .i64 0, .int .i64 0, .int .i64 0, .int .i64 0, .int .i64 0, .int .i64 0, .int .i64 0, .int .i64 0, .int .i64 0, .int .i64 0, .int .i64 0, .int .i64 0, .int .i64 0] 28))
                      have BB := Aside0.mk (blk_alloc BB.out (.cells #[.int .i64 0, .int .i64 0, .int .i64 0, .int .i64 0, .int .i64 0, .int .i64 0, .int .i64 0, .int .i64 0, .int .i64 0, .int .i64 0, .int .i64 0, .int .i64 0, .int .i64 0] 28))
                      have HB := Aside0.mk (below_alloc HB.out (.cells #[.int .i64 0, .int .i64 0, .int .i64 0, .int .i64 0, .int .i64 0, .int .i64 0, .int .i64 0, .int .i64 0, .int .i64 0, .int .i64 0, .int .i64 0, .int .i64 0, .int .i64 0] 28))
                      refine hK.out _ _ ⟨(three BA.out).1, (three BA.out).2.1, (three BA.out).2.2, (three BB.out).1, (three BB.out).2.1, (three BB.out).2.2⟩ (fun hHeld => ?_)
                      clear hK K
                      refine norm_ (a' := ?_) ?_ ?_
                      rotate_left
                      · show Act.put _ (some 6) _ = _
                        simp only [Act.put, List.setIfInBounds_toArray, List.set_cons_zero, List.set_cons_succ, i64_w, i32_w]
                        rfl
                      exact norm_ (by first | (simp only [putAll, Act.put, List.setIfInBounds_toArray, List.set_cons_zero, List.set_cons_succ]; done) | (simp only [putAll, Act.put, List.setIfInBounds_toArray, List.set_cons_zero, List.set_cons_succ]; rfl)) (hJ1_5 (0, w1.heap.size) _ ⟨BA, BB, HB, M6, L6⟩)
                · skip
                  rintro ⟨g5, g6⟩ w1 ⟨BA, BB, HB, M5, L5, M6, L6, HN⟩
                  have hHeld : w1.cell? ⟨w.heap.size, 0, none⟩ = some (.int .i64 n1) ∧ w1.cell? ⟨w.heap.size, 1, none⟩ = some (.slice A1 l1.length c1) ∧ w1.cell? ⟨w.heap.size, 2, none⟩ = some (.slice B1 s1.length d1) ∧ w1.cell? ⟨gB, 0, none⟩ = some (.int .i64 n2) ∧ w1.cell? ⟨gB, 1, none⟩ = some (.slice A2 l2.length c2) ∧ w1.cell? ⟨gB, 2, none⟩ = some (.slice B2 s2.length d2) := ⟨(three BA.out).1, (three BA.out).2.1, (three BA.out).2.2, (three BB.out).1, (three BB.out).2.1, (three BB.out).2.2⟩
                  refine norm_ (a' := ?_) ?_ ?_
                  rotate_left
                  · simp only [putAll, Act.put, List.setIfInBounds_toArray, List.set_cons_zero, List.set_cons_succ]
                    rfl
                  refine one_ (i := 1) (N := some 11) #[true, true, true, false, true, true, false, false] rfl rfl (by kernel_rfl) (by decide) (fun K hK => ?_)
                  refine goes_ Try.func16 (by kernel_rfl) rfl #[.agg #[.int .i64 n1, .slice A1 l1.length c1, .slice B1 s1.length d1]] (by rfl) rfl rfl (by simp only [List.map_toArray, List.map_cons, List.map_nil]; rfl) ?_
                  with_reducible refine (HT1.out _ (Kd.C_below HR1.out HB.out)).mono ?_
                  rintro e w3 ⟨rfl, hb⟩
                  refine ⟨_, rfl, ?_⟩
                  have M5 := Aside0.mk (Mem.below M5.out hb)
                  have M6 := Aside0.mk (Mem.below M6.out hb)
                  have BA := Aside0.mk (blk_below BA.out hb)
                  have BB := Aside0.mk (blk_below BB.out hb)
                  have HB := Aside0.mk (below_step HB.out hb)
                  clear hb
                  refine hK.out _ _ ⟨(three BA.out).1, (three BA.out).2.1, (three BA.out).2.2, (three BB.out).1, (three BB.out).2.1, (three BB.out).2.2⟩ (fun hHeld => ?_)
                  clear hK K
                  refine norm_ (a' := ?_) ?_ ?_
                  rotate_left
                  · show Act.put _ (some 11) _ = _
                    simp only [Act.put, List.setIfInBounds_toArray, List.set_cons_zero, List.set_cons_succ, i64_w, i32_w]
                    rfl
                  exact norm_ (by first | (simp only [putAll, Act.put, List.setIfInBounds_toArray, List.set_cons_zero, List.set_cons_succ]; done) | (simp only [putAll, Act.put, List.setIfInBounds_toArray, List.set_cons_zero, List.set_cons_succ]; rfl)) (hJ1_4_5 (g5, g6) _ ⟨BA, BB, HB, M5, L5, M6, L6, HN⟩)
              · skip
                rintro ⟨g5, g6⟩ w1 ⟨BA, BB, HB, M6, L6⟩
                have hHeld : w1.cell? ⟨w.heap.size, 0, none⟩ = some (.int .i64 n1) ∧ w1.cell? ⟨w.heap.size, 1, none⟩ = some (.slice A1 l1.length c1) ∧ w1.cell? ⟨w.heap.size, 2, none⟩ = some (.slice B1 s1.length d1) ∧ w1.cell? ⟨gB, 0, none⟩ = some (.int .i64 n2) ∧ w1.cell? ⟨gB, 1, none⟩ = some (.slice A2 l2.length c2) ∧ w1.cell? ⟨gB, 2, none⟩ = some (.slice B2 s2.length d2) := ⟨(three BA.out).1, (three BA.out).2.1, (three BA.out).2.2, (three BB.out).1, (three BB.out).2.1, (three BB.out).2.2⟩
                refine norm_ (a' := ?_) ?_ ?_
                rotate_left
                · simp only [putAll, Act.put, List.setIfInBounds_toArray, List.set_cons_zero, List.set_cons_succ]
                  rfl
                refine two_ (i := 3) (j := 4) (Ni := some 13) (Nj := some 5) #[true, true, true, true, false, true, false, false] #[true, true, true, false, true, true, false, false] rfl rfl rfl rfl (by kernel_rfl) (by decide) (by decide) (fun K hK => ?_) (fun K hK => ?_)
                · skip
                  refine goes_ Try.func16 (by kernel_rfl) rfl #[.agg #[.int .i64 n2, .slice A2 l2.length c2, .slice B2 s2.length d2]] (by rfl) rfl rfl (by simp only [List.map_toArray, List.map_cons, List.map_nil]; rfl) ?_
                  with_reducible refine (HT2.out _ (Kd.C_below HR2.out HB.out)).mono ?_
                  rintro e w3 ⟨rfl, hb⟩
                  refine ⟨_, rfl, ?_⟩
                  have M6 := Aside0.mk (Mem.below M6.out hb)
                  have BA := Aside0.mk (blk_below BA.out hb)
                  have BB := Aside0.mk (blk_below BB.out hb)
                  have HB := Aside0.mk (below_step HB.out hb)
                  clear hb
                  refine hK.out _ _ ⟨(three BA.out).1, (three BA.out).2.1, (three BA.out).2.2, (three BB.out).1, (three BB.out).2.1, (three BB.out).2.2⟩ (fun hHeld => ?_)
                  clear hK K
                  refine norm_ (a' := ?_) ?_ ?_
                  rotate_left
                  · show Act.put _ (some 13) _ = _
                    simp only [Act.put, List.setIfInBounds_toArray, List.set_cons_zero, List.set_cons_succ, i64_w, i32_w]
                    rfl
                  exact norm_ (by first | (simp only [putAll, Act.put, List.setIfInBounds_toArray, List.set_cons_zero, List.set_cons_succ]; done) | (simp only [putAll, Act.put, List.setIfInBounds_toArray, List.set_cons_zero, List.set_cons_succ]; rfl)) (hJ1_3_5 (0, g6) _ ⟨BA, BB, HB, M6, L6⟩)
                · skip
                  refine value_ (w1 := ?_) (v := ?_) (by rfl) rfl ?_ ?_
                  rotate_left 2
                  · go_simp
                    constructor
                    · rfl
                    · rfl
                  have M5 := Aside0.mk (show Mem .i64 (w1.alloc (.cells #[.int .i64 0, .int .i64 0, .int .i64 0, .int .i64 0, .int .i64 0, .int .i64 0, .int .i64 0, .int .i64 0, .int .i64 0, .int .i64 0, .int .i64 0, .int .i64 0, .int .i64 0] 28)) w1.heap.size 28 z13 from Mem.new .i64 w1 28 z13)
                  have L5 := Aside0.mk (blk_lt BB.out)
                  have HN := Aside0.mk (Nat.ne_of_gt M6.out.lt)
                  have M6 := Aside0.mk (Mem.alloc M6.out (.cells #[.int .i64 0, .int .i64 0, .int .i64 0, .int .i64 0, .int .i64 0, .int .i64 0, .int .i64 0, .int .i64 0, .int .i64 0, .int .i64 0, .int .i64 0, .int .i64 0, .int .i64 0] 28))
                  have BA := Aside0.mk (blk_alloc BA.out (.cells #[.int .i64 0, .int .i64 0, .int .i64 0, .int .i64 0, .int .i64 0, .int .i64 0, .int .i64 0, .int .i64 0, .int .i64 0, .int .i64 0, .int .i64 0, .int .i64 0, .int .i64 0] 28))
                  have BB := Aside0.mk (blk_alloc BB.out (.cells #[.int .i64 0, .int .i64 0, .int .i64 0, .int .i64 0, .int .i64 0, .int .i64 0, .int .i64 0, .int .i64 0, .int .i64 0, .int .i64 0, .int .i64 0, .int .i64 0, .int .i64 0] 28))
                  have HB := Aside0.mk (below_alloc HB.out (.cells #[.int .i64 0, .int .i64 0, .int .i64 0, .int .i64 0, .int .i64 0, .int .i64 0, .int .i64 0, .int .i64 0, .int .i64 0, .int .i64 0, .int .i64 0, .int .i64 0, .int .i64 0] 28))
                  refine hK.out _ _ ⟨(three BA.out).1, (three BA.out).2.1, (three BA.out).2.2, (three BB.out).1, (three BB.out).2.1, (three BB.out).2.2⟩ (fun hHeld => ?_)
                  clear hK K
                  refine norm_ (a' := ?_) ?_ ?_
                  rotate_left
                  · show Act.put _ (some 5) _ = _
                    simp only [Act.put, List.setIfInBounds_toArray, List.set_cons_zero, List.set_cons_succ, i64_w, i32_w]
                    rfl
                  exact norm_ (by first | (simp only [putAll, Act.put, List.setIfInBounds_toArray, List.set_cons_zero, List.set_cons_succ]; done) | (simp only [putAll, Act.put, List.setIfInBounds_toArray, List.set_cons_zero, List.set_cons_succ]; rfl)) (hJ1_4_5 (w1.heap.size, g6) _ ⟨BA, BB, HB, M5, L5, M6, L6, HN⟩)
            · skip
              rintro ⟨g5, g6⟩ w1 ⟨BA, BB, HB, M5, L5⟩
              have hHeld : w1.cell? ⟨w.heap.size, 0, none⟩ = some (.int .i64 n1) ∧ w1.cell? ⟨w.heap.size, 1, none⟩ = some (.slice A1 l1.length c1) ∧ w1.cell? ⟨w.heap.size, 2, none⟩ = some (.slice B1 s1.length d1) ∧ w1.cell? ⟨gB, 0, none⟩ = some (.int .i64 n2) ∧ w1.cell? ⟨gB, 1, none⟩ = some (.slice A2 l2.length c2) ∧ w1.cell? ⟨gB, 2, none⟩ = some (.slice B2 s2.length d2) := ⟨(three BA.out).1, (three BA.out).2.1, (three BA.out).2.2, (three BB.out).1, (three BB.out).2.1, (three BB.out).2.2⟩
              refine norm_ (a' := ?_) ?_ ?_
              rotate_left
              · simp only [putAll, Act.put, List.setIfInBounds_toArray, List.set_cons_zero, List.set_cons_succ]
                rfl
              refine two_ (i := 3) (j := 5) (Ni := some 13) (Nj := some 6) #[true, true, true, true, true, false, false, false] #[true, true, true, false, true, true, false, false] rfl rfl rfl rfl (by kernel_rfl) (by decide) (by decide) (fun K hK => ?_) (fun K hK => ?_)
              · skip
                refine goes_ Try.func16 (by kernel_rfl) rfl #[.agg #[.int .i64 n2, .slice A2 l2.length c2, .slice B2 s2.length d2]] (by rfl) rfl rfl (by simp only [List.map_toArray, List.map_cons, List.map_nil]; rfl) ?_
                with_reducible refine (HT2.out _ (Kd.C_below HR2.out HB.out)).mono ?_
                rintro e w3 ⟨rfl, hb⟩
                refine ⟨_, rfl, ?_⟩
                have M5 := Aside0.mk (Mem.below M5.out hb)
                have BA := Aside0.mk (blk_below BA.out hb)
                have BB := Aside0.mk (blk_below BB.out hb)
                have HB := Aside0.mk (below_step HB.out hb)
                clear hb
                refine hK.out _ _ ⟨(three BA.out).1, (three BA.out).2.1, (three BA.out).2.2, (three BB.out).1, (three BB.out).2.1, (three BB.out).2.2⟩ (fun hHeld => ?_)
                clear hK K
                refine norm_ (a' := ?_) ?_ ?_
                rotate_left
                · show Act.put _ (some 13) _ = _
                  simp only [Act.put, List.setIfInBounds_toArray, List.set_cons_zero, List.set_cons_succ, i64_w, i32_w]
                  rfl
                exact norm_ (by first | (simp only [putAll, Act.put, List.setIfInBounds_toArray, List.set_cons_zero, List.set_cons_succ]; done) | (simp only [putAll, Act.put, List.setIfInBounds_toArray, List.set_cons_zero, List.set_cons_succ]; rfl)) (hJ1_3_4 (g5, 0) _ ⟨BA, BB, HB, M5, L5⟩)
              · skip
                refine value_ (w1 := ?_) (v := ?_) (by rfl) rfl ?_ ?_
                rotate_left 2
                · go_simp
                  constructor
                  · rfl
                  · rfl
                have M6 := Aside0.mk (show Mem .i64 (w1.alloc (.cells #[.int .i64 0, .int .i64 0, .int .i64 0, .int .i64 0, .int .i64 0, .int .i64 0, .int .i64 0, .int .i64 0, .int .i64 0, .int .i64 0, .int .i64 0, .int .i64 0, .int .i64 0] 28)) w1.heap.size 28 z13 from Mem.new .i64 w1 28 z13)
                have L6 := Aside0.mk (blk_lt BB.out)
                have HN := Aside0.mk (Nat.ne_of_lt M5.out.lt)
                have M5 := Aside0.mk (Mem.alloc M5.out (.cells #[.int .i64 0, .int .i64 0, .int .i64 0, .int .i64 0, .int .i64 0, .int .i64 0, .int .i64 0, .int .i64 0, .int .i64 0, .int .i64 0, .int .i64 0, .int .i64 0, .int .i64 0] 28))
                have BA := Aside0.mk (blk_alloc BA.out (.cells #[.int .i64 0, .int .i64 0, .int .i64 0, .int .i64 0, .int .i64 0, .int .i64 0, .int .i64 0, .int .i64 0, .int .i64 0, .int .i64 0, .int .i64 0, .int .i64 0, .int .i64 0] 28))
                have BB := Aside0.mk (blk_alloc BB.out (.cells #[.int .i64 0, .int .i64 0, .int .i64 0, .int .i64 0, .int .i64 0, .int .i64 0, .int .i64 0, .int .i64 0, .int .i64 0, .int .i64 0, .int .i64 0, .int .i64 0, .int .i64 0] 28))
                have HB := Aside0.mk (below_alloc HB.out (.cells #[.int .i64 0, .int .i64 0, .int .i64 0, .int .i64 0, .int .i64 0, .int .i64 0, .int .i64 0, .int .i64 0, .int .i64 0, .int .i64 0, .int .i64 0, .int .i64 0, .int .i64 0] 28))
                refine hK.out _ _ ⟨(three BA.out).1, (three BA.out).2.1, (three BA.out).2.2, (three BB.out).1, (three BB.out).2.1, (three BB.out).2.2⟩ (fun hHeld => ?_)
                clear hK K
                refine norm_ (a' := ?_) ?_ ?_
                rotate_left
                · show Act.put _ (some 6) _ = _
                  simp only [Act.put, List.setIfInBounds_toArray, List.set_cons_zero, List.set_cons_succ, i64_w, i32_w]
                  rfl
                exact norm_ (by first | (simp only [putAll, Act.put, List.setIfInBounds_toArray, List.set_cons_zero, List.set_cons_succ]; done) | (simp only [putAll, Act.put, List.setIfInBounds_toArray, List.set_cons_zero, List.set_cons_succ]; rfl)) (hJ1_4_5 (g5, w1.heap.size) _ ⟨BA, BB, HB, M5, L5, M6, L6, HN⟩)
          · skip
            rintro ⟨g5, g6⟩ w1 ⟨BA, BB, HB⟩
            have hHeld : w1.cell? ⟨w.heap.size, 0, none⟩ = some (.int .i64 n1) ∧ w1.cell? ⟨w.heap.size, 1, none⟩ = some (.slice A1 l1.length c1) ∧ w1.cell? ⟨w.heap.size, 2, none⟩ = some (.slice B1 s1.length d1) ∧ w1.cell? ⟨gB, 0, none⟩ = some (.int .i64 n2) ∧ w1.cell? ⟨gB, 1, none⟩ = some (.slice A2 l2.length c2) ∧ w1.cell? ⟨gB, 2, none⟩ = some (.slice B2 s2.length d2) := ⟨(three BA.out).1, (three BA.out).2.1, (three BA.out).2.2, (three BB.out).1, (three BB.out).2.1, (three BB.out).2.2⟩
            refine norm_ (a' := ?_) ?_ ?_
            rotate_left
            · simp only [putAll, Act.put, List.setIfInBounds_toArray, List.set_cons_zero, List.set_cons_succ]
              rfl
            refine two_ (i := 4) (j := 5) (Ni := some 5) (Nj := some 6) #[true, true, true, true, true, false, false, false] #[true, true, true, true, false, true, false, false] rfl rfl rfl rfl (by kernel_rfl) (by decide) (by decide) (fun K hK => ?_) (fun K hK => ?_)
            · skip
              refine value_ (w1 := ?_) (v := ?_) (by rfl) rfl ?_ ?_
              rotate_left 2
              · go_simp
                constructor
                · rfl
                · rfl
              have M5 := Aside0.mk (show Mem .i64 (w1.alloc (.cells #[.int .i64 0, .int .i64 0, .int .i64 0, .int .i64 0, .int .i64 0, .int .i64 0, .int .i64 0, .int .i64 0, .int .i64 0, .int .i64 0, .int .i64 0, .int .i64 0, .int .i64 0] 28)) w1.heap.size 28 z13 from Mem.new .i64 w1 28 z13)
              have L5 := Aside0.mk (blk_lt BB.out)
              have BA := Aside0.mk (blk_alloc BA.out (.cells #[.int .i64 0, .int .i64 0, .int .i64 0, .int .i64 0, .int .i64 0, .int .i64 0, .int .i64 0, .int .i64 0, .int .i64 0, .int .i64 0, .int .i64 0, .int .i64 0, .int .i64 0] 28))
              have BB := Aside0.mk (blk_alloc BB.out (.cells #[.int .i64 0, .int .i64 0, .int .i64 0, .int .i64 0, .int .i64 0, .int .i64 0, .int .i64 0, .int .i64 0, .int .i64 0, .int .i64 0, .int .i64 0, .int .i64 0, .int .i64 0] 28))
              have HB := Aside0.mk (below_alloc HB.out (.cells #[.int .i64 0, .int .i64 0, .int .i64 0, .int .i64 0, .int .i64 0, .int .i64 0, .int .i64 0, .int .i64 0, .int .i64 0, .int .i64 0, .int .i64 0, .int .i64 0, .int .i64 0] 28))
              refine hK.out _ _ ⟨(three BA.out).1, (three BA.out).2.1, (three BA.out).2.2, (three BB.out).1, (three BB.out).2.1, (three BB.out).2.2⟩ (fun hHeld => ?_)
              clear hK K
              refine norm_ (a' := ?_) ?_ ?_
              rotate_left
              · show Act.put _ (some 5) _ = _
                simp only [Act.put, List.setIfInBounds_toArray, List.set_cons_zero, List.set_cons_succ, i64_w, i32_w]
                rfl
              exact norm_ (by first | (simp only [putAll, Act.put, List.setIfInBounds_toArray, List.set_cons_zero, List.set_cons_succ]; done) | (simp only [putAll, Act.put, List.setIfInBounds_toArray, List.set_cons_zero, List.set_cons_succ]; rfl)) (hJ1_3_4 (w1.heap.size, 0) _ ⟨BA, BB, HB, M5, L5⟩)
            · skip
              refine value_ (w1 := ?_) (v := ?_) (by rfl) rfl ?_ ?_
              rotate_left 2
              · go_simp
                constructor
                · rfl
                · rfl
              have M6 := Aside0.mk (show Mem .i64 (w1.alloc (.cells #[.int .i64 0, .int .i64 0, .int .i64 0, .int .i64 0, .int .i64 0, .int .i64 0, .int .i64 0, .int .i64 0, .int .i64 0, .int .i64 0, .int .i64 0, .int .i64 0, .int .i64 0] 28)) w1.heap.size 28 z13 from Mem.new .i64 w1 28 z13)
              have L6 := Aside0.mk (blk_lt BB.out)
              have BA := Aside0.mk (blk_alloc BA.out (.cells #[.int .i64 0, .int .i64 0, .int .i64 0, .int .i64 0, .int .i64 0, .int .i64 0, .int .i64 0, .int .i64 0, .int .i64 0, .int .i64 0, .int .i64 0, .int .i64 0, .int .i64 0] 28))
              have BB := Aside0.mk (blk_alloc BB.out (.cells #[.int .i64 0, .int .i64 0, .int .i64 0, .int .i64 0, .int .i64 0, .int .i64 0, .int .i64 0, .int .i64 0, .int .i64 0, .int .i64 0, .int .i64 0, .int .i64 0, .int .i64 0] 28))
              have HB := Aside0.mk (below_alloc HB.out (.cells #[.int .i64 0, .int .i64 0, .int .i64 0, .int .i64 0, .int .i64 0, .int .i64 0, .int .i64 0, .int .i64 0, .int .i64 0, .int .i64 0, .int .i64 0, .int .i64 0, .int .i64 0] 28))
              refine hK.out _ _ ⟨(three BA.out).1, (three BA.out).2.1, (three BA.out).2.2, (three BB.out).1, (three BB.out).2.1, (three BB.out).2.2⟩ (fun hHeld => ?_)
              clear hK K
              refine norm_ (a' := ?_) ?_ ?_
              rotate_left
              · show Act.put _ (some 6) _ = _
                simp only [Act.put, List.setIfInBounds_toArray, List.set_cons_zero, List.set_cons_succ, i64_w, i32_w]
                rfl
              exact norm_ (by first | (simp only [putAll, Act.put, List.setIfInBounds_toArray, List.set_cons_zero, List.set_cons_succ]; done) | (simp only [putAll, Act.put, List.setIfInBounds_toArray, List.set_cons_zero, List.set_cons_succ]; rfl)) (hJ1_3_5 (0, w1.heap.size) _ ⟨BA, BB, HB, M6, L6⟩)
        · skip
          rintro ⟨g5, g6⟩ w1 ⟨BA, BB, HB, M5, L5, M6, L6, HN⟩
          have hHeld : w1.cell? ⟨w.heap.size, 0, none⟩ = some (.int .i64 n1) ∧ w1.cell? ⟨w.heap.size, 1, none⟩ = some (.slice A1 l1.length c1) ∧ w1.cell? ⟨w.heap.size, 2, none⟩ = some (.slice B1 s1.length d1) ∧ w1.cell? ⟨gB, 0, none⟩ = some (.int .i64 n2) ∧ w1.cell? ⟨gB, 1, none⟩ = some (.slice A2 l2.length c2) ∧ w1.cell? ⟨gB, 2, none⟩ = some (.slice B2 s2.length d2) := ⟨(three BA.out).1, (three BA.out).2.1, (three BA.out).2.2, (three BB.out).1, (three BB.out).2.1, (three BB.out).2.2⟩
          refine norm_ (a' := ?_) ?_ ?_
          rotate_left
          · simp only [putAll, Act.put, List.setIfInBounds_toArray, List.set_cons_zero, List.set_cons_succ]
            rfl
          refine one_ (i := 3) (N := some 13) #[true, true, true, true, true, true, false, false] rfl rfl (by kernel_rfl) (by decide) (fun K hK => ?_)
          refine goes_ Try.func16 (by kernel_rfl) rfl #[.agg #[.int .i64 n2, .slice A2 l2.length c2, .slice B2 s2.length d2]] (by rfl) rfl rfl (by simp only [List.map_toArray, List.map_cons, List.map_nil]; rfl) ?_
          with_reducible refine (HT2.out _ (Kd.C_below HR2.out HB.out)).mono ?_
          rintro e w3 ⟨rfl, hb⟩
          refine ⟨_, rfl, ?_⟩
          have M5 := Aside0.mk (Mem.below M5.out hb)
          have M6 := Aside0.mk (Mem.below M6.out hb)
          have BA := Aside0.mk (blk_below BA.out hb)
          have BB := Aside0.mk (blk_below BB.out hb)
          have HB := Aside0.mk (below_step HB.out hb)
          clear hb
          refine hK.out _ _ ⟨(three BA.out).1, (three BA.out).2.1, (three BA.out).2.2, (three BB.out).1, (three BB.out).2.1, (three BB.out).2.2⟩ (fun hHeld => ?_)
          clear hK K
          refine norm_ (a' := ?_) ?_ ?_
          rotate_left
          · show Act.put _ (some 13) _ = _
            simp only [Act.put, List.setIfInBounds_toArray, List.set_cons_zero, List.set_cons_succ, i64_w, i32_w]
            rfl
          exact norm_ (by first | (simp only [putAll, Act.put, List.setIfInBounds_toArray, List.set_cons_zero, List.set_cons_succ]; done) | (simp only [putAll, Act.put, List.setIfInBounds_toArray, List.set_cons_zero, List.set_cons_succ]; rfl)) (hJ1_3_4_5 (g5, g6) _ ⟨BA, BB, HB, M5, L5, M6, L6, HN⟩)
      · skip
        rintro ⟨g5, g6⟩ w1 ⟨BA, BB, HB, M6, L6⟩
        have hHeld : w1.cell? ⟨w.heap.size, 0, none⟩ = some (.int .i64 n1) ∧ w1.cell? ⟨w.heap.size, 1, none⟩ = some (.slice A1 l1.length c1) ∧ w1.cell? ⟨w.heap.size, 2, none⟩ = some (.slice B1 s1.length d1) ∧ w1.cell? ⟨gB, 0, none⟩ = some (.int .i64 n2) ∧ w1.cell? ⟨gB, 1, none⟩ = some (.slice A2 l2.length c2) ∧ w1.cell? ⟨gB, 2, none⟩ = some (.slice B2 s2.length d2) := ⟨(three BA.out).1, (three BA.out).2.1, (three BA.out).2.2, (three BB.out).1, (three BB.out).2.1, (three BB.out).2.2⟩
        refine norm_ (a' := ?_) ?_ ?_
        rotate_left
        · simp only [putAll, Act.put, List.setIfInBounds_toArray, List.set_cons_zero, List.set_cons_succ]
          rfl
        refine one_ (i := 4) (N := some 5) #[true, true, true, true, true, true, false, false] rfl rfl (by kernel_rfl) (by decide) (fun K hK => ?_)
        refine value_ (w1 := ?_) (v := ?_) (by rfl) rfl ?_ ?_
        rotate_left 2
        · go_simp
          constructor
          · rfl
          · rfl
        have M5 := Aside0.mk (show Mem .i64 (w1.alloc (.cells #[.int .i64 0, .int .i64 0, .int .i64 0, .int .i64 0, .int .i64 0, .int .i64 0, .int .i64 0, .int .i64 0, .int .i64 0, .int .i64 0, .int .i64 0, .int .i64 0, .int .i64 0] 28)) w1.heap.size 28 z13 from Mem.new .i64 w1 28 z13)
        have L5 := Aside0.mk (blk_lt BB.out)
        have HN := Aside0.mk (Nat.ne_of_gt M6.out.lt)
        have M6 := Aside0.mk (Mem.alloc M6.out (.cells #[.int .i64 0, .int .i64 0, .int .i64 0, .int .i64 0, .int .i64 0, .int .i64 0, .int .i64 0, .int .i64 0, .int .i64 0, .int .i64 0, .int .i64 0, .int .i64 0, .int .i64 0] 28))
        have BA := Aside0.mk (blk_alloc BA.out (.cells #[.int .i64 0, .int .i64 0, .int .i64 0, .int .i64 0, .int .i64 0, .int .i64 0, .int .i64 0, .int .i64 0, .int .i64 0, .int .i64 0, .int .i64 0, .int .i64 0, .int .i64 0] 28))
        have BB := Aside0.mk (blk_alloc BB.out (.cells #[.int .i64 0, .int .i64 0, .int .i64 0, .int .i64 0, .int .i64 0, .int .i64 0, .int .i64 0, .int .i64 0, .int .i64 0, .int .i64 0, .int .i64 0, .int .i64 0, .int .i64 0] 28))
        have HB := Aside0.mk (below_alloc HB.out (.cells #[.int .i64 0, .int .i64 0, .int .i64 0, .int .i64 0, .int .i64 0, .int .i64 0, .int .i64 0, .int .i64 0, .int .i64 0, .int .i64 0, .int .i64 0, .int .i64 0, .int .i64 0] 28))
        refine hK.out _ _ ⟨(three BA.out).1, (three BA.out).2.1, (three BA.out).2.2, (three BB.out).1, (three BB.out).2.1, (three BB.out).2.2⟩ (fun hHeld => ?_)
        clear hK K
        refine norm_ (a' := ?_) ?_ ?_
        rotate_left
        · show Act.put _ (some 5) _ = _
          simp only [Act.put, List.setIfInBounds_toArray, List.set_cons_zero, List.set_cons_succ, i64_w, i32_w]
          rfl
        exact norm_ (by first | (simp only [putAll, Act.put, List.setIfInBounds_toArray, List.set_cons_zero, List.set_cons_succ]; done) | (simp only [putAll, Act.put, List.setIfInBounds_toArray, List.set_cons_zero, List.set_cons_succ]; rfl)) (hJ1_3_4_5 (w1.heap.size, g6) _ ⟨BA, BB, HB, M5, L5, M6, L6, HN⟩)
    · skip
      rintro ⟨g5, g6⟩ w1 ⟨BA, BB, HB, M5, L5⟩
      have hHeld : w1.cell? ⟨w.heap.size, 0, none⟩ = some (.int .i64 n1) ∧ w1.cell? ⟨w.heap.size, 1, none⟩ = some (.slice A1 l1.length c1) ∧ w1.cell? ⟨w.heap.size, 2, none⟩ = some (.slice B1 s1.length d1) ∧ w1.cell? ⟨gB, 0, none⟩ = some (.int .i64 n2) ∧ w1.cell? ⟨gB, 1, none⟩ = some (.slice A2 l2.length c2) ∧ w1.cell? ⟨gB, 2, none⟩ = some (.slice B2 s2.length d2) := ⟨(three BA.out).1, (three BA.out).2.1, (three BA.out).2.2, (three BB.out).1, (three BB.out).2.1, (three BB.out).2.2⟩
      refine norm_ (a' := ?_) ?_ ?_
      rotate_left
      · simp only [putAll, Act.put, List.setIfInBounds_toArray, List.set_cons_zero, List.set_cons_succ]
        rfl
      refine one_ (i := 5) (N := some 6) #[true, true, true, true, true, true, false, false] rfl rfl (by kernel_rfl) (by decide) (fun K hK => ?_)
      refine value_ (w1 := ?_) (v := ?_) (by rfl) rfl ?_ ?_
      rotate_left 2
      · go_simp
        constructor
        · rfl
        · rfl
      have M6 := Aside0.mk (show Mem .i64 (w1.alloc (.cells #[.int .i64 0, .int .i64 0, .int .i64 0, .int .i64 0, .int .i64 0, .int .i64 0, .int .i64 0, .int .i64 0, .int .i64 0, .int .i64 0, .int .i64 0, .int .i64 0, .int .i64 0] 28)) w1.heap.size 28 z13 from Mem.new .i64 w1 28 z13)
      have L6 := Aside0.mk (blk_lt BB.out)
      have HN := Aside0.mk (Nat.ne_of_lt M5.out.lt)
      have M5 := Aside0.mk (Mem.alloc M5.out (.cells #[.int .i64 0, .int .i64 0, .int .i64 0, .int .i64 0, .int .i64 0, .int .i64 0, .int .i64 0, .int .i64 0, .int .i64 0, .int .i64 0, .int .i64 0, .int .i64 0, .int .i64 0] 28))
      have BA := Aside0.mk (blk_alloc BA.out (.cells #[.int .i64 0, .int .i64 0, .int .i64 0, .int .i64 0, .int .i64 0, .int .i64 0, .int .i64 0, .int .i64 0, .int .i64 0, .int .i64 0, .int .i64 0, .int .i64 0, .int .i64 0] 28))
      have BB := Aside0.mk (blk_alloc BB.out (.cells #[.int .i64 0, .int .i64 0, .int .i64 0, .int .i64 0, .int .i64 0, .int .i64 0, .int .i64 0, .int .i64 0, .int .i64 0, .int .i64 0, .int .i64 0, .int .i64 0, .int .i64 0] 28))
      have HB := Aside0.mk (below_alloc HB.out (.cells #[.int .i64 0, .int .i64 0, .int .i64 0, .int .i64 0, .int .i64 0, .int .i64 0, .int .i64 0, .int .i64 0, .int .i64 0, .int .i64 0, .int .i64 0, .int .i64 0, .int .i64 0] 28))
      refine hK.out _ _ ⟨(three BA.out).1, (three BA.out).2.1, (three BA.out).2.2, (three BB.out).1, (three BB.out).2.1, (three BB.out).2.2⟩ (fun hHeld => ?_)
      clear hK K
      refine norm_ (a' := ?_) ?_ ?_
      rotate_left
      · show Act.put _ (some 6) _ = _
        simp only [Act.put, List.setIfInBounds_toArray, List.set_cons_zero, List.set_cons_succ, i64_w, i32_w]
        rfl
      exact norm_ (by first | (simp only [putAll, Act.put, List.setIfInBounds_toArray, List.set_cons_zero, List.set_cons_succ]; done) | (simp only [putAll, Act.put, List.setIfInBounds_toArray, List.set_cons_zero, List.set_cons_succ]; rfl)) (hJ1_3_4_5 (g5, w1.heap.size) _ ⟨BA, BB, HB, M5, L5, M6, L6, HN⟩)
  rintro ⟨g5, g6⟩ w1 ⟨BA, BB, HB, M5, L5, M6, L6, HN⟩
  have hHeld : w1.cell? ⟨w.heap.size, 0, none⟩ = some (.int .i64 n1) ∧ w1.cell? ⟨w.heap.size, 1, none⟩ = some (.slice A1 l1.length c1) ∧ w1.cell? ⟨w.heap.size, 2, none⟩ = some (.slice B1 s1.length d1) ∧ w1.cell? ⟨gB, 0, none⟩ = some (.int .i64 n2) ∧ w1.cell? ⟨gB, 1, none⟩ = some (.slice A2 l2.length c2) ∧ w1.cell? ⟨gB, 2, none⟩ = some (.slice B2 s2.length d2) := ⟨(three BA.out).1, (three BA.out).2.1, (three BA.out).2.2, (three BB.out).1, (three BB.out).2.1, (three BB.out).2.2⟩
  refine norm_ (a' := ?_) ?_ ?_
  rotate_left
  · simp only [putAll, Act.put, List.setIfInBounds_toArray, List.set_cons_zero, List.set_cons_succ]
    rfl
  refine one_ (i := 6) (N := none) #[true, true, true, true, true, true, true, false] rfl rfl (by kernel_rfl) (by decide) (fun K hK => ?_)
  refine skip_ (w1 := ?_) (by rfl) rfl ?_ ?_
  rotate_left
  · refine st13 (c2 := t1) (x := .tmp 5) (y := .tmp 11) M5.out (by first | exact HTL1.out | exact HTL2.out) ?_ ?_ ?_ <;> rfl
  have BA := Aside0.mk ((setRow_other _ _ _ (cellsOf .i64 t1) (Nat.ne_of_lt (Nat.lt_trans HGB.out L5.out))).trans BA.out)
  have BB := Aside0.mk ((setRow_other _ _ _ (cellsOf .i64 t1) (Nat.ne_of_lt L5.out)).trans BB.out)
  have M5 := Aside0.mk (Mem.put M5.out t1)
  have M6 := Aside0.mk (Mem.row M6.out (g' := g5) HN.out (cellsOf .i64 t1))
  have HB := Aside0.mk (below_setRow HB.out (Nat.le_of_lt (Nat.lt_trans HGB.out L5.out)) (cellsOf .i64 t1))
  refine hK.out _ _ ⟨(three BA.out).1, (three BA.out).2.1, (three BA.out).2.2, (three BB.out).1, (three BB.out).2.1, (three BB.out).2.2⟩ (fun hHeld => ?_)
  clear hK K
  refine one_ (i := 7) (N := none) #[true, true, true, true, true, true, true, true] rfl rfl (by kernel_rfl) (by decide) (fun K hK => ?_)
  refine skip_ (w1 := ?_) (by rfl) rfl ?_ ?_
  rotate_left
  · refine st13 (c2 := t2) (x := .tmp 6) (y := .tmp 13) M6.out (by first | exact HTL1.out | exact HTL2.out) ?_ ?_ ?_ <;> rfl
  have BA := Aside0.mk ((setRow_other _ _ _ (cellsOf .i64 t2) (Nat.ne_of_lt (Nat.lt_trans HGB.out L6.out))).trans BA.out)
  have BB := Aside0.mk ((setRow_other _ _ _ (cellsOf .i64 t2) (Nat.ne_of_lt L6.out)).trans BB.out)
  have M6 := Aside0.mk (Mem.put M6.out t2)
  have M5 := Aside0.mk (Mem.row M5.out (g' := g6) HN.out.symm (cellsOf .i64 t2))
  have HB := Aside0.mk (below_setRow HB.out (Nat.le_of_lt (Nat.lt_trans HGB.out L6.out)) (cellsOf .i64 t2))
  refine hK.out _ _ ⟨(three BA.out).1, (three BA.out).2.1, (three BA.out).2.2, (three BB.out).1, (three BB.out).2.1, (three BB.out).2.2⟩ (fun hHeld => ?_)
  clear hK K
  refine done_ (by kernel_rfl) ?_
  generalize ((w1.setRow g5 (cellsOf .i64 t1)).setRow g6 (cellsOf .i64 t2)) = W2 at *
  go_wp2
  go_loopg [7, 8] 13 (fun kq v7 v8 w' => ∃ i : Nat, i + kq = 13 ∧ v7 = .int .i64 (sumW t1 i) ∧ v8 = .int .i64 (i : Int) ∧ w' = W2)
  case atStart => exact ⟨0, rfl, rfl, rfl, rfl⟩
  case round =>
    obtain ⟨i, hi, rfl, rfl, rfl⟩ := hrel
    cases gk with
    | succ k2 =>
      have hi13 : i < 13 := by omega
      have hm := M5.out.cell i (by rw [HTL1.out]; exact hi13)
      have HSN := Aside0.mk (show sumW t1 (i + 1) = wrap64 (sumW t1 i + t1.getD i 0) from rfl)
      have HI := Aside0.mk hi
      have hi2 : (i : Int) < 13 := by omega
      have hi0 : (0 : Int) ≤ (i : Int) := by omega
      generalize sumW t1 i = sm at *
      generalize t1.getD i 0 = x at *
      clear hi
      go_wp2
      go_roundg k2
      case measure => omega
      case rel => exact ⟨i + 1, by have := HI.out; omega, by rw [HSN.out], by go_num, rfl⟩
    | zero =>
      obtain rfl : i = 13 := by omega
      rw [HSUM.out]
      obtain ⟨ha0, ha1, ha2⟩ := three BA.out
      obtain ⟨hb0, hb1, hb2⟩ := three BB.out
      go_wp2_with (first
        | (go_at_call 23; (with_reducible refine (HS12.out _ (Kd.C_below HR1.out HB.out) (Kd.C_below HS1.out HB.out) (Kd.C_below HR2.out HB.out) (Kd.C_below HS2.out HB.out)).mono ?_); rintro e w' ⟨rfl, hb⟩; have BA := Aside0.mk (blk_below BA.out hb); have BB := Aside0.mk (blk_below BB.out hb); have M5 := Aside0.mk (Mem.below M5.out hb); have M6 := Aside0.mk (Mem.below M6.out hb); have HB := Aside0.mk (below_step HB.out hb); clear hb))
      clear ha0 ha1 ha2 hb0 hb1 hb2
      have BA := Aside0.mk (blk_drew BA.out)
      have BB := Aside0.mk (blk_drew BB.out)
      have M5 := Aside0.mk (Mem.drew M5.out)
      have M6 := Aside0.mk (Mem.drew M6.out)
      have HB := Aside0.mk (below_drew HB.out)
      cases sb with
      | true =>
        obtain ⟨et, er⟩ := HALL.out rfl
        subst et
        have E13 := Aside0.mk (eq13 t1 t1 HTL1.out HTL1.out)
        rw [show decide (t1 = t1) = true from decide_eq_true rfl] at E13
        have HK2 := HK2
        rw [← er] at HK2
        clear er
        refine start_ (n := 37) (S := fun w' => w'.cell? ⟨w.heap.size, 0, none⟩ = some (.int .i64 n1) ∧ w'.cell? ⟨w.heap.size, 1, none⟩ = some (.slice A1 l1.length c1) ∧ w'.cell? ⟨w.heap.size, 2, none⟩ = some (.slice B1 s1.length d1) ∧ w'.cell? ⟨gB, 0, none⟩ = some (.int .i64 n2) ∧ w'.cell? ⟨gB, 1, none⟩ = some (.slice A2 l2.length c2) ∧ w'.cell? ⟨gB, 2, none⟩ = some (.slice B2 s2.length d2) ∧ (loadVar 28 ⟨g5, 0, none⟩).run Try.prog w' = .ok (.agg (cellsOf .i64 t1)) w' ∧ (loadVar 28 ⟨g6, 0, none⟩).run Try.prog w' = .ok (.agg (cellsOf .i64 t1)) w') (ds := []) #[false, false, false, false, false, false, false, false, false, false, false, false, false, false, false, false, false, false, false, false, false, false, false, false, false, false, false, false, false, false, false, false, false, false, false, false, false] (by kernel_rfl) rfl rfl ⟨(three BA.out).1, (three BA.out).2.1, (three BA.out).2.2, (three BB.out).1, (three BB.out).2.1, (three BB.out).2.2, (mem_loads13 M5.out HTL1.out), (mem_loads13 M6.out (by first | exact HTL1.out | exact HTL2.out))⟩ (fun hHeld => ?_)
        refine pure_ (i := 0) (N := some 26) (v := ?_) (a' := ?_) #[true, false, false, false, false, false, false, false, false, false, false, false, false, false, false, false, false, false, false, false, false, false, false, false, false, false, false, false, false, false, false, false, false, false, false, false, false] rfl rfl (by kernel_rfl) (fun _ _ _ h => h) (Or.inl ⟨by rfl, ?_⟩) ?_ ?_
        rotate_left
        · intro w'
          go_simp
          with_reducible rfl
        rotate_left
        · simp only [Act.put, List.setIfInBounds_toArray, List.set_cons_zero, List.set_cons_succ, i64_w, i32_w]
          rfl
        refine take_ (i := 1) (N := some 27) (v := ?_) (a' := ?_) #[true, true, false, false, false, false, false, false, false, false, false, false, false, false, false, false, false, false, false, false, false, false, false, false, false, false, false, false, false, false, false, false, false, false, false, false, false] rfl rfl (by kernel_rfl) (fun _ _ _ h => h) (Or.inl ⟨by rfl, ?_⟩) hHeld ?_ ?_
        rotate_left
        · rintro w' ⟨s0, s1, s2, s3, s4, s5, s6, s7⟩
          go_simp
          with_reducible rfl
        rotate_left
        · simp only [Act.put, List.setIfInBounds_toArray, List.set_cons_zero, List.set_cons_succ, i64_w, i32_w]
          rfl
        refine take_ (i := 2) (N := some 28) (v := ?_) (a' := ?_) #[true, true, true, false, false, false, false, false, false, false, false, false, false, false, false, false, false, false, false, false, false, false, false, false, false, false, false, false, false, false, false, false, false, false, false, false, false] rfl rfl (by kernel_rfl) (fun _ _ _ h => h) (Or.inl ⟨by rfl, ?_⟩) hHeld ?_ ?_
        rotate_left
        · rintro w' ⟨s0, s1, s2, s3, s4, s5, s6, s7⟩
          go_simp
          with_reducible rfl
        rotate_left
        · simp only [Act.put, List.setIfInBounds_toArray, List.set_cons_zero, List.set_cons_succ, i64_w, i32_w]
          rfl
        refine one_ (i := 3) (N := some 29) #[true, true, true, true, false, false, false, false, false, false, false, false, false, false, false, false, false, false, false, false, false, false, false, false, false, false, false, false, false, false, false, false, false, false, false, false, false] rfl rfl (by kernel_rfl) (by decide) (fun K hK => ?_)
        refine goes_ Try.func23 (by kernel_rfl) rfl #[.agg #[.int .i64 n2, .slice A2 l2.length c2, .slice B2 s2.length d2], .agg #[.int .i64 n1, .slice A1 l1.length c1, .slice B1 s1.length d1]] (by rfl) rfl rfl (by simp only [List.map_toArray, List.map_cons, List.map_nil]; rfl) ?_
        with_reducible refine (HS21.out _ (Kd.C_below HR2.out HB.out) (Kd.C_below HS2.out HB.out) (Kd.C_below HR1.out HB.out) (Kd.C_below HS1.out HB.out)).mono ?_
        rintro e w31 ⟨rfl, hb31⟩
        refine ⟨_, rfl, ?_⟩
        have M5 := Aside0.mk (Mem.below M5.out hb31)
        have M6 := Aside0.mk (Mem.below M6.out hb31)
        have BA := Aside0.mk (blk_below BA.out hb31)
        have BB := Aside0.mk (blk_below BB.out hb31)
        have HB := Aside0.mk (below_step HB.out hb31)
        clear hb31
        refine hK.out _ _ ⟨(three BA.out).1, (three BA.out).2.1, (three BA.out).2.2, (three BB.out).1, (three BB.out).2.1, (three BB.out).2.2, (mem_loads13 M5.out HTL1.out), (mem_loads13 M6.out (by first | exact HTL1.out | exact HTL2.out))⟩ (fun hHeld => ?_)
        clear hK K
        refine norm_ (a' := ?_) ?_ ?_
        rotate_left
        · show Act.put _ (some 29) _ = _
          simp only [Act.put, List.setIfInBounds_toArray, List.set_cons_zero, List.set_cons_succ, i64_w, i32_w]
          rfl
        refine pure_ (i := 4) (N := some 30) (v := ?_) (a' := ?_) #[true, true, true, true, true, false, false, false, false, false, false, false, false, false, false, false, false, false, false, false, false, false, false, false, false, false, false, false, false, false, false, false, false, false, false, false, false] rfl rfl (by kernel_rfl) (fun _ _ _ h => h) (Or.inl ⟨by rfl, ?_⟩) ?_ ?_
        rotate_left
        · intro w'
          go_simp
          with_reducible rfl
        rotate_left
        · simp only [Act.put, List.setIfInBounds_toArray, List.set_cons_zero, List.set_cons_succ, i64_w, i32_w]
          rfl
        refine pure_ (i := 5) (N := some 31) (v := ?_) (a' := ?_) #[true, true, true, true, true, true, false, false, false, false, false, false, false, false, false, false, false, false, false, false, false, false, false, false, false, false, false, false, false, false, false, false, false, false, false, false, false] rfl rfl (by kernel_rfl) (fun _ _ _ h => h) (Or.inl ⟨by rfl, ?_⟩) ?_ ?_
        rotate_left
        · intro w'
          go_simp
          with_reducible rfl
        rotate_left
        · simp only [Act.put, List.setIfInBounds_toArray, List.set_cons_zero, List.set_cons_succ, i64_w, i32_w]
          rfl
        refine take_ (i := 6) (N := some 32) (v := ?_) (a' := ?_) #[true, true, true, true, true, true, true, false, false, false, false, false, false, false, false, false, false, false, false, false, false, false, false, false, false, false, false, false, false, false, false, false, false, false, false, false, false] rfl rfl (by kernel_rfl) (fun _ _ _ h => h) (Or.inl ⟨by rfl, ?_⟩) hHeld ?_ ?_
        rotate_left
        · rintro w' ⟨s0, s1, s2, s3, s4, s5, s6, s7⟩
          go_simp
          with_reducible rfl
        rotate_left
        · simp only [Act.put, List.setIfInBounds_toArray, List.set_cons_zero, List.set_cons_succ, i64_w, i32_w]
          rfl
        refine take_ (i := 7) (N := some 33) (v := ?_) (a' := ?_) #[true, true, true, true, true, true, true, true, false, false, false, false, false, false, false, false, false, false, false, false, false, false, false, false, false, false, false, false, false, false, false, false, false, false, false, false, false] rfl rfl (by kernel_rfl) (fun _ _ _ h => h) (Or.inl ⟨by rfl, ?_⟩) hHeld ?_ ?_
        rotate_left
        · rintro w' ⟨s0, s1, s2, s3, s4, s5, s6, s7⟩
          go_simp
          with_reducible rfl
        rotate_left
        · simp only [Act.put, List.setIfInBounds_toArray, List.set_cons_zero, List.set_cons_succ, i64_w, i32_w]
          rfl
        refine one_ (i := 8) (N := some 34) #[true, true, true, true, true, true, true, true, true, false, false, false, false, false, false, false, false, false, false, false, false, false, false, false, false, false, false, false, false, false, false, false, false, false, false, false, false] rfl rfl (by kernel_rfl) (by decide) (fun K hK => ?_)
        refine goes_ Try.func23 (by kernel_rfl) rfl #[.agg #[.int .i64 n1, .slice A1 l1.length c1, .slice B1 s1.length d1], .agg #[.int .i64 n1, .slice A1 l1.length c1, .slice B1 s1.length d1]] (by rfl) rfl rfl (by simp only [List.map_toArray, List.map_cons, List.map_nil]; rfl) ?_
        with_reducible refine (HS11.out _ (Kd.C_below HR1.out HB.out) (Kd.C_below HS1.out HB.out) (Kd.C_below HR1.out HB.out) (Kd.C_below HS1.out HB.out)).mono ?_
        rintro e w32 ⟨rfl, hb32⟩
        refine ⟨_, rfl, ?_⟩
        have M5 := Aside0.mk (Mem.below M5.out hb32)
        have M6 := Aside0.mk (Mem.below M6.out hb32)
        have BA := Aside0.mk (blk_below BA.out hb32)
        have BB := Aside0.mk (blk_below BB.out hb32)
        have HB := Aside0.mk (below_step HB.out hb32)
        clear hb32
        refine hK.out _ _ ⟨(three BA.out).1, (three BA.out).2.1, (three BA.out).2.2, (three BB.out).1, (three BB.out).2.1, (three BB.out).2.2, (mem_loads13 M5.out HTL1.out), (mem_loads13 M6.out (by first | exact HTL1.out | exact HTL2.out))⟩ (fun hHeld => ?_)
        clear hK K
        refine norm_ (a' := ?_) ?_ ?_
        rotate_left
        · show Act.put _ (some 34) _ = _
          simp only [Act.put, List.setIfInBounds_toArray, List.set_cons_zero, List.set_cons_succ, i64_w, i32_w]
          rfl
        refine pure_ (i := 9) (N := some 35) (v := ?_) (a' := ?_) #[true, true, true, true, true, true, true, true, true, true, false, false, false, false, false, false, false, false, false, false, false, false, false, false, false, false, false, false, false, false, false, false, false, false, false, false, false] rfl rfl (by kernel_rfl) (fun _ _ _ h => h) (Or.inl ⟨by rfl, ?_⟩) ?_ ?_
        rotate_left
        · intro w'
          go_simp
          with_reducible rfl
        rotate_left
        · simp only [Act.put, List.setIfInBounds_toArray, List.set_cons_zero, List.set_cons_succ, i64_w, i32_w]
          rfl
        refine pure_ (i := 10) (N := some 36) (v := ?_) (a' := ?_) #[true, true, true, true, true, true, true, true, true, true, true, false, false, false, false, false, false, false, false, false, false, false, false, false, false, false, false, false, false, false, false, false, false, false, false, false, false] rfl rfl (by kernel_rfl) (fun _ _ _ h => h) (Or.inl ⟨by rfl, ?_⟩) ?_ ?_
        rotate_left
        · intro w'
          go_simp
          with_reducible rfl
        rotate_left
        · simp only [Act.put, List.setIfInBounds_toArray, List.set_cons_zero, List.set_cons_succ, i64_w, i32_w]
          rfl
        refine pure_ (i := 11) (N := some 37) (v := ?_) (a' := ?_) #[true, true, true, true, true, true, true, true, true, true, true, true, false, false, false, false, false, false, false, false, false, false, false, false, false, false, false, false, false, false, false, false, false, false, false, false, false] rfl rfl (by kernel_rfl) (fun _ _ _ h => h) (Or.inl ⟨by rfl, ?_⟩) ?_ ?_
        rotate_left
        · intro w'
          go_simp
          with_reducible rfl
        rotate_left
        · simp only [Act.put, List.setIfInBounds_toArray, List.set_cons_zero, List.set_cons_succ, i64_w, i32_w]
          rfl
        refine pure_ (i := 12) (N := some 38) (v := ?_) (a' := ?_) #[true, true, true, true, true, true, true, true, true, true, true, true, true, false, false, false, false, false, false, false, false, false, false, false, false, false, false, false, false, false, false, false, false, false, false, false, false] rfl rfl (by kernel_rfl) (fun _ _ _ h => h) (Or.inl ⟨by rfl, ?_⟩) ?_ ?_
        rotate_left
        · intro w'
          go_simp
          with_reducible rfl
        rotate_left
        · simp only [Act.put, List.setIfInBounds_toArray, List.set_cons_zero, List.set_cons_succ, i64_w, i32_w]
          rfl
        refine pure_ (i := 13) (N := some 39) (v := ?_) (a' := ?_) #[true, true, true, true, true, true, true, true, true, true, true, true, true, true, false, false, false, false, false, false, false, false, false, false, false, false, false, false, false, false, false, false, false, false, false, false, false] rfl rfl (by kernel_rfl) (fun _ _ _ h => h) (Or.inl ⟨by rfl, ?_⟩) ?_ ?_
        rotate_left
        · intro w'
          go_simp
          with_reducible rfl
        rotate_left
        · simp only [Act.put, List.setIfInBounds_toArray, List.set_cons_zero, List.set_cons_succ, i64_w, i32_w]
          rfl
        refine take_ (i := 14) (N := some 40) (v := ?_) (a' := ?_) #[true, true, true, true, true, true, true, true, true, true, true, true, true, true, true, false, false, false, false, false, false, false, false, false, false, false, false, false, false, false, false, false, false, false, false, false, false] rfl rfl (by kernel_rfl) (fun _ _ _ h => h) (Or.inl ⟨by rfl, ?_⟩) hHeld ?_ ?_
        rotate_left
        · rintro w' ⟨s0, s1, s2, s3, s4, s5, s6, s7⟩
          refine (load_yields rfl rfl s6).trans ?_
          with_reducible rfl
        rotate_left
        · simp only [Act.put, List.setIfInBounds_toArray, List.set_cons_zero, List.set_cons_succ, i64_w, i32_w]
          rfl
        refine take_ (i := 15) (N := some 41) (v := ?_) (a' := ?_) #[true, true, true, true, true, true, true, true, true, true, true, true, true, true, true, true, false, false, false, false, false, false, false, false, false, false, false, false, false, false, false, false, false, false, false, false, false] rfl rfl (by kernel_rfl) (fun _ _ _ h => h) (Or.inl ⟨by rfl, ?_⟩) hHeld ?_ ?_
        rotate_left
        · rintro w' ⟨s0, s1, s2, s3, s4, s5, s6, s7⟩
          refine (load_yields rfl rfl s7).trans ?_
          with_reducible rfl
        rotate_left
        · simp only [Act.put, List.setIfInBounds_toArray, List.set_cons_zero, List.set_cons_succ, i64_w, i32_w]
          rfl
        refine pure_ (i := 16) (N := some 42) (v := ?_) (a' := ?_) #[true, true, true, true, true, true, true, true, true, true, true, true, true, true, true, true, true, false, false, false, false, false, false, false, false, false, false, false, false, false, false, false, false, false, false, false, false] rfl rfl (by kernel_rfl) (fun _ _ _ h => h) (Or.inl ⟨by rfl, ?_⟩) ?_ ?_
        rotate_left
        · intro w'
          refine (eql_yields rfl rfl rfl guard13 (E13.out w')).trans ?_
          with_reducible rfl
        rotate_left
        · simp only [Act.put, List.setIfInBounds_toArray, List.set_cons_zero, List.set_cons_succ, i64_w, i32_w]
          rfl
        refine pure_ (i := 17) (N := some 43) (v := ?_) (a' := ?_) #[true, true, true, true, true, true, true, true, true, true, true, true, true, true, true, true, true, true, false, false, false, false, false, false, false, false, false, false, false, false, false, false, false, false, false, false, false] rfl rfl (by kernel_rfl) (fun _ _ _ h => h) (Or.inl ⟨by rfl, ?_⟩) ?_ ?_
        rotate_left
        · intro w'
          go_simp
          with_reducible rfl
        rotate_left
        · simp only [Act.put, List.setIfInBounds_toArray, List.set_cons_zero, List.set_cons_succ, i64_w, i32_w]
          rfl
        refine take_ (i := 18) (N := some 44) (v := ?_) (a' := ?_) #[true, true, true, true, true, true, true, true, true, true, true, true, true, true, true, true, true, true, true, false, false, false, false, false, false, false, false, false, false, false, false, false, false, false, false, false, false] rfl rfl (by kernel_rfl) (fun _ _ _ h => h) (Or.inl ⟨by rfl, ?_⟩) hHeld ?_ ?_
        rotate_left
        · rintro w' ⟨s0, s1, s2, s3, s4, s5, s6, s7⟩
          go_simp
          with_reducible rfl
        rotate_left
        · simp only [Act.put, List.setIfInBounds_toArray, List.set_cons_zero, List.set_cons_succ, i64_w, i32_w]
          rfl
        refine take_ (i := 20) (N := some 46) (v := ?_) (a' := ?_) #[true, true, true, true, true, true, true, true, true, true, true, true, true, true, true, true, true, true, true, false, true, false, false, false, false, false, false, false, false, false, false, false, false, false, false, false, false] rfl rfl (by kernel_rfl) (fun _ _ _ h => h) (Or.inl ⟨by rfl, ?_⟩) hHeld ?_ ?_
        rotate_left
        · rintro w' ⟨s0, s1, s2, s3, s4, s5, s6, s7⟩
          go_simp
          with_reducible rfl
        rotate_left
        · simp only [Act.put, List.setIfInBounds_toArray, List.set_cons_zero, List.set_cons_succ, i64_w, i32_w]
          rfl
        refine one_ (i := 19) (N := some 45) #[true, true, true, true, true, true, true, true, true, true, true, true, true, true, true, true, true, true, true, true, true, false, false, false, false, false, false, false, false, false, false, false, false, false, false, false, false] rfl rfl (by kernel_rfl) (by decide) (fun K hK => ?_)
        refine goes_ Try.func15 (by kernel_rfl) rfl #[.agg #[.int .i64 n1, .slice A1 l1.length c1, .slice B1 s1.length d1]] (by rfl) rfl rfl (by simp only [List.map_toArray, List.map_cons, List.map_nil]; rfl) ?_
        with_reducible refine (trace_Check.calls k1 n1 A1 c1 l1 B1 d1 s1 _ _ (Kd.C_below HR1.out HB.out) HC1.out (Kd.C_below HS1.out HB.out) HD1.out HK1.out).mono ?_
        rintro e w33 ⟨rfl, hb33⟩
        refine ⟨_, rfl, ?_⟩
        have M5 := Aside0.mk (Mem.below M5.out hb33)
        have M6 := Aside0.mk (Mem.below M6.out hb33)
        have BA := Aside0.mk (blk_below BA.out hb33)
        have BB := Aside0.mk (blk_below BB.out hb33)
        have HB := Aside0.mk (below_step HB.out hb33)
        clear hb33
        refine hK.out _ _ ⟨(three BA.out).1, (three BA.out).2.1, (three BA.out).2.2, (three BB.out).1, (three BB.out).2.1, (three BB.out).2.2, (mem_loads13 M5.out HTL1.out), (mem_loads13 M6.out (by first | exact HTL1.out | exact HTL2.out))⟩ (fun hHeld => ?_)
        clear hK K
        refine norm_ (a' := ?_) ?_ ?_
        rotate_left
        · show Act.put _ (some 45) _ = _
          simp only [Act.put, List.setIfInBounds_toArray, List.set_cons_zero, List.set_cons_succ, i64_w, i32_w]
          rfl
        refine one_ (i := 21) (N := some 47) #[true, true, true, true, true, true, true, true, true, true, true, true, true, true, true, true, true, true, true, true, true, true, false, false, false, false, false, false, false, false, false, false, false, false, false, false, false] rfl rfl (by kernel_rfl) (by decide) (fun K hK => ?_)
        refine goes_ Try.func15 (by kernel_rfl) rfl #[.agg #[.int .i64 n2, .slice A2 l2.length c2, .slice B2 s2.length d2]] (by rfl) rfl rfl (by simp only [List.map_toArray, List.map_cons, List.map_nil]; rfl) ?_
        with_reducible refine (trace_Check.calls k2 n2 A2 c2 l2 B2 d2 s2 _ _ (Kd.C_below HR2.out HB.out) HC2.out (Kd.C_below HS2.out HB.out) HD2.out HK2.out).mono ?_
        rintro e w34 ⟨rfl, hb34⟩
        refine ⟨_, rfl, ?_⟩
        have M5 := Aside0.mk (Mem.below M5.out hb34)
        have M6 := Aside0.mk (Mem.below M6.out hb34)
        have BA := Aside0.mk (blk_below BA.out hb34)
        have BB := Aside0.mk (blk_below BB.out hb34)
        have HB := Aside0.mk (below_step HB.out hb34)
        clear hb34
        refine hK.out _ _ ⟨(three BA.out).1, (three BA.out).2.1, (three BA.out).2.2, (three BB.out).1, (three BB.out).2.1, (three BB.out).2.2, (mem_loads13 M5.out HTL1.out), (mem_loads13 M6.out (by first | exact HTL1.out | exact HTL2.out))⟩ (fun hHeld => ?_)
        clear hK K
        refine norm_ (a' := ?_) ?_ ?_
        rotate_left
        · show Act.put _ (some 47) _ = _
          simp only [Act.put, List.setIfInBounds_toArray, List.set_cons_zero, List.set_cons_succ, i64_w, i32_w]
          rfl
        refine pure_ (i := 22) (N := some 48) (v := ?_) (a' := ?_) #[true, true, true, true, true, true, true, true, true, true, true, true, true, true, true, true, true, true, true, true, true, true, true, false, false, false, false, false, false, false, false, false, false, false, false, false, false] rfl rfl (by kernel_rfl) (fun _ _ _ h => h) (Or.inl ⟨by rfl, ?_⟩) ?_ ?_
        rotate_left
        · intro w'
          go_simp
          with_reducible rfl
        rotate_left
        · simp only [Act.put, List.setIfInBounds_toArray, List.set_cons_zero, List.set_cons_succ, i64_w, i32_w]
          rfl
        refine pure_ (i := 23) (N := some 49) (v := ?_) (a' := ?_) #[true, true, true, true, true, true, true, true, true, true, true, true, true, true, true, true, true, true, true, true, true, true, true, true, false, false, false, false, false, false, false, false, false, false, false, false, false] rfl rfl (by kernel_rfl) (fun _ _ _ h => h) (Or.inl ⟨by rfl, ?_⟩) ?_ ?_
        rotate_left
        · intro w'
          go_simp
          with_reducible rfl
        rotate_left
        · simp only [Act.put, List.setIfInBounds_toArray, List.set_cons_zero, List.set_cons_succ, i64_w, i32_w]
          rfl
        refine pure_ (i := 24) (N := some 50) (v := ?_) (a' := ?_) #[true, true, true, true, true, true, true, true, true, true, true, true, true, true, true, true, true, true, true, true, true, true, true, true, true, false, false, false, false, false, false, false, false, false, false, false, false] rfl rfl (by kernel_rfl) (fun _ _ _ h => h) (Or.inl ⟨by rfl, ?_⟩) ?_ ?_
        rotate_left
        · intro w'
          go_simp
          with_reducible rfl
        rotate_left
        · simp only [Act.put, List.setIfInBounds_toArray, List.set_cons_zero, List.set_cons_succ, i64_w, i32_w]
          rfl
        refine pure_ (i := 25) (N := some 51) (v := ?_) (a' := ?_) #[true, true, true, true, true, true, true, true, true, true, true, true, true, true, true, true, true, true, true, true, true, true, true, true, true, true, false, false, false, false, false, false, false, false, false, false, false] rfl rfl (by kernel_rfl) (fun _ _ _ h => h) (Or.inl ⟨by rfl, ?_⟩) ?_ ?_
        rotate_left
        · intro w'
          go_simp
          with_reducible rfl
        rotate_left
        · simp only [Act.put, List.setIfInBounds_toArray, List.set_cons_zero, List.set_cons_succ, i64_w, i32_w]
          rfl
        refine pure_ (i := 26) (N := some 52) (v := ?_) (a' := ?_) #[true, true, true, true, true, true, true, true, true, true, true, true, true, true, true, true, true, true, true, true, true, true, true, true, true, true, true, false, false, false, false, false, false, false, false, false, false] rfl rfl (by kernel_rfl) (fun _ _ _ h => h) (Or.inl ⟨by rfl, ?_⟩) ?_ ?_
        rotate_left
        · intro w'
          go_simp
          with_reducible rfl
        rotate_left
        · simp only [Act.put, List.setIfInBounds_toArray, List.set_cons_zero, List.set_cons_succ, i64_w, i32_w]
          rfl
        refine pure_ (i := 27) (N := some 53) (v := ?_) (a' := ?_) #[true, true, true, true, true, true, true, true, true, true, true, true, true, true, true, true, true, true, true, true, true, true, true, true, true, true, true, true, false, false, false, false, false, false, false, false, false] rfl rfl (by kernel_rfl) (fun _ _ _ h => h) (Or.inl ⟨by rfl, ?_⟩) ?_ ?_
        rotate_left
        · intro w'
          go_simp
          with_reducible rfl
        rotate_left
        · simp only [Act.put, List.setIfInBounds_toArray, List.set_cons_zero, List.set_cons_succ, i64_w, i32_w]
          rfl
        refine pure_ (i := 28) (N := some 54) (v := ?_) (a' := ?_) #[true, true, true, true, true, true, true, true, true, true, true, true, true, true, true, true, true, true, true, true, true, true, true, true, true, true, true, true, true, false, false, false, false, false, false, false, false] rfl rfl (by kernel_rfl) (fun _ _ _ h => h) (Or.inl ⟨by rfl, ?_⟩) ?_ ?_
        rotate_left
        · intro w'
          go_simp
          with_reducible rfl
        rotate_left
        · simp only [Act.put, List.setIfInBounds_toArray, List.set_cons_zero, List.set_cons_succ, i64_w, i32_w]
          rfl
        refine take_ (i := 29) (N := some 55) (v := ?_) (a' := ?_) #[true, true, true, true, true, true, true, true, true, true, true, true, true, true, true, true, true, true, true, true, true, true, true, true, true, true, true, true, true, true, false, false, false, false, false, false, false] rfl rfl (by kernel_rfl) (fun _ _ _ h => h) (Or.inl ⟨by rfl, ?_⟩) hHeld ?_ ?_
        rotate_left
        · rintro w' ⟨s0, s1, s2, s3, s4, s5, s6, s7⟩
          go_simp
          with_reducible rfl
        rotate_left
        · simp only [Act.put, List.setIfInBounds_toArray, List.set_cons_zero, List.set_cons_succ, i64_w, i32_w]
          rfl
        refine pure_ (i := 30) (N := some 56) (v := ?_) (a' := ?_) #[true, true, true, true, true, true, true, true, true, true, true, true, true, true, true, true, true, true, true, true, true, true, true, true, true, true, true, true, true, true, true, false, false, false, false, false, false] rfl rfl (by kernel_rfl) (fun _ _ _ h => h) (Or.inl ⟨by rfl, ?_⟩) ?_ ?_
        rotate_left
        · intro w'
          go_simp
          with_reducible rfl
        rotate_left
        · simp only [Act.put, List.setIfInBounds_toArray, List.set_cons_zero, List.set_cons_succ, i64_w, i32_w]
          rfl
        refine pure_ (i := 31) (N := some 57) (v := ?_) (a' := ?_) #[true, true, true, true, true, true, true, true, true, true, true, true, true, true, true, true, true, true, true, true, true, true, true, true, true, true, true, true, true, true, true, true, false, false, false, false, false] rfl rfl (by kernel_rfl) (fun _ _ _ h => h) (Or.inl ⟨by rfl, ?_⟩) ?_ ?_
        rotate_left
        · intro w'
          go_simp
          with_reducible rfl
        rotate_left
        · simp only [Act.put, List.setIfInBounds_toArray, List.set_cons_zero, List.set_cons_succ, i64_w, i32_w]
          rfl
        refine pure_ (i := 32) (N := some 58) (v := ?_) (a' := ?_) #[true, true, true, true, true, true, true, true, true, true, true, true, true, true, true, true, true, true, true, true, true, true, true, true, true, true, true, true, true, true, true, true, true, false, false, false, false] rfl rfl (by kernel_rfl) (fun _ _ _ h => h) (Or.inl ⟨by rfl, ?_⟩) ?_ ?_
        rotate_left
        · intro w'
          go_simp
          with_reducible rfl
        rotate_left
        · simp only [Act.put, List.setIfInBounds_toArray, List.set_cons_zero, List.set_cons_succ, i64_w, i32_w]
          rfl
        refine pure_ (i := 33) (N := some 59) (v := ?_) (a' := ?_) #[true, true, true, true, true, true, true, true, true, true, true, true, true, true, true, true, true, true, true, true, true, true, true, true, true, true, true, true, true, true, true, true, true, true, false, false, false] rfl rfl (by kernel_rfl) (fun _ _ _ h => h) (Or.inl ⟨by rfl, ?_⟩) ?_ ?_
        rotate_left
        · intro w'
          go_simp
          with_reducible rfl
        rotate_left
        · simp only [Act.put, List.setIfInBounds_toArray, List.set_cons_zero, List.set_cons_succ, i64_w, i32_w]
          rfl
        refine one_ (i := 34) (N := some 60) #[true, true, true, true, true, true, true, true, true, true, true, true, true, true, true, true, true, true, true, true, true, true, true, true, true, true, true, true, true, true, true, true, true, true, true, false, false] rfl rfl (by kernel_rfl) (by decide) (fun K hK => ?_)
        refine goes_ Try.func22 (by kernel_rfl) rfl #[] (by rfl) rfl rfl (by first | rfl | (simp only [List.map_toArray, List.map_cons, List.map_nil]; done)) ?_
        with_reducible refine (visorlaw18_awake.calls k6 _ _ HK6.out).mono ?_
        rintro e w35 ⟨rfl, hb35⟩
        refine ⟨_, rfl, ?_⟩
        have M5 := Aside0.mk (Mem.below M5.out hb35)
        have M6 := Aside0.mk (Mem.below M6.out hb35)
        have BA := Aside0.mk (blk_below BA.out hb35)
        have BB := Aside0.mk (blk_below BB.out hb35)
        have HB := Aside0.mk (below_step HB.out hb35)
        clear hb35
        refine hK.out _ _ ⟨(three BA.out).1, (three BA.out).2.1, (three BA.out).2.2, (three BB.out).1, (three BB.out).2.1, (three BB.out).2.2, (mem_loads13 M5.out HTL1.out), (mem_loads13 M6.out (by first | exact HTL1.out | exact HTL2.out))⟩ (fun hHeld => ?_)
        clear hK K
        refine norm_ (a' := ?_) ?_ ?_
        rotate_left
        · show Act.put _ (some 60) _ = _
          simp only [Act.put, List.setIfInBounds_toArray, List.set_cons_zero, List.set_cons_succ, i64_w, i32_w]
          rfl
        refine pure_ (i := 35) (N := some 61) (v := ?_) (a' := ?_) #[true, true, true, true, true, true, true, true, true, true, true, true, true, true, true, true, true, true, true, true, true, true, true, true, true, true, true, true, true, true, true, true, true, true, true, true, false] rfl rfl (by kernel_rfl) (fun _ _ _ h => h) (Or.inl ⟨by rfl, ?_⟩) ?_ ?_
        rotate_left
        · intro w'
          go_simp
          with_reducible rfl
        rotate_left
        · simp only [Act.put, List.setIfInBounds_toArray, List.set_cons_zero, List.set_cons_succ, i64_w, i32_w]
          rfl
        refine pure_ (i := 36) (N := some 4) (v := ?_) (a' := ?_) #[true, true, true, true, true, true, true, true, true, true, true, true, true, true, true, true, true, true, true, true, true, true, true, true, true, true, true, true, true, true, true, true, true, true, true, true, true] rfl rfl (by kernel_rfl) (fun _ _ _ h => h) (Or.inl ⟨by rfl, ?_⟩) ?_ ?_
        rotate_left
        · intro w'
          go_simp
          with_reducible rfl
        rotate_left
        · simp only [Act.put, List.setIfInBounds_toArray, List.set_cons_zero, List.set_cons_succ, i64_w, i32_w]
          rfl
        refine done_ (by kernel_rfl) ?_
        go_wp2
        all_goals (go_ret; exact ⟨rfl, HB.out⟩)
      | false =>
        refine start_ (n := 37) (S := fun w' => w'.cell? ⟨w.heap.size, 0, none⟩ = some (.int .i64 n1) ∧ w'.cell? ⟨w.heap.size, 1, none⟩ = some (.slice A1 l1.length c1) ∧ w'.cell? ⟨w.heap.size, 2, none⟩ = some (.slice B1 s1.length d1) ∧ w'.cell? ⟨gB, 0, none⟩ = some (.int .i64 n2) ∧ w'.cell? ⟨gB, 1, none⟩ = some (.slice A2 l2.length c2) ∧ w'.cell? ⟨gB, 2, none⟩ = some (.slice B2 s2.length d2) ∧ (loadVar 28 ⟨g5, 0, none⟩).run Try.prog w' = .ok (.agg (cellsOf .i64 t1)) w' ∧ (loadVar 28 ⟨g6, 0, none⟩).run Try.prog w' = .ok (.agg (cellsOf .i64 t2)) w') (ds := []) #[false, false, false, false, false, false, false, false, false, false, false, false, false, false, false, false, false, false, false, false, false, false, false, false, false, false, false, false, false, false, false, false, false, false, false, false, false] (by kernel_rfl) rfl rfl ⟨(three BA.out).1, (three BA.out).2.1, (three BA.out).2.2, (three BB.out).1, (three BB.out).2.1, (three BB.out).2.2, (mem_loads13 M5.out HTL1.out), (mem_loads13 M6.out (by first | exact HTL1.out | exact HTL2.out))⟩ (fun hHeld => ?_)
        refine pure_ (i := 0) (N := some 26) (v := ?_) (a' := ?_) #[true, false, false, false, false, false, false, false, false, false, false, false, false, false, false, false, false, false, false, false, false, false, false, false, false, false, false, false, false, false, false, false, false, false, false, false, false] rfl rfl (by kernel_rfl) (fun _ _ _ h => h) (Or.inl ⟨by rfl, ?_⟩) ?_ ?_
        rotate_left
        · intro w'
          go_simp
          with_reducible rfl
        rotate_left
        · simp only [Act.put, List.setIfInBounds_toArray, List.set_cons_zero, List.set_cons_succ, i64_w, i32_w]
          rfl
        refine take_ (i := 1) (N := some 27) (v := ?_) (a' := ?_) #[true, true, false, false, false, false, false, false, false, false, false, false, false, false, false, false, false, false, false, false, false, false, false, false, false, false, false, false, false, false, false, false, false, false, false, false, false] rfl rfl (by kernel_rfl) (fun _ _ _ h => h) (Or.inl ⟨by rfl, ?_⟩) hHeld ?_ ?_
        rotate_left
        · rintro w' ⟨s0, s1, s2, s3, s4, s5, s6, s7⟩
          go_simp
          with_reducible rfl
        rotate_left
        · simp only [Act.put, List.setIfInBounds_toArray, List.set_cons_zero, List.set_cons_succ, i64_w, i32_w]
          rfl
        refine take_ (i := 2) (N := some 28) (v := ?_) (a' := ?_) #[true, true, true, false, false, false, false, false, false, false, false, false, false, false, false, false, false, false, false, false, false, false, false, false, false, false, false, false, false, false, false, false, false, false, false, false, false] rfl rfl (by kernel_rfl) (fun _ _ _ h => h) (Or.inl ⟨by rfl, ?_⟩) hHeld ?_ ?_
        rotate_left
        · rintro w' ⟨s0, s1, s2, s3, s4, s5, s6, s7⟩
          go_simp
          with_reducible rfl
        rotate_left
        · simp only [Act.put, List.setIfInBounds_toArray, List.set_cons_zero, List.set_cons_succ, i64_w, i32_w]
          rfl
        refine one_ (i := 3) (N := some 29) #[true, true, true, true, false, false, false, false, false, false, false, false, false, false, false, false, false, false, false, false, false, false, false, false, false, false, false, false, false, false, false, false, false, false, false, false, false] rfl rfl (by kernel_rfl) (by decide) (fun K hK => ?_)
        refine goes_ Try.func23 (by kernel_rfl) rfl #[.agg #[.int .i64 n2, .slice A2 l2.length c2, .slice B2 s2.length d2], .agg #[.int .i64 n1, .slice A1 l1.length c1, .slice B1 s1.length d1]] (by rfl) rfl rfl (by simp only [List.map_toArray, List.map_cons, List.map_nil]; rfl) ?_
        with_reducible refine (HS21.out _ (Kd.C_below HR2.out HB.out) (Kd.C_below HS2.out HB.out) (Kd.C_below HR1.out HB.out) (Kd.C_below HS1.out HB.out)).mono ?_
        rintro e w31 ⟨rfl, hb31⟩
        refine ⟨_, rfl, ?_⟩
        have M5 := Aside0.mk (Mem.below M5.out hb31)
        have M6 := Aside0.mk (Mem.below M6.out hb31)
        have BA := Aside0.mk (blk_below BA.out hb31)
        have BB := Aside0.mk (blk_below BB.out hb31)
        have HB := Aside0.mk (below_step HB.out hb31)
        clear hb31
        refine hK.out _ _ ⟨(three BA.out).1, (three BA.out).2.1, (three BA.out).2.2, (three BB.out).1, (three BB.out).2.1, (three BB.out).2.2, (mem_loads13 M5.out HTL1.out), (mem_loads13 M6.out (by first | exact HTL1.out | exact HTL2.out))⟩ (fun hHeld => ?_)
        clear hK K
        refine norm_ (a' := ?_) ?_ ?_
        rotate_left
        · show Act.put _ (some 29) _ = _
          simp only [Act.put, List.setIfInBounds_toArray, List.set_cons_zero, List.set_cons_succ, i64_w, i32_w]
          rfl
        refine pure_ (i := 4) (N := some 30) (v := ?_) (a' := ?_) #[true, true, true, true, true, false, false, false, false, false, false, false, false, false, false, false, false, false, false, false, false, false, false, false, false, false, false, false, false, false, false, false, false, false, false, false, false] rfl rfl (by kernel_rfl) (fun _ _ _ h => h) (Or.inl ⟨by rfl, ?_⟩) ?_ ?_
        rotate_left
        · intro w'
          go_simp
          with_reducible rfl
        rotate_left
        · simp only [Act.put, List.setIfInBounds_toArray, List.set_cons_zero, List.set_cons_succ, i64_w, i32_w]
          rfl
        refine pure_ (i := 5) (N := some 31) (v := ?_) (a' := ?_) #[true, true, true, true, true, true, false, false, false, false, false, false, false, false, false, false, false, false, false, false, false, false, false, false, false, false, false, false, false, false, false, false, false, false, false, false, false] rfl rfl (by kernel_rfl) (fun _ _ _ h => h) (Or.inl ⟨by rfl, ?_⟩) ?_ ?_
        rotate_left
        · intro w'
          go_simp
          with_reducible rfl
        rotate_left
        · simp only [Act.put, List.setIfInBounds_toArray, List.set_cons_zero, List.set_cons_succ, i64_w, i32_w]
          rfl
        refine take_ (i := 6) (N := some 32) (v := ?_) (a' := ?_) #[true, true, true, true, true, true, true, false, false, false, false, false, false, false, false, false, false, false, false, false, false, false, false, false, false, false, false, false, false, false, false, false, false, false, false, false, false] rfl rfl (by kernel_rfl) (fun _ _ _ h => h) (Or.inl ⟨by rfl, ?_⟩) hHeld ?_ ?_
        rotate_left
        · rintro w' ⟨s0, s1, s2, s3, s4, s5, s6, s7⟩
          go_simp
          with_reducible rfl
        rotate_left
        · simp only [Act.put, List.setIfInBounds_toArray, List.set_cons_zero, List.set_cons_succ, i64_w, i32_w]
          rfl
        refine take_ (i := 7) (N := some 33) (v := ?_) (a' := ?_) #[true, true, true, true, true, true, true, true, false, false, false, false, false, false, false, false, false, false, false, false, false, false, false, false, false, false, false, false, false, false, false, false, false, false, false, false, false] rfl rfl (by kernel_rfl) (fun _ _ _ h => h) (Or.inl ⟨by rfl, ?_⟩) hHeld ?_ ?_
        rotate_left
        · rintro w' ⟨s0, s1, s2, s3, s4, s5, s6, s7⟩
          go_simp
          with_reducible rfl
        rotate_left
        · simp only [Act.put, List.setIfInBounds_toArray, List.set_cons_zero, List.set_cons_succ, i64_w, i32_w]
          rfl
        refine one_ (i := 8) (N := some 34) #[true, true, true, true, true, true, true, true, true, false, false, false, false, false, false, false, false, false, false, false, false, false, false, false, false, false, false, false, false, false, false, false, false, false, false, false, false] rfl rfl (by kernel_rfl) (by decide) (fun K hK => ?_)
        refine goes_ Try.func23 (by kernel_rfl) rfl #[.agg #[.int .i64 n1, .slice A1 l1.length c1, .slice B1 s1.length d1], .agg #[.int .i64 n1, .slice A1 l1.length c1, .slice B1 s1.length d1]] (by rfl) rfl rfl (by simp only [List.map_toArray, List.map_cons, List.map_nil]; rfl) ?_
        with_reducible refine (HS11.out _ (Kd.C_below HR1.out HB.out) (Kd.C_below HS1.out HB.out) (Kd.C_below HR1.out HB.out) (Kd.C_below HS1.out HB.out)).mono ?_
        rintro e w32 ⟨rfl, hb32⟩
        refine ⟨_, rfl, ?_⟩
        have M5 := Aside0.mk (Mem.below M5.out hb32)
        have M6 := Aside0.mk (Mem.below M6.out hb32)
        have BA := Aside0.mk (blk_below BA.out hb32)
        have BB := Aside0.mk (blk_below BB.out hb32)
        have HB := Aside0.mk (below_step HB.out hb32)
        clear hb32
        refine hK.out _ _ ⟨(three BA.out).1, (three BA.out).2.1, (three BA.out).2.2, (three BB.out).1, (three BB.out).2.1, (three BB.out).2.2, (mem_loads13 M5.out HTL1.out), (mem_loads13 M6.out (by first | exact HTL1.out | exact HTL2.out))⟩ (fun hHeld => ?_)
        clear hK K
        refine norm_ (a' := ?_) ?_ ?_
        rotate_left
        · show Act.put _ (some 34) _ = _
          simp only [Act.put, List.setIfInBounds_toArray, List.set_cons_zero, List.set_cons_succ, i64_w, i32_w]
          rfl
        refine pure_ (i := 9) (N := some 35) (v := ?_) (a' := ?_) #[true, true, true, true, true, true, true, true, true, true, false, false, false, false, false, false, false, false, false, false, false, false, false, false, false, false, false, false, false, false, false, false, false, false, false, false, false] rfl rfl (by kernel_rfl) (fun _ _ _ h => h) (Or.inl ⟨by rfl, ?_⟩) ?_ ?_
        rotate_left
        · intro w'
          go_simp
          with_reducible rfl
        rotate_left
        · simp only [Act.put, List.setIfInBounds_toArray, List.set_cons_zero, List.set_cons_succ, i64_w, i32_w]
          rfl
        refine pure_ (i := 10) (N := some 36) (v := ?_) (a' := ?_) #[true, true, true, true, true, true, true, true, true, true, true, false, false, false, false, false, false, false, false, false, false, false, false, false, false, false, false, false, false, false, false, false, false, false, false, false, false] rfl rfl (by kernel_rfl) (fun _ _ _ h => h) (Or.inl ⟨by rfl, ?_⟩) ?_ ?_
        rotate_left
        · intro w'
          go_simp
          with_reducible rfl
        rotate_left
        · simp only [Act.put, List.setIfInBounds_toArray, List.set_cons_zero, List.set_cons_succ, i64_w, i32_w]
          rfl
        refine pure_ (i := 11) (N := some 37) (v := ?_) (a' := ?_) #[true, true, true, true, true, true, true, true, true, true, true, true, false, false, false, false, false, false, false, false, false, false, false, false, false, false, false, false, false, false, false, false, false, false, false, false, false] rfl rfl (by kernel_rfl) (fun _ _ _ h => h) (Or.inl ⟨by rfl, ?_⟩) ?_ ?_
        rotate_left
        · intro w'
          go_simp
          with_reducible rfl
        rotate_left
        · simp only [Act.put, List.setIfInBounds_toArray, List.set_cons_zero, List.set_cons_succ, i64_w, i32_w]
          rfl
        refine pure_ (i := 12) (N := some 38) (v := ?_) (a' := ?_) #[true, true, true, true, true, true, true, true, true, true, true, true, true, false, false, false, false, false, false, false, false, false, false, false, false, false, false, false, false, false, false, false, false, false, false, false, false] rfl rfl (by kernel_rfl) (fun _ _ _ h => h) (Or.inl ⟨by rfl, ?_⟩) ?_ ?_
        rotate_left
        · intro w'
          go_simp
          with_reducible rfl
        rotate_left
        · simp only [Act.put, List.setIfInBounds_toArray, List.set_cons_zero, List.set_cons_succ, i64_w, i32_w]
          rfl
        refine pure_ (i := 13) (N := some 39) (v := ?_) (a' := ?_) #[true, true, true, true, true, true, true, true, true, true, true, true, true, true, false, false, false, false, false, false, false, false, false, false, false, false, false, false, false, false, false, false, false, false, false, false, false] rfl rfl (by kernel_rfl) (fun _ _ _ h => h) (Or.inl ⟨by rfl, ?_⟩) ?_ ?_
        rotate_left
        · intro w'
          go_simp
          with_reducible rfl
        rotate_left
        · simp only [Act.put, List.setIfInBounds_toArray, List.set_cons_zero, List.set_cons_succ, i64_w, i32_w]
          rfl
        refine pure_ (i := 14) (N := some 40) (v := undef) (a' := ?_) #[true, true, true, true, true, true, true, true, true, true, true, true, true, true, true, false, false, false, false, false, false, false, false, false, false, false, false, false, false, false, false, false, false, false, false, false, false] rfl rfl (by kernel_rfl) (fun _ _ _ h => h) (Or.inr ⟨by rfl, rfl⟩) ?_ ?_
        rotate_left
        · simp only [Act.put, List.setIfInBounds_toArray, List.set_cons_zero, List.set_cons_succ, i64_w, i32_w]
          rfl
        refine pure_ (i := 15) (N := some 41) (v := undef) (a' := ?_) #[true, true, true, true, true, true, true, true, true, true, true, true, true, true, true, true, false, false, false, false, false, false, false, false, false, false, false, false, false, false, false, false, false, false, false, false, false] rfl rfl (by kernel_rfl) (fun _ _ _ h => h) (Or.inr ⟨by rfl, rfl⟩) ?_ ?_
        rotate_left
        · simp only [Act.put, List.setIfInBounds_toArray, List.set_cons_zero, List.set_cons_succ, i64_w, i32_w]
          rfl
        refine pure_ (i := 16) (N := some 42) (v := undef) (a' := ?_) #[true, true, true, true, true, true, true, true, true, true, true, true, true, true, true, true, true, false, false, false, false, false, false, false, false, false, false, false, false, false, false, false, false, false, false, false, false] rfl rfl (by kernel_rfl) (fun _ _ _ h => h) (Or.inr ⟨by rfl, rfl⟩) ?_ ?_
        rotate_left
        · simp only [Act.put, List.setIfInBounds_toArray, List.set_cons_zero, List.set_cons_succ, i64_w, i32_w]
          rfl
        refine pure_ (i := 17) (N := some 43) (v := undef) (a' := ?_) #[true, true, true, true, true, true, true, true, true, true, true, true, true, true, true, true, true, true, false, false, false, false, false, false, false, false, false, false, false, false, false, false, false, false, false, false, false] rfl rfl (by kernel_rfl) (fun _ _ _ h => h) (Or.inr ⟨by rfl, rfl⟩) ?_ ?_
        rotate_left
        · simp only [Act.put, List.setIfInBounds_toArray, List.set_cons_zero, List.set_cons_succ, i64_w, i32_w]
          rfl
        refine pure_ (i := 18) (N := some 44) (v := undef) (a' := ?_) #[true, true, true, true, true, true, true, true, true, true, true, true, true, true, true, true, true, true, true, false, false, false, false, false, false, false, false, false, false, false, false, false, false, false, false, false, false] rfl rfl (by kernel_rfl) (fun _ _ _ h => h) (Or.inr ⟨by rfl, rfl⟩) ?_ ?_
        rotate_left
        · simp only [Act.put, List.setIfInBounds_toArray, List.set_cons_zero, List.set_cons_succ, i64_w, i32_w]
          rfl
        refine pure_ (i := 19) (N := some 45) (v := undef) (a' := ?_) #[true, true, true, true, true, true, true, true, true, true, true, true, true, true, true, true, true, true, true, true, false, false, false, false, false, false, false, false, false, false, false, false, false, false, false, false, false] rfl rfl (by kernel_rfl) (fun _ _ _ h => h) (Or.inr ⟨by rfl, rfl⟩) ?_ ?_
        rotate_left
        · simp only [Act.put, List.setIfInBounds_toArray, List.set_cons_zero, List.set_cons_succ, i64_w, i32_w]
          rfl
        refine pure_ (i := 20) (N := some 46) (v := undef) (a' := ?_) #[true, true, true, true, true, true, true, true, true, true, true, true, true, true, true, true, true, true, true, true, true, false, false, false, false, false, false, false, false, false, false, false, false, false, false, false, false] rfl rfl (by kernel_rfl) (fun _ _ _ h => h) (Or.inr ⟨by rfl, rfl⟩) ?_ ?_
        rotate_left
        · simp only [Act.put, List.setIfInBounds_toArray, List.set_cons_zero, List.set_cons_succ, i64_w, i32_w]
          rfl
        refine pure_ (i := 21) (N := some 47) (v := undef) (a' := ?_) #[true, true, true, true, true, true, true, true, true, true, true, true, true, true, true, true, true, true, true, true, true, true, false, false, false, false, false, false, false, false, false, false, false, false, false, false, false] rfl rfl (by kernel_rfl) (fun _ _ _ h => h) (Or.inr ⟨by rfl, rfl⟩) ?_ ?_
        rotate_left
        · simp only [Act.put, List.setIfInBounds_toArray, List.set_cons_zero, List.set_cons_succ, i64_w, i32_w]
          rfl
        refine pure_ (i := 22) (N := some 48) (v := undef) (a' := ?_) #[true, true, true, true, true, true, true, true, true, true, true, true, true, true, true, true, true, true, true, true, true, true, true, false, false, false, false, false, false, false, false, false, false, false, false, false, false] rfl rfl (by kernel_rfl) (fun _ _ _ h => h) (Or.inr ⟨by rfl, rfl⟩) ?_ ?_
        rotate_left
        · simp only [Act.put, List.setIfInBounds_toArray, List.set_cons_zero, List.set_cons_succ, i64_w, i32_w]
          rfl
        refine pure_ (i := 23) (N := some 49) (v := undef) (a' := ?_) #[true, true, true, true, true, true, true, true, true, true, true, true, true, true, true, true, true, true, true, true, true, true, true, true, false, false, false, false, false, false, false, false, false, false, false, false, false] rfl rfl (by kernel_rfl) (fun _ _ _ h => h) (Or.inr ⟨by rfl, rfl⟩) ?_ ?_
        rotate_left
        · simp only [Act.put, List.setIfInBounds_toArray, List.set_cons_zero, List.set_cons_succ, i64_w, i32_w]
          rfl
        refine pure_ (i := 24) (N := some 50) (v := ?_) (a' := ?_) #[true, true, true, true, true, true, true, true, true, true, true, true, true, true, true, true, true, true, true, true, true, true, true, true, true, false, false, false, false, false, false, false, false, false, false, false, false] rfl rfl (by kernel_rfl) (fun _ _ _ h => h) (Or.inl ⟨by rfl, ?_⟩) ?_ ?_
        rotate_left
        · intro w'
          go_simp
          with_reducible rfl
        rotate_left
        · simp only [Act.put, List.setIfInBounds_toArray, List.set_cons_zero, List.set_cons_succ, i64_w, i32_w]
          rfl
        refine pure_ (i := 25) (N := some 51) (v := ?_) (a' := ?_) #[true, true, true, true, true, true, true, true, true, true, true, true, true, true, true, true, true, true, true, true, true, true, true, true, true, true, false, false, false, false, false, false, false, false, false, false, false] rfl rfl (by kernel_rfl) (fun _ _ _ h => h) (Or.inl ⟨by rfl, ?_⟩) ?_ ?_
        rotate_left
        · intro w'
          go_simp
          with_reducible rfl
        rotate_left
        · simp only [Act.put, List.setIfInBounds_toArray, List.set_cons_zero, List.set_cons_succ, i64_w, i32_w]
          rfl
        refine pure_ (i := 26) (N := some 52) (v := ?_) (a' := ?_) #[true, true, true, true, true, true, true, true, true, true, true, true, true, true, true, true, true, true, true, true, true, true, true, true, true, true, true, false, false, false, false, false, false, false, false, false, false] rfl rfl (by kernel_rfl) (fun _ _ _ h => h) (Or.inl ⟨by rfl, ?_⟩) ?_ ?_
        rotate_left
        · intro w'
          go_simp
          with_reducible rfl
        rotate_left
        · simp only [Act.put, List.setIfInBounds_toArray, List.set_cons_zero, List.set_cons_succ, i64_w, i32_w]
          rfl
        refine pure_ (i := 27) (N := some 53) (v := ?_) (a' := ?_) #[true, true, true, true, true, true, true, true, true, true, true, true, true, true, true, true, true, true, true, true, true, true, true, true, true, true, true, true, false, false, false, false, false, false, false, false, false] rfl rfl (by kernel_rfl) (fun _ _ _ h => h) (Or.inl ⟨by rfl, ?_⟩) ?_ ?_
        rotate_left
        · intro w'
          go_simp
          with_reducible rfl
        rotate_left
        · simp only [Act.put, List.setIfInBounds_toArray, List.set_cons_zero, List.set_cons_succ, i64_w, i32_w]
          rfl
        refine pure_ (i := 28) (N := some 54) (v := ?_) (a' := ?_) #[true, true, true, true, true, true, true, true, true, true, true, true, true, true, true, true, true, true, true, true, true, true, true, true, true, true, true, true, true, false, false, false, false, false, false, false, false] rfl rfl (by kernel_rfl) (fun _ _ _ h => h) (Or.inl ⟨by rfl, ?_⟩) ?_ ?_
        rotate_left
        · intro w'
          go_simp
          with_reducible rfl
        rotate_left
        · simp only [Act.put, List.setIfInBounds_toArray, List.set_cons_zero, List.set_cons_succ, i64_w, i32_w]
          rfl
        refine take_ (i := 29) (N := some 55) (v := ?_) (a' := ?_) #[true, true, true, true, true, true, true, true, true, true, true, true, true, true, true, true, true, true, true, true, true, true, true, true, true, true, true, true, true, true, false, false, false, false, false, false, false] rfl rfl (by kernel_rfl) (fun _ _ _ h => h) (Or.inl ⟨by rfl, ?_⟩) hHeld ?_ ?_
        rotate_left
        · rintro w' ⟨s0, s1, s2, s3, s4, s5, s6, s7⟩
          go_simp
          with_reducible rfl
        rotate_left
        · simp only [Act.put, List.setIfInBounds_toArray, List.set_cons_zero, List.set_cons_succ, i64_w, i32_w]
          rfl
        refine pure_ (i := 30) (N := some 56) (v := ?_) (a' := ?_) #[true, true, true, true, true, true, true, true, true, true, true, true, true, true, true, true, true, true, true, true, true, true, true, true, true, true, true, true, true, true, true, false, false, false, false, false, false] rfl rfl (by kernel_rfl) (fun _ _ _ h => h) (Or.inl ⟨by rfl, ?_⟩) ?_ ?_
        rotate_left
        · intro w'
          go_simp
          with_reducible rfl
        rotate_left
        · simp only [Act.put, List.setIfInBounds_toArray, List.set_cons_zero, List.set_cons_succ, i64_w, i32_w]
          rfl
        refine pure_ (i := 31) (N := some 57) (v := ?_) (a' := ?_) #[true, true, true, true, true, true, true, true, true, true, true, true, true, true, true, true, true, true, true, true, true, true, true, true, true, true, true, true, true, true, true, true, false, false, false, false, false] rfl rfl (by kernel_rfl) (fun _ _ _ h => h) (Or.inl ⟨by rfl, ?_⟩) ?_ ?_
        rotate_left
        · intro w'
          go_simp
          with_reducible rfl
        rotate_left
        · simp only [Act.put, List.setIfInBounds_toArray, List.set_cons_zero, List.set_cons_succ, i64_w, i32_w]
          rfl
        refine pure_ (i := 32) (N := some 58) (v := ?_) (a' := ?_) #[true, true, true, true, true, true, true, true, true, true, true, true, true, true, true, true, true, true, true, true, true, true, true, true, true, true, true, true, true, true, true, true, true, false, false, false, false] rfl rfl (by kernel_rfl) (fun _ _ _ h => h) (Or.inl ⟨by rfl, ?_⟩) ?_ ?_
        rotate_left
        · intro w'
          go_simp
          with_reducible rfl
        rotate_left
        · simp only [Act.put, List.setIfInBounds_toArray, List.set_cons_zero, List.set_cons_succ, i64_w, i32_w]
          rfl
        refine pure_ (i := 33) (N := some 59) (v := ?_) (a' := ?_) #[true, true, true, true, true, true, true, true, true, true, true, true, true, true, true, true, true, true, true, true, true, true, true, true, true, true, true, true, true, true, true, true, true, true, false, false, false] rfl rfl (by kernel_rfl) (fun _ _ _ h => h) (Or.inl ⟨by rfl, ?_⟩) ?_ ?_
        rotate_left
        · intro w'
          go_simp
          with_reducible rfl
        rotate_left
        · simp only [Act.put, List.setIfInBounds_toArray, List.set_cons_zero, List.set_cons_succ, i64_w, i32_w]
          rfl
        refine one_ (i := 34) (N := some 60) #[true, true, true, true, true, true, true, true, true, true, true, true, true, true, true, true, true, true, true, true, true, true, true, true, true, true, true, true, true, true, true, true, true, true, true, false, false] rfl rfl (by kernel_rfl) (by decide) (fun K hK => ?_)
        refine goes_ Try.func22 (by kernel_rfl) rfl #[] (by rfl) rfl rfl (by first | rfl | (simp only [List.map_toArray, List.map_cons, List.map_nil]; done)) ?_
        with_reducible refine (visorlaw18_awake.calls k6 _ _ HK6.out).mono ?_
        rintro e w35 ⟨rfl, hb35⟩
        refine ⟨_, rfl, ?_⟩
        have M5 := Aside0.mk (Mem.below M5.out hb35)
        have M6 := Aside0.mk (Mem.below M6.out hb35)
        have BA := Aside0.mk (blk_below BA.out hb35)
        have BB := Aside0.mk (blk_below BB.out hb35)
        have HB := Aside0.mk (below_step HB.out hb35)
        clear hb35
        refine hK.out _ _ ⟨(three BA.out).1, (three BA.out).2.1, (three BA.out).2.2, (three BB.out).1, (three BB.out).2.1, (three BB.out).2.2, (mem_loads13 M5.out HTL1.out), (mem_loads13 M6.out (by first | exact HTL1.out | exact HTL2.out))⟩ (fun hHeld => ?_)
        clear hK K
        refine norm_ (a' := ?_) ?_ ?_
        rotate_left
        · show Act.put _ (some 60) _ = _
          simp only [Act.put, List.setIfInBounds_toArray, List.set_cons_zero, List.set_cons_succ, i64_w, i32_w]
          rfl
        refine pure_ (i := 35) (N := some 61) (v := ?_) (a' := ?_) #[true, true, true, true, true, true, true, true, true, true, true, true, true, true, true, true, true, true, true, true, true, true, true, true, true, true, true, true, true, true, true, true, true, true, true, true, false] rfl rfl (by kernel_rfl) (fun _ _ _ h => h) (Or.inl ⟨by rfl, ?_⟩) ?_ ?_
        rotate_left
        · intro w'
          go_simp
          with_reducible rfl
        rotate_left
        · simp only [Act.put, List.setIfInBounds_toArray, List.set_cons_zero, List.set_cons_succ, i64_w, i32_w]
          rfl
        refine pure_ (i := 36) (N := some 4) (v := ?_) (a' := ?_) #[true, true, true, true, true, true, true, true, true, true, true, true, true, true, true, true, true, true, true, true, true, true, true, true, true, true, true, true, true, true, true, true, true, true, true, true, true] rfl rfl (by kernel_rfl) (fun _ _ _ h => h) (Or.inl ⟨by rfl, ?_⟩) ?_ ?_
        rotate_left
        · intro w'
          go_simp
          with_reducible rfl
        rotate_left
        · simp only [Act.put, List.setIfInBounds_toArray, List.set_cons_zero, List.set_cons_succ, i64_w, i32_w]
          rfl
        refine done_ (by kernel_rfl) ?_
        go_wp2
        go_ret
        exact ⟨rfl, HB.out⟩
end Go.Proofs.Ytphdlidaigalkaa.TraceC
