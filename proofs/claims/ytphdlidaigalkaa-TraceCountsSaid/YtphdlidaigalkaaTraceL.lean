/-
  How many masks are drawn, and words of keys; and the laws, walked. No condition.
-/
import Derived.Test.YtphdlidaigalkaaTrMath
import Derived.Test.YtphdlidaigalkaaArrEq
namespace Go.Proofs.Ytphdlidaigalkaa.TraceL
open Go.RowKit Go.Proofs.Ytphdlidaigalkaa.PTt Go.Proofs.YtphdlidaigalkaaW.PrintWords Go.Proofs.YtphdlidaigalkaaW.PrintLast Go.Proofs.YtphdlidaigalkaaW.PrintMore Gives Byte RightT Mem Arr TallyT SameT TrMath ArrEq
set_option linter.unusedVariables false
set_option linter.unusedSimpArgs false
theorem wpList_eql_row {P : Program} {ops : Array Oper} {rest : List Oper} {o : Oper} {a : Act} {w : World} {Q : Exit → Act → World → Prop} (hgd : o.guard = none) {op : BinOp} {ty z : TypeId} {x y : Operand} (ho : o.op = .binOp op ty x y z) {xs ys : Array Value} (hx : a.eval x = .agg xs) (hy : a.eval y = .agg ys) (hm : P.eqGuardType P.depth ty = false) {v : Value} (h : (binOp op ty (.agg xs) (.agg ys)).run P w = .ok v w)
    (hK : wpList P ops Q rest (a.put o.dst v) w) : wpList P ops Q (o :: rest) a w :=
  wpList_plain hgd fun _ hK' => by
    unfold Oper.wp execOp
    simp only [ho, hx, hy, Sem.run_bind, Sem.run_pure, Result.andThen_ok, run_eqGuard_agg _ _ _ _ _ _ _ hm, h]
    exact hK' _ _ hK
theorem guard13 : Try.prog.eqGuardType Try.prog.depth 28 = false := by kernel_rfl
theorem idx13 (c : List Int) (hc : c.length = 13) (i : Nat) (hi : i < 13) (w : World) : (Instr.index 28 (.agg (cellsOf .i64 c)) (.int .i64 (i : Int))).run Try.prog w = .ok (.int .i64 (c.getD i 0)) w :=
  Mem.run_index_arr Try.underlying28 Try.underlying3 (by kernel_rfl) hc i hi w
theorem eq13 (a b : List Int) (ha : a.length = 13) (hb : b.length = 13) (w : World) : (binOp .eql 28 (.agg (cellsOf .i64 a)) (.agg (cellsOf .i64 b))).run Try.prog w = .ok (.bool (decide (a = b))) w :=
  run_eql_arr Try.underlying28 Try.underlying3 (by kernel_rfl) a b ha hb w
theorem tally_len (l : List S53) : (tallyL l).length = 13 := tallyN_length l _
set_option maxHeartbeats 8000000 in
set_option maxRecDepth 100000 in
theorem draws_c (n : Int) (A : Option Addr) (c : Nat) (l : List S53) (B : Option Addr) (d : Nat) (s : List S38) (w : World) (hr : Kd.C k53 w A l.length l) (hc : l.length ≤ c) (hs : Kd.C k38 w B s.length s) (hd : s.length ≤ d) (hL : l.length ≤ 8796093022208) (hS : s.length ≤ 8796093022208) :
    Calls Try.prog 17 #[.agg #[.int .i64 n, .slice A l.length c, .slice B s.length d]] w fun e w' => e = .returned (.int .i64 ((tallyL l).getD 1 0)) ∧ Below w.heap.size w w' := by
  have hu1 := Try.underlying25
  have HR := Aside0.mk hr
  have HC := Aside0.mk hc
  clear hr hs
  have HB := Aside0.mk (Below.refl w.heap.size w)
  have hix : ∀ w0 : World, (Instr.index 28 (.agg (cellsOf .i64 (tallyL l))) (.int .i64 1)).run Try.prog w0 = .ok (.int .i64 ((tallyL l).getD 1 0)) w0 := fun w0 => idx13 (tallyL l) (tally_len l) 1 (by decide) w0
  have HT := Aside0.mk (fun w0 h => tally_c n A c l B d s w0 h hc (by omega))
  generalize tallyL l = t at *
  go_enter Try.func17, Try.ntmps17
  go_wp2_with (first
    | ((with_reducible refine gate_dst (N := 1) rfl ?_); refine box_event ?hg (N := 1) ?hd (cs := #[.int .i64 n, .slice A l.length c, .slice B s.length d]) (t := 25) ?hr ?_; (case hd => rfl); (case hg => rfl); (case hr => first | (go_simp; done) | (go_simp; rfl)); intro gb hg wb hbox hb; subst hg; have HB := Aside0.mk (below_step HB.out hb); have BK := Aside0.mk hbox; obtain ⟨hk0, hk1, hk2⟩ := three BK.out; clear hb hbox)
    | (go_at_call 16; (with_reducible refine (HT.out _ (Kd.C_below HR.out HB.out)).mono ?_); rintro e w' ⟨rfl, hb⟩; rw [arrV_eq]; have BK := Aside0.mk (blk_below BK.out hb); have HB := Aside0.mk (below_step HB.out hb); clear hk0 hk1 hk2; obtain ⟨hk0, hk1, hk2⟩ := three BK.out; clear hb))
  go_ret
  exact ⟨rfl, HB.out⟩
set_option maxHeartbeats 8000000 in
set_option maxRecDepth 100000 in
theorem words_c (n : Int) (A : Option Addr) (c : Nat) (l : List S53) (B : Option Addr) (d : Nat) (s : List S38) (w : World) (hr : Kd.C k53 w A l.length l) (hc : l.length ≤ c) (hs : Kd.C k38 w B s.length s) (hd : s.length ≤ d) (hL : l.length ≤ 8796093022208) (hS : s.length ≤ 8796093022208) :
    Calls Try.prog 18 #[.agg #[.int .i64 n, .slice A l.length c, .slice B s.length d]] w fun e w' => e = .returned (.int .i64 ((tallyL l).getD 2 0)) ∧ Below w.heap.size w w' := by
  have hu1 := Try.underlying25
  have HR := Aside0.mk hr
  have HC := Aside0.mk hc
  clear hr hs
  have HB := Aside0.mk (Below.refl w.heap.size w)
  have hix : ∀ w0 : World, (Instr.index 28 (.agg (cellsOf .i64 (tallyL l))) (.int .i64 2)).run Try.prog w0 = .ok (.int .i64 ((tallyL l).getD 2 0)) w0 := fun w0 => idx13 (tallyL l) (tally_len l) 2 (by decide) w0
  have HT := Aside0.mk (fun w0 h => tally_c n A c l B d s w0 h hc (by omega))
  generalize tallyL l = t at *
  go_enter Try.func18, Try.ntmps18
  go_wp2_with (first
    | ((with_reducible refine gate_dst (N := 1) rfl ?_); refine box_event ?hg (N := 1) ?hd (cs := #[.int .i64 n, .slice A l.length c, .slice B s.length d]) (t := 25) ?hr ?_; (case hd => rfl); (case hg => rfl); (case hr => first | (go_simp; done) | (go_simp; rfl)); intro gb hg wb hbox hb; subst hg; have HB := Aside0.mk (below_step HB.out hb); have BK := Aside0.mk hbox; obtain ⟨hk0, hk1, hk2⟩ := three BK.out; clear hb hbox)
    | (go_at_call 16; (with_reducible refine (HT.out _ (Kd.C_below HR.out HB.out)).mono ?_); rintro e w' ⟨rfl, hb⟩; rw [arrV_eq]; have BK := Aside0.mk (blk_below BK.out hb); have HB := Aside0.mk (below_step HB.out hb); clear hk0 hk1 hk2; obtain ⟨hk0, hk1, hk2⟩ := three BK.out; clear hb))
  go_ret
  exact ⟨rfl, HB.out⟩
theorem mem_loads13 {w : World} {g : Nat} {t : List Int} (h : Mem .i64 w g 28 t) (ht : t.length = 13) : (loadVar 28 ⟨g, 0, none⟩).run Try.prog w = .ok (.agg (cellsOf .i64 t)) w :=
  run_loadVar_row w g _ _ _ _ _ h Try.underlying28 rfl (by rw [cellsOf_size, ht]; exact info13)
theorem load_yields {o : Oper} {a : Act} {w' : World} {ty : TypeId} {x : Operand} {g : Nat} {v : Value} (ho : o.op = .load ty x) (hx : a.eval x = .pointer (some ⟨g, 0, none⟩)) (h : (loadVar ty ⟨g, 0, none⟩).run Try.prog w' = .ok v w') : (execOp a.eval o).run Try.prog w' = .ok (.value v) w' := by
  unfold execOp
  simp only [ho, hx, Instr.loadAt, Instr.sureAddr, Sem.run_bind, Sem.run_pure, Result.andThen_ok, h]
theorem eql_yields {o : Oper} {a : Act} {w' : World} {op : BinOp} {ty z : TypeId} {x y : Operand} {xs ys : Array Value} {v : Value} (ho : o.op = .binOp op ty x y z) (hx : a.eval x = .agg xs) (hy : a.eval y = .agg ys) (hm : Try.prog.eqGuardType Try.prog.depth ty = false) (h : (binOp op ty (.agg xs) (.agg ys)).run Try.prog w' = .ok v w') : (execOp a.eval o).run Try.prog w' = .ok (.value v) w' := by
  unfold execOp
  simp only [ho, hx, hy, Sem.run_bind, Sem.run_pure, Result.andThen_ok, run_eqGuard_agg _ _ _ _ _ _ _ hm, h]
set_option maxHeartbeats 8000000 in
set_option maxRecDepth 100000 in
theorem tells_c (n : Int) (A : Option Addr) (c : Nat) (l : List S53) (B : Option Addr) (d : Nat) (s : List S38) (w : World) (hr : Kd.C k53 w A l.length l) (hc : l.length ≤ c) (hs : Kd.C k38 w B s.length s) (hd : s.length ≤ d) (hL : l.length ≤ 8796093022208) (hS : s.length ≤ 8796093022208) :
    Calls Try.prog 3 #[.agg #[.int .i64 n, .slice A l.length c, .slice B s.length d]] w fun e w' => e = .returned (.bool true) ∧ Below w.heap.size w w' := by
  have hu1 := Try.underlying25
  have HR := Aside0.mk hr
  have HC := Aside0.mk hc
  have HS := Aside0.mk hs
  have HD := Aside0.mk hd
  clear hr hs
  have HB := Aside0.mk (Below.refl w.heap.size w)
  obtain ⟨k1, hk1⟩ := (right_ev n l s (by omega) (by omega)).rounds
  obtain ⟨k2, hk2⟩ := (check_ev n l s (by omega) (by omega)).rounds
  obtain ⟨k3, hk3⟩ := (opens_ev l hL l.length 0 [] (by omega) (by simp)).rounds
  obtain ⟨k4, hk4⟩ := (ropens_ev n l s hL l.length 0 [] (by omega) (by simp)).rounds
  obtain ⟨k5, hk5⟩ := (ints_ev (opensL l) (by have := opensF_length l l.length 0 []; simp at this; unfold opensL; omega)).rounds
  obtain ⟨k6, hk6⟩ := awake_ev.rounds
  have HK1 := Aside0.mk hk1
  have HK2 := Aside0.mk hk2
  have HK3 := Aside0.mk (show trace_Opens.f k3 n l s = some (opensL l) from hk3)
  have HK4 := Aside0.mk (show visorref18_Opens.f k4 n l s = some (opensL l) from hk4)
  have HK5 := Aside0.mk hk5
  have HK6 := Aside0.mk hk6
  have HT := Aside0.mk (fun w0 h => tally_c n A c l B d s w0 h hc (by omega))
  have HRT := Aside0.mk (fun w0 h => rtally_c n A c l B d s w0 h hc (by omega))
  have HDR := Aside0.mk (fun w0 h h2 => draws_c n A c l B d s w0 h hc h2 hd hL hS)
  have HWO := Aside0.mk (fun w0 h h2 => words_c n A c l B d s w0 h hc h2 hd hL hS)
  have HTL := Aside0.mk (tally_len l)
  have E13 := Aside0.mk (eq13 (tallyL l) (tallyL l) (tally_len l) (tally_len l))
  rw [show decide (tallyL l = tallyL l) = true from decide_eq_true rfl] at E13
  generalize tallyL l = t at *
  generalize opensL l = o at *
  clear hk1 hk2 hk3 hk4 hk5 hk6 hc hd hL hS
  generalize rightT n l s = rb at *
  cases rb
  all_goals
    simp only [if_true, if_false, Bool.false_eq_true] at HK2
    go_enter Try.func3, Try.ntmps3
    go_wp2_with (first
      | ((with_reducible refine gate_dst (N := 1) rfl ?_); refine box_event ?hg (N := 1) ?hd (cs := #[.int .i64 n, .slice A l.length c, .slice B s.length d]) (t := 25) ?hr ?_; (case hd => rfl); (case hg => rfl); (case hr => first | (go_simp; done) | (go_simp; rfl)); intro gb hg wb hbox hb; subst hg; have HB := Aside0.mk (below_step HB.out hb); have BK := Aside0.mk hbox; obtain ⟨hk0, hk1, hk2⟩ := three BK.out; clear hb hbox)
      | (go_at_call 13; (with_reducible refine (visorref18_Right.calls k1 n A c l B d s _ _ (Kd.C_below HR.out HB.out) HC.out (Kd.C_below HS.out HB.out) HD.out HK1.out).mono ?_); rintro e w' ⟨rfl, hb⟩; have BK := Aside0.mk (blk_below BK.out hb); have HB := Aside0.mk (below_step HB.out hb); clear hk0 hk1 hk2; obtain ⟨hk0, hk1, hk2⟩ := three BK.out; clear hb)
      | (go_at_call 14; (with_reducible refine (HRT.out _ (Kd.C_below HR.out HB.out)).mono ?_); rintro e w' ⟨rfl, hb⟩; clear HRT; rw [arrV_eq]; have BK := Aside0.mk (blk_below BK.out hb); have HB := Aside0.mk (below_step HB.out hb); clear hk0 hk1 hk2; obtain ⟨hk0, hk1, hk2⟩ := three BK.out; have M4 := Aside0.mk (show Mem .i64 (w'.alloc (.cells #[.int .i64 0, .int .i64 0, .int .i64 0, .int .i64 0, .int .i64 0, .int .i64 0, .int .i64 0, .int .i64 0, .int .i64 0, .int .i64 0, .int .i64 0, .int .i64 0, .int .i64 0] 28)) w'.heap.size 28 z13 from Mem.new .i64 w' 28 z13); have hN0 := blk_lt BK.out; have BK := Aside0.mk (blk_alloc BK.out (.cells #[.int .i64 0, .int .i64 0, .int .i64 0, .int .i64 0, .int .i64 0, .int .i64 0, .int .i64 0, .int .i64 0, .int .i64 0, .int .i64 0, .int .i64 0, .int .i64 0, .int .i64 0] 28)); have HN := Aside0.mk hN0; have HB := Aside0.mk (below_alloc HB.out (.cells #[.int .i64 0, .int .i64 0, .int .i64 0, .int .i64 0, .int .i64 0, .int .i64 0, .int .i64 0, .int .i64 0, .int .i64 0, .int .i64 0, .int .i64 0, .int .i64 0, .int .i64 0] 28)); clear hN0 hb hk0 hk1 hk2)
      | ((with_reducible refine gate_store (t := 28) (p := 4) rfl ?_); refine Mem.store (l' := t) M4.out rfl 28 (.tmp 4) (.tmp 9) rfl rfl rfl (by rw [HTL.out]; exact info13) (by rw [HTL.out]; rfl) ?_; have M4 := Aside0.mk (Mem.put M4.out t); have BK := Aside0.mk ((setRow_other _ _ _ (cellsOf .i64 t) (Nat.ne_of_lt HN.out)).trans BK.out); have HB := Aside0.mk (below_setRow HB.out (Nat.le_of_lt HN.out) (cellsOf .i64 t)); obtain ⟨hk0, hk1, hk2⟩ := three BK.out; have hm1 := M4.out.cell 1 (by rw [HTL.out]; decide); have hm2 := M4.out.cell 2 (by rw [HTL.out]; decide)))
    generalize ((w'.alloc (.cells #[.int .i64 0, .int .i64 0, .int .i64 0, .int .i64 0, .int .i64 0, .int .i64 0, .int .i64 0, .int .i64 0, .int .i64 0, .int .i64 0, .int .i64 0, .int .i64 0, .int .i64 0] 28)).setRow w'.heap.size (cellsOf .i64 t)) = W at *
    generalize w'.heap.size = g4 at *
    have BK := Aside0.mk (blk_drew BK.out)
    have M4 := Aside0.mk (Mem.drew M4.out)
    have HB := Aside0.mk (below_drew HB.out)
    clear hk0 hk1 hk2 hm1 hm2
    refine start_ (n := 35) (S := fun w' => w'.cell? ⟨w.heap.size, 0, none⟩ = some (.int .i64 n) ∧ w'.cell? ⟨w.heap.size, 1, none⟩ = some (.slice A l.length c) ∧ w'.cell? ⟨w.heap.size, 2, none⟩ = some (.slice B s.length d) ∧ w'.cell? ⟨g4, 1, none⟩ = some (.int .i64 (t.getD 1 0)) ∧ w'.cell? ⟨g4, 2, none⟩ = some (.int .i64 (t.getD 2 0)) ∧ (loadVar 28 ⟨g4, 0, none⟩).run Try.prog w' = .ok (.agg (cellsOf .i64 t)) w') (ds := []) #[false, false, false, false, false, false, false, false, false, false, false, false, false, false, false, false, false, false, false, false, false, false, false, false, false, false, false, false, false, false, false, false, false, false, false] (by kernel_rfl) rfl rfl ⟨(three BK.out).1, (three BK.out).2.1, (three BK.out).2.2, (M4.out.cell 1 (by rw [HTL.out]; decide)), (M4.out.cell 2 (by rw [HTL.out]; decide)), (mem_loads13 M4.out HTL.out)⟩ (fun hHeld => ?_)
    refine pure_ (i := 2) (N := some 12) (v := ?_) (a' := ?_) #[false, false, true, false, false, false, false, false, false, false, false, false, false, false, false, false, false, false, false, false, false, false, false, false, false, false, false, false, false, false, false, false, false, false, false] rfl rfl (by kernel_rfl) (fun _ _ _ h => h) (Or.inl ⟨by rfl, ?_⟩) ?_ ?_
    rotate_left
    · intro w'
      go_simp
      with_reducible rfl
    rotate_left
    · simp only [Act.put, List.setIfInBounds_toArray, List.set_cons_zero, List.set_cons_succ, i64_w, i32_w]
      rfl
    refine take_ (i := 0) (N := some 10) (v := ?_) (a' := ?_) #[true, false, true, false, false, false, false, false, false, false, false, false, false, false, false, false, false, false, false, false, false, false, false, false, false, false, false, false, false, false, false, false, false, false, false] rfl rfl (by kernel_rfl) (fun _ _ _ h => h) (Or.inl ⟨by rfl, ?_⟩) hHeld ?_ ?_
    rotate_left
    · rintro w' ⟨s0, s1, s2, s3, s4, s5⟩
      go_simp
      with_reducible rfl
    rotate_left
    · simp only [Act.put, List.setIfInBounds_toArray, List.set_cons_zero, List.set_cons_succ, i64_w, i32_w]
      rfl
    refine one_ (i := 1) (N := some 11) #[true, true, true, false, false, false, false, false, false, false, false, false, false, false, false, false, false, false, false, false, false, false, false, false, false, false, false, false, false, false, false, false, false, false, false] rfl rfl (by kernel_rfl) (by decide) (fun K hK => ?_)
    refine goes_ Try.func15 (by kernel_rfl) rfl #[.agg #[.int .i64 n, .slice A l.length c, .slice B s.length d]] (by rfl) rfl rfl (by simp only [List.map_toArray, List.map_cons, List.map_nil]; rfl) ?_
    with_reducible refine (trace_Check.calls k2 n A c l B d s _ _ (Kd.C_below HR.out HB.out) HC.out (Kd.C_below HS.out HB.out) HD.out HK2.out).mono ?_
    rintro e w11 ⟨rfl, hb11⟩
    refine ⟨_, rfl, ?_⟩
    have BK := Aside0.mk (blk_below BK.out hb11)
    have M4 := Aside0.mk (Mem.below M4.out hb11)
    have HB := Aside0.mk (below_step HB.out hb11)
    clear hb11
    refine hK.out _ _ ⟨(three BK.out).1, (three BK.out).2.1, (three BK.out).2.2, (M4.out.cell 1 (by rw [HTL.out]; decide)), (M4.out.cell 2 (by rw [HTL.out]; decide)), (mem_loads13 M4.out HTL.out)⟩ (fun hHeld => ?_)
    clear hK K
    refine norm_ (a' := ?_) ?_ ?_
    rotate_left
    · show Act.put _ (some 11) _ = _
      simp only [Act.put, List.setIfInBounds_toArray, List.set_cons_zero, List.set_cons_succ, i64_w, i32_w]
      rfl
    refine pure_ (i := 3) (N := some 13) (v := ?_) (a' := ?_) #[true, true, true, true, false, false, false, false, false, false, false, false, false, false, false, false, false, false, false, false, false, false, false, false, false, false, false, false, false, false, false, false, false, false, false] rfl rfl (by kernel_rfl) (fun _ _ _ h => h) (Or.inl ⟨by rfl, ?_⟩) ?_ ?_
    rotate_left
    · intro w'
      go_simp
      with_reducible rfl
    rotate_left
    · simp only [Act.put, List.setIfInBounds_toArray, List.set_cons_zero, List.set_cons_succ, i64_w, i32_w]
      rfl
    refine pure_ (i := 4) (N := some 14) (v := ?_) (a' := ?_) #[true, true, true, true, true, false, false, false, false, false, false, false, false, false, false, false, false, false, false, false, false, false, false, false, false, false, false, false, false, false, false, false, false, false, false] rfl rfl (by kernel_rfl) (fun _ _ _ h => h) (Or.inl ⟨by rfl, ?_⟩) ?_ ?_
    rotate_left
    · intro w'
      go_simp
      with_reducible rfl
    rotate_left
    · simp only [Act.put, List.setIfInBounds_toArray, List.set_cons_zero, List.set_cons_succ, i64_w, i32_w]
      rfl
    refine take_ (i := 5) (N := some 15) (v := ?_) (a' := ?_) #[true, true, true, true, true, true, false, false, false, false, false, false, false, false, false, false, false, false, false, false, false, false, false, false, false, false, false, false, false, false, false, false, false, false, false] rfl rfl (by kernel_rfl) (fun _ _ _ h => h) (Or.inl ⟨by rfl, ?_⟩) hHeld ?_ ?_
    rotate_left
    · rintro w' ⟨s0, s1, s2, s3, s4, s5⟩
      go_simp
      with_reducible rfl
    rotate_left
    · simp only [Act.put, List.setIfInBounds_toArray, List.set_cons_zero, List.set_cons_succ, i64_w, i32_w]
      rfl
    refine take_ (i := 7) (N := some 17) (v := ?_) (a' := ?_) #[true, true, true, true, true, true, false, true, false, false, false, false, false, false, false, false, false, false, false, false, false, false, false, false, false, false, false, false, false, false, false, false, false, false, false] rfl rfl (by kernel_rfl) (fun _ _ _ h => h) (Or.inl ⟨by rfl, ?_⟩) hHeld ?_ ?_
    rotate_left
    · rintro w' ⟨s0, s1, s2, s3, s4, s5⟩
      refine (load_yields rfl rfl s5).trans ?_
      with_reducible rfl
    rotate_left
    · simp only [Act.put, List.setIfInBounds_toArray, List.set_cons_zero, List.set_cons_succ, i64_w, i32_w]
      rfl
    refine one_ (i := 6) (N := some 16) #[true, true, true, true, true, true, true, true, false, false, false, false, false, false, false, false, false, false, false, false, false, false, false, false, false, false, false, false, false, false, false, false, false, false, false] rfl rfl (by kernel_rfl) (by decide) (fun K hK => ?_)
    refine goes_ Try.func16 (by kernel_rfl) rfl #[.agg #[.int .i64 n, .slice A l.length c, .slice B s.length d]] (by rfl) rfl rfl (by simp only [List.map_toArray, List.map_cons, List.map_nil]; rfl) ?_
    with_reducible refine (HT.out _ (Kd.C_below HR.out HB.out)).mono ?_
    rintro e w12 ⟨rfl, hb12⟩
    refine ⟨_, rfl, ?_⟩
    have BK := Aside0.mk (blk_below BK.out hb12)
    have M4 := Aside0.mk (Mem.below M4.out hb12)
    have HB := Aside0.mk (below_step HB.out hb12)
    clear hb12
    refine hK.out _ _ ⟨(three BK.out).1, (three BK.out).2.1, (three BK.out).2.2, (M4.out.cell 1 (by rw [HTL.out]; decide)), (M4.out.cell 2 (by rw [HTL.out]; decide)), (mem_loads13 M4.out HTL.out)⟩ (fun hHeld => ?_)
    clear hK K
    refine norm_ (a' := ?_) ?_ ?_
    rotate_left
    · show Act.put _ (some 16) _ = _
      simp only [Act.put, List.setIfInBounds_toArray, List.set_cons_zero, List.set_cons_succ, i64_w, i32_w]
      rfl
    refine pure_ (i := 8) (N := some 18) (v := ?_) (a' := ?_) #[true, true, true, true, true, true, true, true, true, false, false, false, false, false, false, false, false, false, false, false, false, false, false, false, false, false, false, false, false, false, false, false, false, false, false] rfl rfl (by kernel_rfl) (fun _ _ _ h => h) (Or.inl ⟨by rfl, ?_⟩) ?_ ?_
    rotate_left
    · intro w'
      refine (eql_yields rfl rfl rfl guard13 (E13.out w')).trans ?_
      with_reducible rfl
    rotate_left
    · simp only [Act.put, List.setIfInBounds_toArray, List.set_cons_zero, List.set_cons_succ, i64_w, i32_w]
      rfl
    refine pure_ (i := 9) (N := some 19) (v := ?_) (a' := ?_) #[true, true, true, true, true, true, true, true, true, true, false, false, false, false, false, false, false, false, false, false, false, false, false, false, false, false, false, false, false, false, false, false, false, false, false] rfl rfl (by kernel_rfl) (fun _ _ _ h => h) (Or.inl ⟨by rfl, ?_⟩) ?_ ?_
    rotate_left
    · intro w'
      go_simp
      with_reducible rfl
    rotate_left
    · simp only [Act.put, List.setIfInBounds_toArray, List.set_cons_zero, List.set_cons_succ, i64_w, i32_w]
      rfl
    refine pure_ (i := 10) (N := some 20) (v := ?_) (a' := ?_) #[true, true, true, true, true, true, true, true, true, true, true, false, false, false, false, false, false, false, false, false, false, false, false, false, false, false, false, false, false, false, false, false, false, false, false] rfl rfl (by kernel_rfl) (fun _ _ _ h => h) (Or.inl ⟨by rfl, ?_⟩) ?_ ?_
    rotate_left
    · intro w'
      go_simp
      with_reducible rfl
    rotate_left
    · simp only [Act.put, List.setIfInBounds_toArray, List.set_cons_zero, List.set_cons_succ, i64_w, i32_w]
      rfl
    refine pure_ (i := 13) (N := some 23) (v := ?_) (a' := ?_) #[true, true, true, true, true, true, true, true, true, true, true, false, false, true, false, false, false, false, false, false, false, false, false, false, false, false, false, false, false, false, false, false, false, false, false] rfl rfl (by kernel_rfl) (fun _ _ _ h => h) (Or.inl ⟨by rfl, ?_⟩) ?_ ?_
    rotate_left
    · intro w'
      go_simp
      with_reducible rfl
    rotate_left
    · simp only [Act.put, List.setIfInBounds_toArray, List.set_cons_zero, List.set_cons_succ, i64_w, i32_w]
      rfl
    refine take_ (i := 11) (N := some 21) (v := ?_) (a' := ?_) #[true, true, true, true, true, true, true, true, true, true, true, true, false, true, false, false, false, false, false, false, false, false, false, false, false, false, false, false, false, false, false, false, false, false, false] rfl rfl (by kernel_rfl) (fun _ _ _ h => h) (Or.inl ⟨by rfl, ?_⟩) hHeld ?_ ?_
    rotate_left
    · rintro w' ⟨s0, s1, s2, s3, s4, s5⟩
      go_simp
      with_reducible rfl
    rotate_left
    · simp only [Act.put, List.setIfInBounds_toArray, List.set_cons_zero, List.set_cons_succ, i64_w, i32_w]
      rfl
    refine take_ (i := 14) (N := some 24) (v := ?_) (a' := ?_) #[true, true, true, true, true, true, true, true, true, true, true, true, false, true, true, false, false, false, false, false, false, false, false, false, false, false, false, false, false, false, false, false, false, false, false] rfl rfl (by kernel_rfl) (fun _ _ _ h => h) (Or.inl ⟨by rfl, ?_⟩) hHeld ?_ ?_
    rotate_left
    · rintro w' ⟨s0, s1, s2, s3, s4, s5⟩
      go_simp
      with_reducible rfl
    rotate_left
    · simp only [Act.put, List.setIfInBounds_toArray, List.set_cons_zero, List.set_cons_succ, i64_w, i32_w]
      rfl
    refine one_ (i := 12) (N := some 22) #[true, true, true, true, true, true, true, true, true, true, true, true, true, true, true, false, false, false, false, false, false, false, false, false, false, false, false, false, false, false, false, false, false, false, false] rfl rfl (by kernel_rfl) (by decide) (fun K hK => ?_)
    refine goes_ Try.func17 (by kernel_rfl) rfl #[.agg #[.int .i64 n, .slice A l.length c, .slice B s.length d]] (by rfl) rfl rfl (by simp only [List.map_toArray, List.map_cons, List.map_nil]; rfl) ?_
    with_reducible refine (HDR.out _ (Kd.C_below HR.out HB.out) (Kd.C_below HS.out HB.out)).mono ?_
    rintro e w13 ⟨rfl, hb13⟩
    refine ⟨_, rfl, ?_⟩
    have BK := Aside0.mk (blk_below BK.out hb13)
    have M4 := Aside0.mk (Mem.below M4.out hb13)
    have HB := Aside0.mk (below_step HB.out hb13)
    clear hb13
    refine hK.out _ _ ⟨(three BK.out).1, (three BK.out).2.1, (three BK.out).2.2, (M4.out.cell 1 (by rw [HTL.out]; decide)), (M4.out.cell 2 (by rw [HTL.out]; decide)), (mem_loads13 M4.out HTL.out)⟩ (fun hHeld => ?_)
    clear hK K
    refine norm_ (a' := ?_) ?_ ?_
    rotate_left
    · show Act.put _ (some 22) _ = _
      simp only [Act.put, List.setIfInBounds_toArray, List.set_cons_zero, List.set_cons_succ, i64_w, i32_w]
      rfl
    refine pure_ (i := 15) (N := some 25) (v := ?_) (a' := ?_) #[true, true, true, true, true, true, true, true, true, true, true, true, true, true, true, true, false, false, false, false, false, false, false, false, false, false, false, false, false, false, false, false, false, false, false] rfl rfl (by kernel_rfl) (fun _ _ _ h => h) (Or.inl ⟨by rfl, ?_⟩) ?_ ?_
    rotate_left
    · intro w'
      go_simp
      with_reducible rfl
    rotate_left
    · simp only [Act.put, List.setIfInBounds_toArray, List.set_cons_zero, List.set_cons_succ, i64_w, i32_w]
      rfl
    refine pure_ (i := 16) (N := some 26) (v := ?_) (a' := ?_) #[true, true, true, true, true, true, true, true, true, true, true, true, true, true, true, true, true, false, false, false, false, false, false, false, false, false, false, false, false, false, false, false, false, false, false] rfl rfl (by kernel_rfl) (fun _ _ _ h => h) (Or.inl ⟨by rfl, ?_⟩) ?_ ?_
    rotate_left
    · intro w'
      go_simp
      with_reducible rfl
    rotate_left
    · simp only [Act.put, List.setIfInBounds_toArray, List.set_cons_zero, List.set_cons_succ, i64_w, i32_w]
      rfl
    refine pure_ (i := 17) (N := some 27) (v := ?_) (a' := ?_) #[true, true, true, true, true, true, true, true, true, true, true, true, true, true, true, true, true, true, false, false, false, false, false, false, false, false, false, false, false, false, false, false, false, false, false] rfl rfl (by kernel_rfl) (fun _ _ _ h => h) (Or.inl ⟨by rfl, ?_⟩) ?_ ?_
    rotate_left
    · intro w'
      go_simp
      with_reducible rfl
    rotate_left
    · simp only [Act.put, List.setIfInBounds_toArray, List.set_cons_zero, List.set_cons_succ, i64_w, i32_w]
      rfl
    refine pure_ (i := 20) (N := some 30) (v := ?_) (a' := ?_) #[true, true, true, true, true, true, true, true, true, true, true, true, true, true, true, true, true, true, false, false, true, false, false, false, false, false, false, false, false, false, false, false, false, false, false] rfl rfl (by kernel_rfl) (fun _ _ _ h => h) (Or.inl ⟨by rfl, ?_⟩) ?_ ?_
    rotate_left
    · intro w'
      go_simp
      with_reducible rfl
    rotate_left
    · simp only [Act.put, List.setIfInBounds_toArray, List.set_cons_zero, List.set_cons_succ, i64_w, i32_w]
      rfl
    refine take_ (i := 18) (N := some 28) (v := ?_) (a' := ?_) #[true, true, true, true, true, true, true, true, true, true, true, true, true, true, true, true, true, true, true, false, true, false, false, false, false, false, false, false, false, false, false, false, false, false, false] rfl rfl (by kernel_rfl) (fun _ _ _ h => h) (Or.inl ⟨by rfl, ?_⟩) hHeld ?_ ?_
    rotate_left
    · rintro w' ⟨s0, s1, s2, s3, s4, s5⟩
      go_simp
      with_reducible rfl
    rotate_left
    · simp only [Act.put, List.setIfInBounds_toArray, List.set_cons_zero, List.set_cons_succ, i64_w, i32_w]
      rfl
    refine take_ (i := 21) (N := some 31) (v := ?_) (a' := ?_) #[true, true, true, true, true, true, true, true, true, true, true, true, true, true, true, true, true, true, true, false, true, true, false, false, false, false, false, false, false, false, false, false, false, false, false] rfl rfl (by kernel_rfl) (fun _ _ _ h => h) (Or.inl ⟨by rfl, ?_⟩) hHeld ?_ ?_
    rotate_left
    · rintro w' ⟨s0, s1, s2, s3, s4, s5⟩
      go_simp
      with_reducible rfl
    rotate_left
    · simp only [Act.put, List.setIfInBounds_toArray, List.set_cons_zero, List.set_cons_succ, i64_w, i32_w]
      rfl
    refine one_ (i := 19) (N := some 29) #[true, true, true, true, true, true, true, true, true, true, true, true, true, true, true, true, true, true, true, true, true, true, false, false, false, false, false, false, false, false, false, false, false, false, false] rfl rfl (by kernel_rfl) (by decide) (fun K hK => ?_)
    refine goes_ Try.func18 (by kernel_rfl) rfl #[.agg #[.int .i64 n, .slice A l.length c, .slice B s.length d]] (by rfl) rfl rfl (by simp only [List.map_toArray, List.map_cons, List.map_nil]; rfl) ?_
    with_reducible refine (HWO.out _ (Kd.C_below HR.out HB.out) (Kd.C_below HS.out HB.out)).mono ?_
    rintro e w14 ⟨rfl, hb14⟩
    refine ⟨_, rfl, ?_⟩
    have BK := Aside0.mk (blk_below BK.out hb14)
    have M4 := Aside0.mk (Mem.below M4.out hb14)
    have HB := Aside0.mk (below_step HB.out hb14)
    clear hb14
    refine hK.out _ _ ⟨(three BK.out).1, (three BK.out).2.1, (three BK.out).2.2, (M4.out.cell 1 (by rw [HTL.out]; decide)), (M4.out.cell 2 (by rw [HTL.out]; decide)), (mem_loads13 M4.out HTL.out)⟩ (fun hHeld => ?_)
    clear hK K
    refine norm_ (a' := ?_) ?_ ?_
    rotate_left
    · show Act.put _ (some 29) _ = _
      simp only [Act.put, List.setIfInBounds_toArray, List.set_cons_zero, List.set_cons_succ, i64_w, i32_w]
      rfl
    refine pure_ (i := 22) (N := some 32) (v := ?_) (a' := ?_) #[true, true, true, true, true, true, true, true, true, true, true, true, true, true, true, true, true, true, true, true, true, true, true, false, false, false, false, false, false, false, false, false, false, false, false] rfl rfl (by kernel_rfl) (fun _ _ _ h => h) (Or.inl ⟨by rfl, ?_⟩) ?_ ?_
    rotate_left
    · intro w'
      go_simp
      with_reducible rfl
    rotate_left
    · simp only [Act.put, List.setIfInBounds_toArray, List.set_cons_zero, List.set_cons_succ, i64_w, i32_w]
      rfl
    refine pure_ (i := 23) (N := some 33) (v := ?_) (a' := ?_) #[true, true, true, true, true, true, true, true, true, true, true, true, true, true, true, true, true, true, true, true, true, true, true, true, false, false, false, false, false, false, false, false, false, false, false] rfl rfl (by kernel_rfl) (fun _ _ _ h => h) (Or.inl ⟨by rfl, ?_⟩) ?_ ?_
    rotate_left
    · intro w'
      go_simp
      with_reducible rfl
    rotate_left
    · simp only [Act.put, List.setIfInBounds_toArray, List.set_cons_zero, List.set_cons_succ, i64_w, i32_w]
      rfl
    refine pure_ (i := 24) (N := some 34) (v := ?_) (a' := ?_) #[true, true, true, true, true, true, true, true, true, true, true, true, true, true, true, true, true, true, true, true, true, true, true, true, true, false, false, false, false, false, false, false, false, false, false] rfl rfl (by kernel_rfl) (fun _ _ _ h => h) (Or.inl ⟨by rfl, ?_⟩) ?_ ?_
    rotate_left
    · intro w'
      go_simp
      with_reducible rfl
    rotate_left
    · simp only [Act.put, List.setIfInBounds_toArray, List.set_cons_zero, List.set_cons_succ, i64_w, i32_w]
      rfl
    refine take_ (i := 25) (N := some 35) (v := ?_) (a' := ?_) #[true, true, true, true, true, true, true, true, true, true, true, true, true, true, true, true, true, true, true, true, true, true, true, true, true, true, false, false, false, false, false, false, false, false, false] rfl rfl (by kernel_rfl) (fun _ _ _ h => h) (Or.inl ⟨by rfl, ?_⟩) hHeld ?_ ?_
    rotate_left
    · rintro w' ⟨s0, s1, s2, s3, s4, s5⟩
      go_simp
      with_reducible rfl
    rotate_left
    · simp only [Act.put, List.setIfInBounds_toArray, List.set_cons_zero, List.set_cons_succ, i64_w, i32_w]
      rfl
    refine take_ (i := 27) (N := some 37) (v := ?_) (a' := ?_) #[true, true, true, true, true, true, true, true, true, true, true, true, true, true, true, true, true, true, true, true, true, true, true, true, true, true, false, true, false, false, false, false, false, false, false] rfl rfl (by kernel_rfl) (fun _ _ _ h => h) (Or.inl ⟨by rfl, ?_⟩) hHeld ?_ ?_
    rotate_left
    · rintro w' ⟨s0, s1, s2, s3, s4, s5⟩
      go_simp
      with_reducible rfl
    rotate_left
    · simp only [Act.put, List.setIfInBounds_toArray, List.set_cons_zero, List.set_cons_succ, i64_w, i32_w]
      rfl
    refine one_ (i := 26) (N := some 36) #[true, true, true, true, true, true, true, true, true, true, true, true, true, true, true, true, true, true, true, true, true, true, true, true, true, true, true, true, false, false, false, false, false, false, false] rfl rfl (by kernel_rfl) (by decide) (fun K hK => ?_)
    refine goes_ Try.func20 (by kernel_rfl) rfl #[.agg #[.int .i64 n, .slice A l.length c, .slice B s.length d]] (by rfl) rfl rfl (by simp only [List.map_toArray, List.map_cons, List.map_nil]; rfl) ?_
    with_reducible refine (trace_Opens.calls k3 n A c l B d s _ _ (Kd.C_below HR.out HB.out) HC.out (Kd.C_below HS.out HB.out) HD.out HK3.out).mono ?_
    rintro e w15 ⟨vo, rfl, ho, hb15⟩
    refine ⟨_, rfl, ?_⟩
    have BK := Aside0.mk (blk_below BK.out hb15)
    have M4 := Aside0.mk (Mem.below M4.out hb15)
    obtain ⟨Ao, co, rfl, hco, hCo⟩ := Kd.R_reads ho
    have HO := Aside0.mk hCo
    have HOc := Aside0.mk hco
    clear ho hCo hco
    have HB := Aside0.mk (below_step HB.out hb15)
    clear hb15
    refine hK.out _ _ ⟨(three BK.out).1, (three BK.out).2.1, (three BK.out).2.2, (M4.out.cell 1 (by rw [HTL.out]; decide)), (M4.out.cell 2 (by rw [HTL.out]; decide)), (mem_loads13 M4.out HTL.out)⟩ (fun hHeld => ?_)
    clear hK K
    refine norm_ (a' := ?_) ?_ ?_
    rotate_left
    · show Act.put _ (some 36) _ = _
      simp only [Act.put, List.setIfInBounds_toArray, List.set_cons_zero, List.set_cons_succ, i64_w, i32_w]
      rfl
    refine one_ (i := 28) (N := some 38) #[true, true, true, true, true, true, true, true, true, true, true, true, true, true, true, true, true, true, true, true, true, true, true, true, true, true, true, true, true, false, false, false, false, false, false] rfl rfl (by kernel_rfl) (by decide) (fun K hK => ?_)
    refine goes_ Try.func21 (by kernel_rfl) rfl #[.agg #[.int .i64 n, .slice A l.length c, .slice B s.length d]] (by rfl) rfl rfl (by simp only [List.map_toArray, List.map_cons, List.map_nil]; rfl) ?_
    with_reducible refine (visorref18_Opens.calls k4 n A c l B d s _ _ (Kd.C_below HR.out HB.out) HC.out (Kd.C_below HS.out HB.out) HD.out HK4.out).mono ?_
    rintro e w16 ⟨vo, rfl, ho, hb16⟩
    refine ⟨_, rfl, ?_⟩
    have BK := Aside0.mk (blk_below BK.out hb16)
    have M4 := Aside0.mk (Mem.below M4.out hb16)
    have HO := Aside0.mk (Kd.C_below HO.out hb16)
    obtain ⟨Ap, cp, rfl, hco, hCo⟩ := Kd.R_reads ho
    have HO2 := Aside0.mk hCo
    have HO2c := Aside0.mk hco
    clear ho hCo hco
    have HB := Aside0.mk (below_step HB.out hb16)
    clear hb16
    refine hK.out _ _ ⟨(three BK.out).1, (three BK.out).2.1, (three BK.out).2.2, (M4.out.cell 1 (by rw [HTL.out]; decide)), (M4.out.cell 2 (by rw [HTL.out]; decide)), (mem_loads13 M4.out HTL.out)⟩ (fun hHeld => ?_)
    clear hK K
    refine norm_ (a' := ?_) ?_ ?_
    rotate_left
    · show Act.put _ (some 38) _ = _
      simp only [Act.put, List.setIfInBounds_toArray, List.set_cons_zero, List.set_cons_succ, i64_w, i32_w]
      rfl
    refine one_ (i := 29) (N := some 39) #[true, true, true, true, true, true, true, true, true, true, true, true, true, true, true, true, true, true, true, true, true, true, true, true, true, true, true, true, true, true, false, false, false, false, false] rfl rfl (by kernel_rfl) (by decide) (fun K hK => ?_)
    refine goes_ Try.func19 (by kernel_rfl) rfl #[.slice Ao o.length co, .slice Ap o.length cp] (by rfl) rfl rfl (by simp only [List.map_toArray, List.map_cons, List.map_nil]; rfl) ?_
    with_reducible refine (visorref18_Ints.calls k5 Ao co o Ap cp o _ _ HO.out HOc.out HO2.out HO2c.out HK5.out).mono ?_
    rintro e w17 ⟨rfl, ⟨⟨n17, rfl⟩⟩⟩
    refine ⟨_, rfl, ?_⟩
    have BK := Aside0.mk (blk_drewN BK.out n17)
    have M4 := Aside0.mk (Mem.drewN M4.out n17)
    have HB := Aside0.mk (pw_below_drewN HB.out n17)
    refine hK.out _ _ ⟨(three BK.out).1, (three BK.out).2.1, (three BK.out).2.2, (M4.out.cell 1 (by rw [HTL.out]; decide)), (M4.out.cell 2 (by rw [HTL.out]; decide)), (mem_loads13 M4.out HTL.out)⟩ (fun hHeld => ?_)
    clear hK K
    refine norm_ (a' := ?_) ?_ ?_
    rotate_left
    · show Act.put _ (some 39) _ = _
      simp only [Act.put, List.setIfInBounds_toArray, List.set_cons_zero, List.set_cons_succ, i64_w, i32_w]
      rfl
    refine pure_ (i := 30) (N := some 40) (v := ?_) (a' := ?_) #[true, true, true, true, true, true, true, true, true, true, true, true, true, true, true, true, true, true, true, true, true, true, true, true, true, true, true, true, true, true, true, false, false, false, false] rfl rfl (by kernel_rfl) (fun _ _ _ h => h) (Or.inl ⟨by rfl, ?_⟩) ?_ ?_
    rotate_left
    · intro w'
      go_simp
      with_reducible rfl
    rotate_left
    · simp only [Act.put, List.setIfInBounds_toArray, List.set_cons_zero, List.set_cons_succ, i64_w, i32_w]
      rfl
    refine pure_ (i := 31) (N := some 41) (v := ?_) (a' := ?_) #[true, true, true, true, true, true, true, true, true, true, true, true, true, true, true, true, true, true, true, true, true, true, true, true, true, true, true, true, true, true, true, true, false, false, false] rfl rfl (by kernel_rfl) (fun _ _ _ h => h) (Or.inl ⟨by rfl, ?_⟩) ?_ ?_
    rotate_left
    · intro w'
      go_simp
      with_reducible rfl
    rotate_left
    · simp only [Act.put, List.setIfInBounds_toArray, List.set_cons_zero, List.set_cons_succ, i64_w, i32_w]
      rfl
    refine one_ (i := 32) (N := some 42) #[true, true, true, true, true, true, true, true, true, true, true, true, true, true, true, true, true, true, true, true, true, true, true, true, true, true, true, true, true, true, true, true, true, false, false] rfl rfl (by kernel_rfl) (by decide) (fun K hK => ?_)
    refine goes_ Try.func22 (by kernel_rfl) rfl #[] (by rfl) rfl rfl (by first | rfl | (simp only [List.map_toArray, List.map_cons, List.map_nil]; done)) ?_
    with_reducible refine (visorlaw18_awake.calls k6 _ _ HK6.out).mono ?_
    rintro e w18 ⟨rfl, hb18⟩
    refine ⟨_, rfl, ?_⟩
    have BK := Aside0.mk (blk_below BK.out hb18)
    have M4 := Aside0.mk (Mem.below M4.out hb18)
    have HB := Aside0.mk (below_step HB.out hb18)
    clear hb18
    refine hK.out _ _ ⟨(three BK.out).1, (three BK.out).2.1, (three BK.out).2.2, (M4.out.cell 1 (by rw [HTL.out]; decide)), (M4.out.cell 2 (by rw [HTL.out]; decide)), (mem_loads13 M4.out HTL.out)⟩ (fun hHeld => ?_)
    clear hK K
    refine norm_ (a' := ?_) ?_ ?_
    rotate_left
    · show Act.put _ (some 42) _ = _
      simp only [Act.put, List.setIfInBounds_toArray, List.set_cons_zero, List.set_cons_succ, i64_w, i32_w]
      rfl
    refine pure_ (i := 33) (N := some 43) (v := ?_) (a' := ?_) #[true, true, true, true, true, true, true, true, true, true, true, true, true, true, true, true, true, true, true, true, true, true, true, true, true, true, true, true, true, true, true, true, true, true, false] rfl rfl (by kernel_rfl) (fun _ _ _ h => h) (Or.inl ⟨by rfl, ?_⟩) ?_ ?_
    rotate_left
    · intro w'
      go_simp
      with_reducible rfl
    rotate_left
    · simp only [Act.put, List.setIfInBounds_toArray, List.set_cons_zero, List.set_cons_succ, i64_w, i32_w]
      rfl
    refine pure_ (i := 34) (N := some 2) (v := ?_) (a' := ?_) #[true, true, true, true, true, true, true, true, true, true, true, true, true, true, true, true, true, true, true, true, true, true, true, true, true, true, true, true, true, true, true, true, true, true, true] rfl rfl (by kernel_rfl) (fun _ _ _ h => h) (Or.inl ⟨by rfl, ?_⟩) ?_ ?_
    rotate_left
    · intro w'
      go_simp
      with_reducible rfl
    rotate_left
    · simp only [Act.put, List.setIfInBounds_toArray, List.set_cons_zero, List.set_cons_succ, i64_w, i32_w]
      rfl
    refine done_ (by kernel_rfl) ?_
    go_wp2
    go_ret
    exact ⟨rfl, HB.out⟩
end Go.Proofs.Ytphdlidaigalkaa.TraceL
