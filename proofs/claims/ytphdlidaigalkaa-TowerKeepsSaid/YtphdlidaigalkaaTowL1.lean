/-
  The law of the tower's answers, walked.
-/
import Derived.Test.YtphdlidaigalkaaTowI
namespace Go.Proofs.Ytphdlidaigalkaa.Mat
open Go.RowKit Go.Proofs.Ytphdlidaigalkaa.PNib Go.Proofs.YtphdlidaigalkaaW.PrintWords Go.Proofs.YtphdlidaigalkaaW.PrintLast Go.Proofs.YtphdlidaigalkaaW.PrintMore Byte Sl Arr Mem Gives ArrEq
set_option linter.unusedVariables false
set_option linter.unusedSimpArgs false
set_option maxHeartbeats 4000000
set_option maxRecDepth 100000
theorem rnib_c (a b : BitVec 8) : GivesB 34 #[.int .u8 (I8 a), .int .u8 (I8 b)] (.int .u8 (I8 (NibMath.mul a b))) := Gives.b fun w => visorref04_Mul.calls 100 _ _ _ w (NibE.RMul_eq a b 100 (by decide))
theorem rtmul_c (a b : BitVec 8) : GivesB 36 #[.int .u8 (I8 a), .int .u8 (I8 b)] (.int .u8 (I8 (TowMath.tmul a b))) := Gives.b fun w => visorref06_Mul.calls 100 _ _ _ w (TowE.RMul_eq a b 100 (by decide))
theorem norm_c (a : BitVec 8) : GivesB 37 #[.int .u8 (I8 a)] (.int .u8 (I8 (TowMath.nor a))) := fun w => tower_Norm.calls 100 _ _ w (TowE.Norm_eq a 100 (by decide))
theorem tinv_c (a : BitVec 8) : GivesB 38 #[.int .u8 (I8 a)] (.int .u8 (I8 (TowMath.tinv a))) := fun w => tower_Inv.calls 100 _ _ w (TowE.Inv_eq a 100 (by decide))
theorem rtinv_c (a : BitVec 8) : GivesB 39 #[.int .u8 (I8 a)] (.int .u8 (I8 (TowMath.tinv a))) := Gives.b fun w => visorref06_Inv.calls 400 _ _ w (TowE.RInv_eq a 400 (by decide))
theorem rroot_c : GivesB 41 #[] (.int .u8 32) := Gives.b fun w => visorref06_Root.calls 400 _ w TowE.RRoot_eq
theorem tawake_c : GivesB 42 #[] (.bool true) := Gives.b fun w => visorlaw06_awake.calls 100 _ w TowE.awake_eq
theorem tne_self (f : Rows) (w : World) : (binOp .neq 67 (.agg (cellsOf .u8 (cells8 f))) (.agg (cellsOf .u8 (cells8 f)))).run Try.prog w = .ok (.bool false) w := by rw [neqs, decide_eq_true rfl]; rfl
theorem quo16 : ∀ a : BitVec 8, I8 a / 16 = I8 (TowMath.hi a) ∧ Int.tdiv (I8 a) 16 = I8 (TowMath.hi a) ∧ I8 a % 16 = I8 (TowMath.lw a) ∧ Int.tmod (I8 a) 16 = I8 (TowMath.lw a) := by decide +kernel
theorem mod256 (a : BitVec 8) : I8 a % 256 = I8 a := Int.emod_eq_of_lt (I8_lo a) (I8_hi a)
theorem tower_tells (a b : BitVec 8) (w : World) : Calls Try.prog 6 #[.int .u8 (I8 a), .int .u8 (I8 b)] w fun e w' => e = .returned (.bool true) ∧ Below w.heap.size w w' := by
  have HB := Aside0.mk (Below.refl w.heap.size w)
  have C0 := Aside0.mk new_c
  have C1 := Aside0.mk rinmat_c
  have C2 := Aside0.mk routmat_c
  have C3 := Aside0.mk in_nil
  have C4 := Aside0.mk out_nil
  have E1 := tne_self inF
  have E2 := tne_self outF
  obtain ⟨h, hh⟩ : ∃ h, h = TowMath.hi a := ⟨_, rfl⟩
  obtain ⟨l, hl⟩ : ∃ l, l = TowMath.lw a := ⟨_, rfl⟩
  have f1 : Int.tdiv (I8 a) 16 = I8 h := by rw [hh]; exact (quo16 a).2.1
  have f2 : I8 h % 256 = I8 h := mod256 h
  have f3 : Int.tmod (I8 a) 16 = I8 l := by rw [hl]; exact (quo16 a).2.2.2
  have D1 := Aside0.mk (rnib_c h h)
  have D2 := Aside0.mk (show GivesB 34 #[.int .u8 (I8 (NibMath.mul h h)), .int .u8 8] _ from rnib_c (NibMath.mul h h) 8#8)
  have D3 := Aside0.mk (rnib_c h l)
  have D4 := Aside0.mk (rnib_c l l)
  have f4 := xor8 (NibMath.mul (NibMath.mul h h) 8#8) (NibMath.mul h l)
  have f5 := xor8 (NibMath.mul (NibMath.mul h h) 8#8 ^^^ NibMath.mul h l) (NibMath.mul l l)
  have hn : NibMath.mul (NibMath.mul h h) 8#8 ^^^ NibMath.mul h l ^^^ NibMath.mul l l = TowMath.nor a := by rw [hh, hl]; rfl
  rw [hn] at f5
  have D5 := Aside0.mk (tmul_c a b).b
  have D6 := Aside0.mk (rtmul_c a b)
  have D7 := Aside0.mk (norm_c a)
  have D8 := Aside0.mk (tinv_c a)
  have D9 := Aside0.mk (rtinv_c a)
  have D10 := Aside0.mk root_c.b
  have D11 := Aside0.mk rroot_c
  have D12 := Aside0.mk tawake_c
  clear hh hl hn
  generalize NibMath.mul (NibMath.mul h h) 8#8 ^^^ NibMath.mul h l = p5 at *
  generalize NibMath.mul (NibMath.mul h h) 8#8 = p2 at *
  generalize NibMath.mul h h = p1 at *
  generalize NibMath.mul h l = p3 at *
  generalize NibMath.mul l l = p4 at *
  generalize TowMath.nor a = nn at *
  generalize TowMath.tmul a b = tt at *
  generalize TowMath.tinv a = vv at *
  go_enter Try.func6, Try.ntmps6
  go_wp2_with (first
    | (go_at_call 29; (with_reducible refine (C0.out _).mono ?_); rintro e w1 ⟨g, rfl, hg, hF, hb1⟩; have H0 := Aside0.mk hF; have HG := Aside0.mk hg; have HB := Aside0.mk (below_step HB.out hb1); clear hg hF hb1)
    | (go_at_call 30; (refine (in_first H0.out).mono ?_); rintro e w2 ⟨rfl, hF, hc⟩; have HB := Aside0.mk (hc.below HB.out HB.out.size HG.out); have H := Aside0.mk hF; clear hF hc H0)
    | (go_at_call 30; (refine (in_done H.out).mono ?_); rintro e w3 ⟨rfl, hF, hb3⟩; have H := Aside0.mk hF; have HB := Aside0.mk (below_step HB.out hb3); clear hF hb3)
    | (go_at_call 32; (refine (out_done H.out).mono ?_); rintro e w4 ⟨rfl, hF, hb4⟩; have H := Aside0.mk hF; have HB := Aside0.mk (below_step HB.out hb4); clear hF hb4)
    | (go_at_call 30; (with_reducible refine (C3.out.q _).mono ?_); rintro e w5 ⟨rfl, hb5⟩; have H := Aside0.mk (show FAt w5 g 1 0 inF outF from FRow.below H.out hb5); have HB := Aside0.mk (below_step HB.out hb5); clear hb5)
    | (go_at_call 32; (with_reducible refine (C4.out.q _).mono ?_); rintro e w6 ⟨rfl, hb6⟩; have H := Aside0.mk (show FAt w6 g 1 0 inF outF from FRow.below H.out hb6); have HB := Aside0.mk (below_step HB.out hb6); clear hb6)
    | (go_at_call 31; (with_reducible refine (C1.out.q _).mono ?_); rintro e w7 ⟨rfl, hb7⟩; have H := Aside0.mk (show FAt w7 g 1 0 inF outF from FRow.below H.out hb7); have HB := Aside0.mk (below_step HB.out hb7); clear hb7)
    | (go_at_call 33; (with_reducible refine (C2.out.q _).mono ?_); rintro e w8 ⟨rfl, hb8⟩; have H := Aside0.mk (show FAt w8 g 1 0 inF outF from FRow.below H.out hb8); have HB := Aside0.mk (below_step HB.out hb8); clear hb8)
    | ((with_reducible refine gate_dst (N := 15) rfl ?_); (try (refine gate_guard (by rfl) ?_; dsimp only)); refine wpList_eql_row rfl rfl rfl rfl guardM (E1 _) ?_)
    | ((with_reducible refine gate_dst (N := 21) rfl ?_); (try (refine gate_guard (by rfl) ?_; dsimp only)); refine wpList_eql_row rfl rfl rfl rfl guardM (E2 _) ?_)
    | ((with_reducible refine gate_dst (N := 27) rfl ?_); (try (refine gate_guard (by rfl) ?_; dsimp only)); refine wpList_eql_row rfl rfl rfl rfl guardM (E1 _) ?_)
    | ((with_reducible refine gate_dst (N := 33) rfl ?_); (try (refine gate_guard (by rfl) ?_; dsimp only)); refine wpList_eql_row rfl rfl rfl rfl guardM (E2 _) ?_)
    | ((with_reducible refine gate_dst (N := 39) rfl ?_); (try (refine gate_guard (by rfl) ?_; dsimp only)); refine wpList_eql_row rfl rfl rfl rfl guardM (E1 _) ?_)
    | (go_at_call 34; (with_reducible refine (D1.out.q _).mono ?_); rintro e wa1 ⟨rfl, hba1⟩; have HB := Aside0.mk (below_step HB.out hba1))
    | (go_at_call 34; (with_reducible refine (D2.out.q _).mono ?_); rintro e wa2 ⟨rfl, hba2⟩; have HB := Aside0.mk (below_step HB.out hba2))
    | (go_at_call 34; (with_reducible refine (D3.out.q _).mono ?_); rintro e wa3 ⟨rfl, hba3⟩; have HB := Aside0.mk (below_step HB.out hba3))
    | (go_at_call 34; (with_reducible refine (D4.out.q _).mono ?_); rintro e wa4 ⟨rfl, hba4⟩; have HB := Aside0.mk (below_step HB.out hba4))
    | (go_at_call 35; (with_reducible refine (D5.out.q _).mono ?_); rintro e wa5 ⟨rfl, hba5⟩; have HB := Aside0.mk (below_step HB.out hba5))
    | (go_at_call 36; (with_reducible refine (D6.out.q _).mono ?_); rintro e wa6 ⟨rfl, hba6⟩; have HB := Aside0.mk (below_step HB.out hba6))
    | (go_at_call 37; (with_reducible refine (D7.out.q _).mono ?_); rintro e wa7 ⟨rfl, hba7⟩; have HB := Aside0.mk (below_step HB.out hba7))
    | (go_at_call 38; (with_reducible refine (D8.out.q _).mono ?_); rintro e wa8 ⟨rfl, hba8⟩; have HB := Aside0.mk (below_step HB.out hba8))
    | (go_at_call 39; (with_reducible refine (D9.out.q _).mono ?_); rintro e wa9 ⟨rfl, hba9⟩; have HB := Aside0.mk (below_step HB.out hba9))
    | (go_at_call 40; (with_reducible refine (D10.out.q _).mono ?_); rintro e wa10 ⟨rfl, hba10⟩; have HB := Aside0.mk (below_step HB.out hba10))
    | (go_at_call 41; (with_reducible refine (D11.out.q _).mono ?_); rintro e wa11 ⟨rfl, hba11⟩; have HB := Aside0.mk (below_step HB.out hba11))
    | (go_at_call 42; (with_reducible refine (D12.out.q _).mono ?_); rintro e wa12 ⟨rfl, hba12⟩; have HB := Aside0.mk (below_step HB.out hba12)))
  go_ret
  exact ⟨rfl, HB.out⟩
theorem tower_tells_walk (a b : Int) (w : World) (wa : (Lit.int .u8 a).wf = true) (wb : (Lit.int .u8 b).wf = true) : Calls Try.prog 6 #[.int .u8 a, .int .u8 b] w fun e w' => e = .returned (.bool true) ∧ Below w.heap.size w w' := by
  obtain ⟨a, rfl⟩ := byte_of wa
  obtain ⟨b, rfl⟩ := byte_of wb
  exact tower_tells a b w
end Go.Proofs.Ytphdlidaigalkaa.Mat
