/-
  Merged texts: AesAwk, AesLaw, AesRow: walks and plain lemmas; no condition.
-/
import Derived.Test.YtpdikfmdnlhllaaAesKeyAll
import Derived.Test.YtpdikfmdnlhllaaAesKnown
namespace Go.Proofs.Ytpdikfmdnlhllaa.Aes
open Go.RowKit Go.Proofs.Ytpdikfmdnlhllaa.PNib Go.Proofs.YtpdikfmdnlhllaaW.PrintWords Go.Proofs.YtpdikfmdnlhllaaW.PrintLast Go.Proofs.YtpdikfmdnlhllaaW.PrintMore Byte Sl Arr Mem Gives ArrEq Mat AesMath AesMov AesLin HandKit
set_option linter.unusedVariables false
set_option linter.unusedSimpArgs false
theorem mem_C {w : World} {g : Nat} {t : TypeId} {l : List Int} (h : Mem .u8 w g t l) (n : Nat) (hn : n ≤ l.length) (hs : n < 4611686018427387904) : Kd.C (Kd.int .u8) w (some ⟨g, 0, none⟩) n (l.take n) := by
  have hl : (l.take n).length = n := by rw [List.length_take]; omega
  have h1 : Sl .u8 w (.slice (some ⟨g, 0, none⟩) (l.take n).length n) (l.take n) := Sl.of_cells (by omega) (by omega) (fun j x hj => by
    have hj2 : j < n := by
      have := (List.getElem?_eq_some_iff.1 hj).1
      omega
    have := h.cell j (by omega)
    rw [show (⟨g, 0, none⟩ : Addr).add j = ⟨g, j, none⟩ by rw [add_at, Nat.zero_add], this]
    rw [List.getElem?_take_of_lt hj2] at hj
    rw [List.getD_eq_getElem?_getD, hj]
    rfl)
  obtain ⟨A, c, hv, _, hC⟩ := h1
  rw [hl] at hC hv
  injection hv with hA
  rw [hA]
  exact hC
theorem round_keys_len (key : List B) (hr : roundsN key.length ≠ 0) : ∃ n, (roundKeys key).length = n + 2 ∧ n + 1 = roundsN key.length ∧ n ≤ 100 ∧ ∀ r, r < n + 2 → (keyAt (roundKeys key) r).length = 16 := by
  obtain ⟨k, rd, M, h1, h2, h3, h4, h5⟩ : ∃ k rd M, key.length = 4 * k ∧ 0 < k ∧ roundsN key.length = rd + 1 ∧ k + M = 4 * (rd + 2) ∧ rd ≤ 100 := by
    rcases roundsN_pos hr with ⟨h, h2⟩ | ⟨h, h2⟩ | ⟨h, h2⟩
    · exact ⟨4, 9, 40, h, by decide, h2, by decide, by decide⟩
    · exact ⟨6, 11, 46, h, by decide, h2, by decide, by decide⟩
    · exact ⟨8, 13, 52, h, by decide, h2, by decide, by decide⟩
  refine ⟨rd, ?_, h3.symm, h5, fun r hr => ?_⟩
  · rw [roundKeys_length, h3]
  · unfold keyAt
    rw [roundKeys_all key k (rd + 1) M h1 h3 (by omega)]
    rw [List.getD_eq_getElem?_getD, List.getElem?_map, List.getElem?_range (by omega)]
    show (((allL key k M).drop (16 * r)).take 16).length = 16
    rw [List.length_take, List.length_drop, allL_length key k M h1 h2]
    omega
theorem wpList_eql_row {P : Program} {ops : Array Oper} {rest : List Oper} {o : Oper} {a : Act} {w : World} {Q : Exit → Act → World → Prop} (hgd : o.guard = none) {op : BinOp} {ty z : TypeId} {x y : Operand} (ho : o.op = .binOp op ty x y z) {xs ys : Array Value} (hx : a.eval x = .agg xs) (hy : a.eval y = .agg ys) (hm : P.eqGuardType P.depth ty = false) {v : Value} (h : (binOp op ty (.agg xs) (.agg ys)).run P w = .ok v w)
    (hK : wpList P ops Q rest (a.put o.dst v) w) : wpList P ops Q (o :: rest) a w :=
  wpList_plain hgd fun _ hK' => by
    unfold Oper.wp execOp
    simp only [ho, hx, hy, Sem.run_bind, Sem.run_pure, Result.andThen_ok, run_eqGuard_agg _ _ _ _ _ _ _ hm, h]
    exact hK' _ _ hK
theorem guard16 : Try.prog.eqGuardType Try.prog.depth 31 = false := by kernel_rfl
theorem eqs16 (a b : List B) (ha : a.length = 16) (hb : b.length = 16) (w : World) : (binOp .eql 31 (.agg (cellsOf .u8 (ib a))) (.agg (cellsOf .u8 (ib b)))).run Try.prog w = .ok (.bool (decide (ib a = ib b))) w :=
  run_eql_arr Try.underlying31 Try.underlying5 info_w8 _ _ (by rw [ib_length, ha]) (by rw [ib_length, hb]) w
theorem nes16 (a b : List B) (ha : a.length = 16) (hb : b.length = 16) (w : World) : (binOp .neq 31 (.agg (cellsOf .u8 (ib a))) (.agg (cellsOf .u8 (ib b)))).run Try.prog w = .ok (.bool (!decide (ib a = ib b))) w :=
  run_neq_arr Try.underlying31 Try.underlying5 info_w8 _ _ (by rw [ib_length, ha]) (by rw [ib_length, hb]) w
theorem eq16 (a : List B) (ha : a.length = 16) (w : World) : (binOp .eql 31 (.agg (cellsOf .u8 (ib a))) (.agg (cellsOf .u8 (ib a)))).run Try.prog w = .ok (.bool true) w := by rw [eqs16 a a ha ha, decide_eq_true rfl]
theorem ne16 (a : List B) (ha : a.length = 16) (w : World) : (binOp .neq 31 (.agg (cellsOf .u8 (ib a))) (.agg (cellsOf .u8 (ib a)))).run Try.prog w = .ok (.bool false) w := by rw [nes16 a a ha ha, decide_eq_true rfl]; rfl
theorem step_get : ∀ j, j < 16 → (ib stepK).getD j 0 = (j : Int) := by decide
theorem plain_get : ∀ j, j < 16 → (ib plainP).getD j 0 = ((17 * j : Nat) : Int) := by decide
theorem crypt_lit : (#[.int .u8 105, .int .u8 196, .int .u8 224, .int .u8 216, .int .u8 106, .int .u8 123, .int .u8 4, .int .u8 48, .int .u8 216, .int .u8 205, .int .u8 183, .int .u8 128, .int .u8 112, .int .u8 180, .int .u8 197, .int .u8 90] : Array Value) = cellsOf .u8 (ib cryptC) := rfl
theorem eq_lit (w : World) : (binOp .eql 31 (.agg (cellsOf .u8 (ib cryptC))) (.agg #[.int .u8 105, .int .u8 196, .int .u8 224, .int .u8 216, .int .u8 106, .int .u8 123, .int .u8 4, .int .u8 48, .int .u8 216, .int .u8 205, .int .u8 183, .int .u8 128, .int .u8 112, .int .u8 180, .int .u8 197, .int .u8 90])).run Try.prog w = .ok (.bool true) w := by rw [crypt_lit]; exact eq16 cryptC rfl w
set_option maxHeartbeats 4000000 in
set_option maxRecDepth 100000 in
theorem aawake_c : GivesB 33 #[] (.bool true) := by
  intro w
  have M1 := Aside0.mk (Mem.alloc (Mem.new .u8 w 31 z16) (.cells (cellsOf .u8 z16) 31))
  have M2 := Aside0.mk (Mem.new2 .u8 w (.cells (cellsOf .u8 z16) 31) 31 z16)
  have HB := Aside0.mk (below_alloc (below_alloc (Below.refl w.heap.size w) (.cells (cellsOf .u8 z16) 31)) (.cells (cellsOf .u8 z16) 31))
  have CN := Aside0.mk (fun W (h : Kd.C (Kd.int .u8) W (some ⟨w.heap.size, 0, none⟩) 16 (ib stepK)) => by have := new_c stepK (by decide) (some ⟨w.heap.size, 0, none⟩) 16 (by decide) W h; rwa [show stepK.length = 16 from rfl] at this)
  have CB := Aside0.mk (fun g bx W (h : Cph W g bx (roundKeys stepK)) => block_c plainP rfl g bx (roundKeys stepK) 9 (by rw [roundKeys_length]; decide) (fun r hr => by
    obtain ⟨n, _, hn, _, hk⟩ := round_keys_len stepK (by decide)
    obtain rfl : n = 9 := by have h9 : roundsN stepK.length = 10 := by decide
                             omega
    exact hk r hr) (by decide) W h)
  rw [enc_known] at CB
  have HS1 := Aside0.mk (fun j (h : j < 16) => fillTo_set (ib stepK) z16 rfl j h (j : Int) (step_get j h))
  have HS2 := Aside0.mk (fun j (h : j < 16) => fillTo_set (ib plainP) z16 rfl j h ((17 * j : Nat) : Int) (plain_get j h))
  have HE1 := Aside0.mk (show fillTo (ib stepK) z16 16 = ib stepK from fillTo_end _ z16 rfl)
  have HE2 := Aside0.mk (show fillTo (ib plainP) z16 16 = ib plainP from fillTo_end _ z16 rfl)
  have HL1 := Aside0.mk (fun j => show (fillTo (ib stepK) z16 j).length = 16 from fillTo_length (ib stepK) z16 rfl j)
  have HL2 := Aside0.mk (fun j => show (fillTo (ib plainP) z16 j).length = 16 from fillTo_length (ib plainP) z16 rfl j)
  have HK := Aside0.mk (show (ib stepK).length = 16 from rfl)
  have HP := Aside0.mk (show (ib plainP).length = 16 from rfl)
  have EQ := Aside0.mk eq_lit
  generalize ib cryptC = cc at *
  generalize ib stepK = l1 at *
  generalize ib plainP = l2 at *
  go_enter Try.func33, Try.ntmps33
  go_wp2_with (first
    | ((with_reducible refine gate_dst (N := 6) rfl ?_); refine wpList_build_zero rfl 31 rfl (cellsOf .u8 z16) built16 ?_)
    | ((with_reducible refine gate_dst (N := 7) rfl ?_); refine wpList_build_zero rfl 31 rfl (cellsOf .u8 z16) built16 ?_)
    | (((with_reducible refine gate_store (t := 31) (p := 1) rfl ?_); refine Mem.store (l' := z16) M1.out rfl 31 (.tmp 1) (.tmp 6) rfl rfl rfl (by first | exact info16 | (rw [z16_length]; exact info16)) (by first | rfl | (rw [z16_length]; rfl) | rw [z16_length, z16_length]) ?_); have M2 := Aside0.mk (Mem.row M2.out (show w.heap.size ≠ w.heap.size + 1 by omega) (cellsOf .u8 z16)))
    | ((with_reducible refine gate_store (t := 31) (p := 2) rfl ?_); refine Mem.store (l' := z16) M2.out rfl 31 (.tmp 2) (.tmp 7) rfl rfl rfl (by first | exact info16 | (rw [z16_length]; exact info16)) (by first | rfl | (rw [z16_length]; rfl) | rw [z16_length, z16_length]) ?_))
  have HB := Aside0.mk (below_setRow (below_setRow HB.out (g := w.heap.size) (by omega) (cellsOf .u8 z16)) (g := w.heap.size + 1) (by omega) (cellsOf .u8 z16))
  have M1 := Aside0.mk (show Mem .u8 _ w.heap.size 31 (fillTo l1 z16 0) by rw [fillTo_zero]; exact Mem.row (Mem.put M1.out z16) (show w.heap.size + 1 ≠ w.heap.size by omega) (cellsOf .u8 z16))
  have M2 := Aside0.mk (show Mem .u8 _ (w.heap.size + 1) 31 (fillTo l2 z16 0) by rw [fillTo_zero]; exact Mem.put M2.out z16)
  go_loopg [3] 16 (fun kq i w' => ∃ j : Nat, j + kq = 16 ∧ i = .int .i64 j ∧ Aside0 (Mem .u8 w' w.heap.size 31 (fillTo l1 z16 j)) ∧ Aside0 (Mem .u8 w' (w.heap.size + 1) 31 (fillTo l2 z16 j)) ∧ Aside0 (Below w.heap.size w w'))
  case atStart => exact ⟨0, by omega, rfl, M1, M2, HB⟩
  case round =>
    clear M1 M2 HB
    obtain ⟨j, hj, rfl, M1, M2, HB⟩ := hrel
    cases gk with
    | zero =>
      obtain rfl : j = 16 := by omega
      have M1 := Aside0.mk (show Mem .u8 _ w.heap.size 31 l1 by rw [← HE1.out]; exact M1.out)
      have M2 := Aside0.mk (show Mem .u8 _ (w.heap.size + 1) 31 l2 by rw [← HE2.out]; exact M2.out)
      clear HS1 HS2 HL1 HL2 HE1 HE2
      have HC1 := Aside0.mk (by have := mem_C M1.out 16 (by rw [HK.out]; decide) (by decide); rwa [show l1.take 16 = l1 by rw [← HK.out]; exact List.take_length] at this)
      go_wp2_with (first
        | (go_at_call 30; (refine (CN.out _ HC1.out).mono ?_); rintro e w1 ⟨g, bx, rfl, hX, _, hbx, hb⟩; have HX := Aside0.mk hX; have HBX := Aside0.mk (Nat.le_trans HB.out.size hbx); have M2 := Aside0.mk (Mem.below M2.out hb); have HB := Aside0.mk (below_step HB.out hb); clear hX hbx hb)
        | ((with_reducible refine gate_dst (N := 30) rfl ?_); (try (refine gate_guard (by rfl) ?_; dsimp only)); refine Mem.load M2.out rfl 31 (.tmp 2) rfl rfl Try.underlying31 (by rw [HP.out]; exact info16) ?_)
        | (go_at_call 31; (refine (CB.out _ _ _ HX.out).mono ?_); rintro e w2 ⟨rfl, _, hc⟩; have HB := Aside0.mk (hc.below HB.out HB.out.size HBX.out); clear hc)
        | ((with_reducible refine gate_dst (N := 33) rfl ?_); (try (refine gate_guard (by rfl) ?_; dsimp only)); go_loud (refine wpList_eql_row rfl rfl rfl rfl guard16 (EQ.out _) ?_)))
      go_ret
      exact ⟨rfl, HB.out⟩
    | succ k1 =>
      have hlt : j < 16 := by omega
      have h0 : (0 : Int) ≤ (j : Int) := by omega
      have h1 : (j : Int) < 16 := by omega
      have w1_ := wrap_u8_nat j (by omega)
      have w2_ := wrap_u8_nat (17 * j) (by omega)
      have e1 : IntKind.i64.wrap (17 * (j : Int)) = ((17 * j : Nat) : Int) := by rw [IntKind.wrap_i64]; omega
      have e2 : wrap64 (17 * (j : Int)) = ((17 * j : Nat) : Int) := by unfold wrap64; omega
      have hm1 : (j : Int) % 256 = (j : Int) := by omega
      have hm2 : ((17 * j : Nat) : Int) % 256 = ((17 * j : Nat) : Int) := by omega
      obtain ⟨p, hp⟩ : ∃ z : Nat, z = 17 * j := ⟨_, rfl⟩
      rw [← hp] at w2_ e1 e2 hm2
      have HV1 := Aside0.mk (HS1.out j hlt)
      have HV2 := Aside0.mk (HS2.out j hlt)
      rw [← hp] at HV2
      have HSL1 := Aside0.mk (HL1.out j)
      have HSL2 := Aside0.mk (HL2.out j)
      generalize fillTo l1 z16 j = s1 at *
      generalize fillTo l2 z16 j = s2 at *
      have HJ := Aside0.mk hj
      have hx := M1.out.cell j (by rw [HSL1.out]; exact hlt)
      have hf := M1.out.free j
      have N1 := Aside0.mk (Mem.set M1.out j (j : Int))
      have N2 := Aside0.mk (Mem.other M2.out (show w.heap.size ≠ w.heap.size + 1 by omega) j (.int .u8 (j : Int)))
      have hx2 := N2.out.cell j (by rw [HSL2.out]; exact hlt)
      have hf2 := N2.out.free j
      clear hj hp HS1 HS2 HL1 HL2 HE1 HE2
      go_wp2
      go_roundg k1
      case measure => omega
      case rel => exact ⟨j + 1, by have := HJ.out; omega, by go_num, ⟨by rw [← HV1.out]; exact Mem.other N1.out (by omega) _ _⟩, ⟨by rw [← HV2.out]; exact Mem.set N2.out _ _⟩, ⟨below_set (below_set HB.out (Nat.le_refl _)) (by omega)⟩⟩
end Go.Proofs.Ytpdikfmdnlhllaa.Aes
namespace Go.Proofs.Ytpdikfmdnlhllaa.Aes
open Go.RowKit Go.Proofs.Ytpdikfmdnlhllaa.PNib Go.Proofs.YtpdikfmdnlhllaaW.PrintWords Go.Proofs.YtpdikfmdnlhllaaW.PrintLast Go.Proofs.YtpdikfmdnlhllaaW.PrintMore Byte Sl Arr Mem Gives ArrEq Mat AesMath AesMov AesLin HandKit
set_option linter.unusedVariables false
set_option linter.unusedSimpArgs false
set_option maxHeartbeats 4000000 in
set_option maxRecDepth 100000 in
theorem row_c (b : List B) (hb : b.length = 16) (w : World) : Calls Try.prog 37 #[.agg (cellsOf .u8 (ib b))] w fun e w' => e = .returned (.slice (some ⟨w.heap.size, 0, none⟩) 16 16) ∧ Mem .u8 w' w.heap.size 31 (ib b) ∧ Below w.heap.size w w' := by
  have M := Aside0.mk (Mem.new .u8 w 31 (ib b))
  have HB := Aside0.mk (below_alloc (Below.refl w.heap.size w) (.cells (cellsOf .u8 (ib b)) 31))
  obtain ⟨cl, hcl⟩ : ∃ cs, cs = cellsOf .u8 (ib b) := ⟨_, rfl⟩
  rw [← hcl] at M HB ⊢
  clear hcl hb
  go_enter Try.func37, Try.ntmps37
  go_wp2
  go_ret
  exact ⟨rfl, M.out, HB.out⟩
theorem mem_C16 {w : World} {g : Nat} {t : TypeId} {b : List B} (h : Mem .u8 w g t (ib b)) (hb : (ib b).length = 16) : Kd.C (Kd.int .u8) w (some ⟨g, 0, none⟩) 16 (ib b) := by
  have := mem_C h 16 (by rw [hb]; exact Nat.le_refl _) (by decide)
  rwa [List.take_of_length_le (by rw [hb]; exact Nat.le_refl _)] at this
set_option maxHeartbeats 4000000 in
set_option maxRecDepth 100000 in
theorem law_ (key b o : List B) (hkey : key.length = 32) (hb : b.length = 16) (ho : o.length = 16) (p : B) (w : World) : Calls Try.prog 6 #[.agg (cellsOf .u8 (ib key)), .int .u8 (I8 p), .agg (cellsOf .u8 (ib b)), .agg (cellsOf .u8 (ib o))] w fun e w' => e = .returned (.bool true) ∧ Below w.heap.size w w' := by
  obtain ⟨m, hm⟩ : ∃ m, m = p.toNat % 3 := ⟨_, rfl⟩
  have hm3 : m < 3 := by omega
  obtain ⟨n, hn⟩ : ∃ n, n = 16 + 8 * m := ⟨_, rfl⟩
  have hn32 : n ≤ 32 := by omega
  have hkl : (key.take n).length = n := by rw [List.length_take]; omega
  have hr : roundsN (key.take n).length ≠ 0 := by
    rw [hkl, hn]
    rcases (show m = 0 ∨ m = 1 ∨ m = 2 by omega) with h | h | h <;> rw [h] <;> decide
  obtain ⟨rk, hrk⟩ : ∃ z, z = roundKeys (key.take n) := ⟨_, rfl⟩
  obtain ⟨N, hN1, _, hN2, hN3⟩ := round_keys_len (key.take n) hr
  have CNEW := Aside0.mk (fun (W : World) (h : Kd.C (Kd.int .u8) W (some ⟨w.heap.size, 0, none⟩) n (ib (key.take n))) => show Calls Try.prog 30 #[.slice (some ⟨w.heap.size, 0, none⟩) n 32] W fun e w' => ∃ g bx, e = .returned (.tuple #[.pointer (some ⟨g, 0, none⟩), .int .i64 0]) ∧ Cph w' g bx rk ∧ W.heap.size ≤ g ∧ W.heap.size ≤ bx ∧ Below W.heap.size W w' from by
    have := new_c (key.take n) hr (some ⟨w.heap.size, 0, none⟩) 32 (by rw [hkl]; exact hn32) W (by rw [hkl]; exact h)
    rw [hkl, ← hrk] at this
    exact this)
  rw [← hrk] at hN1 hN3
  have CB := Aside0.mk (fun (x : List B) (hx : x.length = 16) (g bx : Nat) (W : World) (h : Cph W g bx rk) => block_c x hx g bx rk N hN1 hN3 hN2 W h)
  have CU := Aside0.mk (fun (x : List B) (hx : x.length = 16) (g bx : Nat) (W : World) (h : Cph W g bx rk) => unblock_c x hx g bx rk N hN1 hN3 hN2 W h)
  clear hN1 hN3 hN2 hr hrk
  obtain ⟨eb, heb⟩ : ∃ z, z = encB rk N b := ⟨_, rfl⟩
  obtain ⟨eo, heo⟩ : ∃ z, z = encB rk N o := ⟨_, rfl⟩
  obtain ⟨db, hdb⟩ : ∃ z, z = decB rk N b := ⟨_, rfl⟩
  have leb : eb.length = 16 := by rw [heb]; exact encB_length _ _ _
  have leo : eo.length = 16 := by rw [heo]; exact encB_length _ _ _
  have ldb : db.length = 16 := by rw [hdb]; exact decB_length _ _ _
  have r1 : decB rk N eb = b := by rw [heb]; exact dec_enc rk N b hb
  have r2 : encB rk N db = b := by rw [hdb]; exact enc_dec rk N b hb
  have E18 := Aside0.mk (fun (w' : World) => show (binOp .eql 31 (.agg (cellsOf .u8 (ib eb))) (.agg (cellsOf .u8 (ib eo)))).run Try.prog w' = .ok (.bool (decide (ib b = ib o))) w' from by
    rw [eqs16 eb eo leb leo]
    congr 2
    rw [decide_eq_decide]
    constructor
    · intro h
      have h2 := ib_inj h
      rw [heb, heo] at h2
      rw [enc_inj rk N hb ho h2]
    · intro h
      rw [heb, heo, ib_inj h])
  have E21 := Aside0.mk (fun (w' : World) => eqs16 b o hb ho w')
  have EN := Aside0.mk (fun (w' : World) => ne16 b hb w')
  have CB1 := Aside0.mk (fun (g bx : Nat) (W : World) (h : Cph W g bx rk) => by have := CB.out b hb g bx W h; rwa [← heb] at this)
  have CBO := Aside0.mk (fun (g bx : Nat) (W : World) (h : Cph W g bx rk) => by have := CB.out o ho g bx W h; rwa [← heo] at this)
  have CB2 := Aside0.mk (fun (g bx : Nat) (W : World) (h : Cph W g bx rk) => by have := CB.out db ldb g bx W h; rwa [r2] at this)
  have CU1 := Aside0.mk (fun (g bx : Nat) (W : World) (h : Cph W g bx rk) => by have := CU.out eb leb g bx W h; rwa [r1] at this)
  have CU2 := Aside0.mk (fun (g bx : Nat) (W : World) (h : Cph W g bx rk) => by have := CU.out b hb g bx W h; rwa [← hdb] at this)
  clear CB CU r1 r2 heb heo hdb leb leo ldb
  obtain ⟨c1, h1⟩ : ∃ z, z = colsB b := ⟨_, rfl⟩
  obtain ⟨c2, h2⟩ : ∃ z, z = colsB c1 := ⟨_, rfl⟩
  obtain ⟨bc, h3⟩ : ∃ z, z = colsB c2 := ⟨_, rfl⟩
  obtain ⟨co, h4⟩ : ∃ z, z = colsB o := ⟨_, rfl⟩
  obtain ⟨rb, h5⟩ : ∃ z, z = rowsB b := ⟨_, rfl⟩
  obtain ⟨xo, h6⟩ : ∃ z, z = xorL b o := ⟨_, rfl⟩
  obtain ⟨cx, h7⟩ : ∃ z, z = colsB xo := ⟨_, rfl⟩
  have hbc : backC b = bc := by rw [h3, h2, h1]; rfl
  have l1 : c1.length = 16 := by rw [h1]; exact colsB_length _
  have l2 : c2.length = 16 := by rw [h2]; exact colsB_length _
  have l3 : bc.length = 16 := by rw [h3]; exact colsB_length _
  have l4 : co.length = 16 := by rw [h4]; exact colsB_length _
  have l5 : rb.length = 16 := by rw [h5]; exact rowsB_length _
  have l6 : xo.length = 16 := by rw [h6, xorL_length]; exact hb
  have l7 : cx.length = 16 := by rw [h7]; exact colsB_length _
  have CC1 := Aside0.mk (fun (W : World) => by have := cols_c b hb W; rwa [← h1] at this)
  have CC2 := Aside0.mk (fun (W : World) => by have := cols_c c1 l1 W; rwa [← h2] at this)
  have CC3 := Aside0.mk (fun (W : World) => by have := cols_c c2 l2 W; rwa [← h3] at this)
  have CC4 := Aside0.mk (fun (W : World) => by have := cols_c bc l3 W; rwa [← hbc, cols_backC b hb, hbc] at this)
  have CC5 := Aside0.mk (fun (W : World) => by have := cols_c xo l6 W; rwa [← h7] at this)
  have CC6 := Aside0.mk (fun (W : World) => by have := cols_c o ho W; rwa [← h4] at this)
  have CBK := Aside0.mk (fun (W : World) => by have := (acols_back_c b hb).q W; rwa [hbc] at this)
  have CR := Aside0.mk (fun (W : World) => by have := (arowsB_c b hb).q W; rwa [← h5] at this)
  have CBR := Aside0.mk (fun (W : World) => by have := (abackB_c rb l5).q W; rwa [h5, back_rows b hb, ← h5] at this)
  have CA1 := Aside0.mk (fun (A : Option Addr) (W : World) (h : Kd.C (Kd.int .u8) W A 16 (ib o)) => by have := raddL_c b o hb ho A 16 W h (Nat.le_refl _); rwa [← h6] at this)
  have CA2 := Aside0.mk (fun (A : Option Addr) (W : World) (h : Kd.C (Kd.int .u8) W A 16 (ib co)) => by have := raddL_c c1 co l1 l4 A 16 W h (Nat.le_refl _); rwa [h1, h4, ← cols_xor b o hb, ← h6, ← h7, ← h1] at this)
  have CAW := Aside0.mk (fun (W : World) => aawake_c.q W)
  have CRW := Aside0.mk (fun (W : World) => row_c co l4 W)
  have EN1 := Aside0.mk (fun (w' : World) => ne16 bc l3 w')
  have EQ1 := Aside0.mk (fun (w' : World) => eq16 cx l7 w')
  have LB := Aside0.mk (show (ib b).length = 16 by rw [ib_length, hb])
  have LO := Aside0.mk (show (ib o).length = 16 by rw [ib_length, ho])
  have LC := Aside0.mk (show (ib bc).length = 16 by rw [ib_length, l3])
  have LCO := Aside0.mk (show (ib co).length = 16 by rw [ib_length, l4])
  have LK := Aside0.mk (show (ib key).length = 32 by rw [ib_length, hkey])
  have HTK := Aside0.mk (show (ib key).take n = ib (key.take n) by rw [ib_take])
  clear h1 h2 h3 h4 h5 h6 h7 hbc l1 l2 l3 l4 l5 l6 l7 hb ho hkey hkl
  generalize key.take n = kn at *
  have M1 := Aside0.mk (Mem.alloc (Mem.alloc (Mem.new .u8 w 40 (ib key)) (.cells (cellsOf .u8 (ib b)) 31)) (.cells (cellsOf .u8 (ib o)) 31))
  have M2 := Aside0.mk (Mem.alloc (Mem.new2 .u8 w (.cells (cellsOf .u8 (ib key)) 40) 31 (ib b)) (.cells (cellsOf .u8 (ib o)) 31))
  have M3 := Aside0.mk (Mem.new3 .u8 w (.cells (cellsOf .u8 (ib key)) 40) (.cells (cellsOf .u8 (ib b)) 31) 31 (ib o))
  have HB := Aside0.mk (below_alloc (below_alloc (below_alloc (Below.refl w.heap.size w) (.cells (cellsOf .u8 (ib key)) 40)) (.cells (cellsOf .u8 (ib b)) 31)) (.cells (cellsOf .u8 (ib o)) 31))
  have HSZ := Aside0.mk (show w.heap.size + 3 ≤ (((w.alloc (.cells (cellsOf .u8 (ib key)) 40)).alloc (.cells (cellsOf .u8 (ib b)) 31)).alloc (.cells (cellsOf .u8 (ib o)) 31)).heap.size from by show _ ≤ (((w.heap.push _).push _).push _).size; simp)
  obtain ⟨ka, hka⟩ : ∃ cs, cs = cellsOf .u8 (ib key) := ⟨_, rfl⟩
  obtain ⟨ca, hca⟩ : ∃ cs, cs = cellsOf .u8 (ib b) := ⟨_, rfl⟩
  obtain ⟨oa, hoa⟩ : ∃ cs, cs = cellsOf .u8 (ib o) := ⟨_, rfl⟩
  have HCA := Aside0.mk hca
  have HOA := Aside0.mk hoa
  rw [← hka] at M1 M2 M3 HB HSZ ⊢
  rw [← hca] at M1 M2 M3 HB HSZ ⊢
  rw [← hoa] at M1 M2 M3 HB HSZ ⊢
  have HC1 := Aside0.mk (by have := mem_C M1.out n (by rw [LK.out]; exact hn32) (by omega); rwa [HTK.out] at this)
  have t1 : Int.tmod (I8 p) 3 = (m : Int) := by rw [Int.tmod_eq_emod_of_nonneg (by unfold I8; omega), hm]; unfold I8; omega
  have t2 : (I8 p) % 3 = (m : Int) := by rw [hm]; unfold I8; omega
  have t3 : wrap64 (8 * (m : Int)) = ((8 * m : Nat) : Int) := by unfold wrap64; omega
  have t4 : wrap64 (16 + ((8 * m : Nat) : Int)) = (n : Int) := by unfold wrap64; omega
  have t5 : (0 : Int) ≤ (n : Int) := by omega
  have t6 : (n : Int) ≤ 32 := by omega
  have t7 : 16 + 8 * (m : Int) = (n : Int) := by omega
  have t8 : 8 * (m : Int) = ((8 * m : Nat) : Int) := by omega
  have t9 : 16 + ((8 * m : Nat) : Int) = (n : Int) := by omega
  have hIp := Aside0.mk hn
  have t0 : wrap64 (I8 p) = I8 p := by have := p.isLt; unfold wrap64 I8; omega
  have t01 : IntKind.i64.wrap (I8 p) = I8 p := wrap_i64_nat p.toNat (Nat.lt_of_lt_of_le p.isLt (by decide))
  clear hka hca hoa hm hm3 hn hn32 M1
  generalize I8 p = ip at *
  generalize 8 * m = m8 at *
  go_enter Try.func6, Try.ntmps6
  go_wp2_with (first
    | (go_at_call 30; go_loud ((refine (CNEW.out _ HC1.out).mono ?_); rintro e w1 ⟨g, bx, rfl, hX, _, hbx, hb1⟩; have HX := Aside0.mk hX.bound; have HBX := Aside0.mk (Nat.le_trans HSZ.out hbx); have M2 := Aside0.mk (Mem.below M2.out hb1); have M3 := Aside0.mk (Mem.below M3.out hb1); have HB := Aside0.mk (below_step HB.out hb1); clear hX hbx hb1)))
  have HC := Aside0.mk ((show Ch bx w1 w1 from Ch.refl w1))
  have HXL := Aside0.mk (show bx < w1.heap.size from HX.out.2.2.2)
  have NE2 := Aside0.mk (show w.heap.size + 1 ≠ bx by have := HBX.out; omega)
  have NE3 := Aside0.mk (show w.heap.size + 2 ≠ bx by have := HBX.out; omega)
  clear t0 t01 t1 t2 t3 t4 t5 t6 t7 t8 t9 HSZ CNEW HC1
  have hl0 := mem_loads16 (Mem.drew M2.out) LB.out
  refine start_ (n := 24) (S := fun w' => (loadVar 31 ⟨w.heap.size + 1, 0, none⟩).run Try.prog w' = .ok (.agg (cellsOf .u8 (ib b))) w') (ds := []) #[false, false, false, false, false, false, false, false, false, false, false, false, false, false, false, false, false, false, false, false, false, false, false, false] (by kernel_rfl) rfl rfl (hl0) (fun hHeld => ?_)
  refine pure_ (i := 0) (N := some 22) (v := ?_) (a' := ?_) #[true, false, false, false, false, false, false, false, false, false, false, false, false, false, false, false, false, false, false, false, false, false, false, false] rfl rfl (by kernel_rfl) (fun _ _ _ h => h) (Or.inl ⟨by rfl, ?_⟩) ?_ ?_
  rotate_left
  · intro w'
    go_simp
    with_reducible rfl
  rotate_left
  · simp only [Act.put, List.setIfInBounds_toArray, List.set_cons_zero, List.set_cons_succ, i64_w, i32_w]
    rfl
  refine pure_ (i := 1) (N := some 23) (v := ?_) (a' := ?_) #[true, true, false, false, false, false, false, false, false, false, false, false, false, false, false, false, false, false, false, false, false, false, false, false] rfl rfl (by kernel_rfl) (fun _ _ _ h => h) (Or.inl ⟨by rfl, ?_⟩) ?_ ?_
  rotate_left
  · intro w'
    go_simp
    with_reducible rfl
  rotate_left
  · simp only [Act.put, List.setIfInBounds_toArray, List.set_cons_zero, List.set_cons_succ, i64_w, i32_w]
    rfl
  refine pure_ (i := 2) (N := some 24) (v := ?_) (a' := ?_) #[true, true, true, false, false, false, false, false, false, false, false, false, false, false, false, false, false, false, false, false, false, false, false, false] rfl rfl (by kernel_rfl) (fun _ _ _ h => h) (Or.inl ⟨by rfl, ?_⟩) ?_ ?_
  rotate_left
  · intro w'
    go_simp
    with_reducible rfl
  rotate_left
  · simp only [Act.put, List.setIfInBounds_toArray, List.set_cons_zero, List.set_cons_succ, i64_w, i32_w]
    rfl
  refine pure_ (i := 3) (N := some 25) (v := ?_) (a' := ?_) #[true, true, true, true, false, false, false, false, false, false, false, false, false, false, false, false, false, false, false, false, false, false, false, false] rfl rfl (by kernel_rfl) (fun _ _ _ h => h) (Or.inl ⟨by rfl, ?_⟩) ?_ ?_
  rotate_left
  · intro w'
    go_simp
    with_reducible rfl
  rotate_left
  · simp only [Act.put, List.setIfInBounds_toArray, List.set_cons_zero, List.set_cons_succ, i64_w, i32_w]
    rfl
  refine pure_ (i := 4) (N := some 26) (v := ?_) (a' := ?_) #[true, true, true, true, true, false, false, false, false, false, false, false, false, false, false, false, false, false, false, false, false, false, false, false] rfl rfl (by kernel_rfl) (fun _ _ _ h => h) (Or.inl ⟨by rfl, ?_⟩) ?_ ?_
  rotate_left
  · intro w'
    go_simp
    with_reducible rfl
  rotate_left
  · simp only [Act.put, List.setIfInBounds_toArray, List.set_cons_zero, List.set_cons_succ, i64_w, i32_w]
    rfl
  refine pure_ (i := 5) (N := some 27) (v := ?_) (a' := ?_) #[true, true, true, true, true, true, false, false, false, false, false, false, false, false, false, false, false, false, false, false, false, false, false, false] rfl rfl (by kernel_rfl) (fun _ _ _ h => h) (Or.inl ⟨by rfl, ?_⟩) ?_ ?_
  rotate_left
  · intro w'
    go_simp
    with_reducible rfl
  rotate_left
  · simp only [Act.put, List.setIfInBounds_toArray, List.set_cons_zero, List.set_cons_succ, i64_w, i32_w]
    rfl
  refine pure_ (i := 6) (N := some 28) (v := ?_) (a' := ?_) #[true, true, true, true, true, true, true, false, false, false, false, false, false, false, false, false, false, false, false, false, false, false, false, false] rfl rfl (by kernel_rfl) (fun _ _ _ h => h) (Or.inl ⟨by rfl, ?_⟩) ?_ ?_
  rotate_left
  · intro w'
    go_simp
    with_reducible rfl
  rotate_left
  · simp only [Act.put, List.setIfInBounds_toArray, List.set_cons_zero, List.set_cons_succ, i64_w, i32_w]
    rfl
  refine pure_ (i := 7) (N := some 29) (v := ?_) (a' := ?_) #[true, true, true, true, true, true, true, true, false, false, false, false, false, false, false, false, false, false, false, false, false, false, false, false] rfl rfl (by kernel_rfl) (fun _ _ _ h => h) (Or.inl ⟨by rfl, ?_⟩) ?_ ?_
  rotate_left
  · intro w'
    go_simp
    with_reducible rfl
  rotate_left
  · simp only [Act.put, List.setIfInBounds_toArray, List.set_cons_zero, List.set_cons_succ, i64_w, i32_w]
    rfl
  refine pure_ (i := 8) (N := some 30) (v := ?_) (a' := ?_) #[true, true, true, true, true, true, true, true, true, false, false, false, false, false, false, false, false, false, false, false, false, false, false, false] rfl rfl (by kernel_rfl) (fun _ _ _ h => h) (Or.inl ⟨by rfl, ?_⟩) ?_ ?_
  rotate_left
  · intro w'
    go_simp
    with_reducible rfl
  rotate_left
  · simp only [Act.put, List.setIfInBounds_toArray, List.set_cons_zero, List.set_cons_succ, i64_w, i32_w]
    rfl
  refine take_ (i := 9) (N := some 31) (v := ?_) (a' := ?_) #[true, true, true, true, true, true, true, true, true, true, false, false, false, false, false, false, false, false, false, false, false, false, false, false] rfl rfl (by kernel_rfl) (fun _ _ _ h => h) (Or.inl ⟨by rfl, ?_⟩) hHeld ?_ ?_
  rotate_left
  · intro w' s0
    refine (load_yields rfl rfl s0).trans ?_
    with_reducible rfl
  rotate_left
  · simp only [Act.put, List.setIfInBounds_toArray, List.set_cons_zero, List.set_cons_succ, i64_w, i32_w]
    rfl
  refine take_ (i := 12) (N := some 34) (v := ?_) (a' := ?_) #[true, true, true, true, true, true, true, true, true, true, false, false, true, false, false, false, false, false, false, false, false, false, false, false] rfl rfl (by kernel_rfl) (fun _ _ _ h => h) (Or.inl ⟨by rfl, ?_⟩) hHeld ?_ ?_
  rotate_left
  · intro w' s0
    refine (load_yields rfl rfl s0).trans ?_
    with_reducible rfl
  rotate_left
  · simp only [Act.put, List.setIfInBounds_toArray, List.set_cons_zero, List.set_cons_succ, i64_w, i32_w]
    rfl
  refine one_ (i := 10) (N := some 32) #[true, true, true, true, true, true, true, true, true, true, true, false, true, false, false, false, false, false, false, false, false, false, false, false] rfl rfl (by kernel_rfl) (by decide) (fun K hK => ?_)
  refine goes_ Try.func31 (by kernel_rfl) rfl #[.pointer (some ⟨g, 0, none⟩), .agg (cellsOf .u8 (ib b))] (by rfl) rfl rfl (by simp only [List.map_toArray, List.map_cons, List.map_nil]; rfl) ?_
  have M2 := Aside0.mk (Mem.drew M2.out)
  have M3 := Aside0.mk (Mem.drew M3.out)
  have HX := Aside0.mk (HX.out.below (below_drew (Below.refl _ _)))
  have HC := Aside0.mk (Ch.step HC.out (below_drew (Below.refl _ _)))
  with_reducible refine (CB1.out g bx _ HX.out.all).mono ?_
  rintro e w51 ⟨rfl, hx51, hc51⟩
  refine ⟨_, rfl, ?_⟩
  have M2 := Aside0.mk (mem_ch M2.out hc51 NE2.out)
  have M3 := Aside0.mk (mem_ch M3.out hc51 NE3.out)
  have HX := Aside0.mk (HX.out.ch hc51 hx51.box)
  have HC := Aside0.mk (HC.out.trans hc51)
  clear hc51 hx51
  refine hK.out _ _ ((mem_loads16 M2.out LB.out)) (fun hHeld => ?_)
  clear hK K
  refine norm_ (a' := ?_) ?_ ?_
  rotate_left
  · show Act.put _ (some 32) _ = _
    simp only [Act.put, List.setIfInBounds_toArray, List.set_cons_zero, List.set_cons_succ, i64_w, i32_w]
    rfl
  refine one_ (i := 11) (N := some 33) #[true, true, true, true, true, true, true, true, true, true, true, true, true, false, false, false, false, false, false, false, false, false, false, false] rfl rfl (by kernel_rfl) (by decide) (fun K hK => ?_)
  refine goes_ Try.func32 (by kernel_rfl) rfl #[.pointer (some ⟨g, 0, none⟩), .agg (cellsOf .u8 (ib eb))] (by rfl) rfl rfl (by simp only [List.map_toArray, List.map_cons, List.map_nil]; rfl) ?_
  with_reducible refine (CU1.out g bx _ HX.out.all).mono ?_
  rintro e w52 ⟨rfl, hx52, hc52⟩
  refine ⟨_, rfl, ?_⟩
  have M2 := Aside0.mk (mem_ch M2.out hc52 NE2.out)
  have M3 := Aside0.mk (mem_ch M3.out hc52 NE3.out)
  have HX := Aside0.mk (HX.out.ch hc52 hx52.box)
  have HC := Aside0.mk (HC.out.trans hc52)
  clear hc52 hx52
  refine hK.out _ _ ((mem_loads16 M2.out LB.out)) (fun hHeld => ?_)
  clear hK K
  refine norm_ (a' := ?_) ?_ ?_
  rotate_left
  · show Act.put _ (some 33) _ = _
    simp only [Act.put, List.setIfInBounds_toArray, List.set_cons_zero, List.set_cons_succ, i64_w, i32_w]
    rfl
  refine pure_ (i := 13) (N := some 35) (v := ?_) (a' := ?_) #[true, true, true, true, true, true, true, true, true, true, true, true, true, true, false, false, false, false, false, false, false, false, false, false] rfl rfl (by kernel_rfl) (fun _ _ _ h => h) (Or.inl ⟨by rfl, ?_⟩) ?_ ?_
  rotate_left
  · intro w'
    refine (eql_yields rfl rfl rfl guard16 (EN.out w')).trans ?_
    with_reducible rfl
  rotate_left
  · simp only [Act.put, List.setIfInBounds_toArray, List.set_cons_zero, List.set_cons_succ, i64_w, i32_w]
    rfl
  refine pure_ (i := 14) (N := some 36) (v := ?_) (a' := ?_) #[true, true, true, true, true, true, true, true, true, true, true, true, true, true, true, false, false, false, false, false, false, false, false, false] rfl rfl (by kernel_rfl) (fun _ _ _ h => h) (Or.inl ⟨by rfl, ?_⟩) ?_ ?_
  rotate_left
  · intro w'
    go_simp
    with_reducible rfl
  rotate_left
  · simp only [Act.put, List.setIfInBounds_toArray, List.set_cons_zero, List.set_cons_succ, i64_w, i32_w]
    rfl
  refine pure_ (i := 15) (N := some 37) (v := ?_) (a' := ?_) #[true, true, true, true, true, true, true, true, true, true, true, true, true, true, true, true, false, false, false, false, false, false, false, false] rfl rfl (by kernel_rfl) (fun _ _ _ h => h) (Or.inl ⟨by rfl, ?_⟩) ?_ ?_
  rotate_left
  · intro w'
    go_simp
    with_reducible rfl
  rotate_left
  · simp only [Act.put, List.setIfInBounds_toArray, List.set_cons_zero, List.set_cons_succ, i64_w, i32_w]
    rfl
  refine pure_ (i := 16) (N := some 38) (v := ?_) (a' := ?_) #[true, true, true, true, true, true, true, true, true, true, true, true, true, true, true, true, true, false, false, false, false, false, false, false] rfl rfl (by kernel_rfl) (fun _ _ _ h => h) (Or.inl ⟨by rfl, ?_⟩) ?_ ?_
  rotate_left
  · intro w'
    go_simp
    with_reducible rfl
  rotate_left
  · simp only [Act.put, List.setIfInBounds_toArray, List.set_cons_zero, List.set_cons_succ, i64_w, i32_w]
    rfl
  refine pure_ (i := 17) (N := some 39) (v := ?_) (a' := ?_) #[true, true, true, true, true, true, true, true, true, true, true, true, true, true, true, true, true, true, false, false, false, false, false, false] rfl rfl (by kernel_rfl) (fun _ _ _ h => h) (Or.inl ⟨by rfl, ?_⟩) ?_ ?_
  rotate_left
  · intro w'
    go_simp
    with_reducible rfl
  rotate_left
  · simp only [Act.put, List.setIfInBounds_toArray, List.set_cons_zero, List.set_cons_succ, i64_w, i32_w]
    rfl
  refine take_ (i := 18) (N := some 40) (v := ?_) (a' := ?_) #[true, true, true, true, true, true, true, true, true, true, true, true, true, true, true, true, true, true, true, false, false, false, false, false] rfl rfl (by kernel_rfl) (fun _ _ _ h => h) (Or.inl ⟨by rfl, ?_⟩) hHeld ?_ ?_
  rotate_left
  · intro w' s0
    refine (load_yields rfl rfl s0).trans ?_
    with_reducible rfl
  rotate_left
  · simp only [Act.put, List.setIfInBounds_toArray, List.set_cons_zero, List.set_cons_succ, i64_w, i32_w]
    rfl
  refine take_ (i := 21) (N := some 43) (v := ?_) (a' := ?_) #[true, true, true, true, true, true, true, true, true, true, true, true, true, true, true, true, true, true, true, false, false, true, false, false] rfl rfl (by kernel_rfl) (fun _ _ _ h => h) (Or.inl ⟨by rfl, ?_⟩) hHeld ?_ ?_
  rotate_left
  · intro w' s0
    refine (load_yields rfl rfl s0).trans ?_
    with_reducible rfl
  rotate_left
  · simp only [Act.put, List.setIfInBounds_toArray, List.set_cons_zero, List.set_cons_succ, i64_w, i32_w]
    rfl
  refine one_ (i := 19) (N := some 41) #[true, true, true, true, true, true, true, true, true, true, true, true, true, true, true, true, true, true, true, true, false, true, false, false] rfl rfl (by kernel_rfl) (by decide) (fun K hK => ?_)
  refine goes_ Try.func32 (by kernel_rfl) rfl #[.pointer (some ⟨g, 0, none⟩), .agg (cellsOf .u8 (ib b))] (by rfl) rfl rfl (by simp only [List.map_toArray, List.map_cons, List.map_nil]; rfl) ?_
  with_reducible refine (CU2.out g bx _ HX.out.all).mono ?_
  rintro e w53 ⟨rfl, hx53, hc53⟩
  refine ⟨_, rfl, ?_⟩
  have M2 := Aside0.mk (mem_ch M2.out hc53 NE2.out)
  have M3 := Aside0.mk (mem_ch M3.out hc53 NE3.out)
  have HX := Aside0.mk (HX.out.ch hc53 hx53.box)
  have HC := Aside0.mk (HC.out.trans hc53)
  clear hc53 hx53
  refine hK.out _ _ ((mem_loads16 M2.out LB.out)) (fun hHeld => ?_)
  clear hK K
  refine norm_ (a' := ?_) ?_ ?_
  rotate_left
  · show Act.put _ (some 41) _ = _
    simp only [Act.put, List.setIfInBounds_toArray, List.set_cons_zero, List.set_cons_succ, i64_w, i32_w]
    rfl
  refine one_ (i := 20) (N := some 42) #[true, true, true, true, true, true, true, true, true, true, true, true, true, true, true, true, true, true, true, true, true, true, false, false] rfl rfl (by kernel_rfl) (by decide) (fun K hK => ?_)
  refine goes_ Try.func31 (by kernel_rfl) rfl #[.pointer (some ⟨g, 0, none⟩), .agg (cellsOf .u8 (ib db))] (by rfl) rfl rfl (by simp only [List.map_toArray, List.map_cons, List.map_nil]; rfl) ?_
  with_reducible refine (CB2.out g bx _ HX.out.all).mono ?_
  rintro e w54 ⟨rfl, hx54, hc54⟩
  refine ⟨_, rfl, ?_⟩
  have M2 := Aside0.mk (mem_ch M2.out hc54 NE2.out)
  have M3 := Aside0.mk (mem_ch M3.out hc54 NE3.out)
  have HX := Aside0.mk (HX.out.ch hc54 hx54.box)
  have HC := Aside0.mk (HC.out.trans hc54)
  clear hc54 hx54
  refine hK.out _ _ ((mem_loads16 M2.out LB.out)) (fun hHeld => ?_)
  clear hK K
  refine norm_ (a' := ?_) ?_ ?_
  rotate_left
  · show Act.put _ (some 42) _ = _
    simp only [Act.put, List.setIfInBounds_toArray, List.set_cons_zero, List.set_cons_succ, i64_w, i32_w]
    rfl
  refine pure_ (i := 22) (N := some 44) (v := ?_) (a' := ?_) #[true, true, true, true, true, true, true, true, true, true, true, true, true, true, true, true, true, true, true, true, true, true, true, false] rfl rfl (by kernel_rfl) (fun _ _ _ h => h) (Or.inl ⟨by rfl, ?_⟩) ?_ ?_
  rotate_left
  · intro w'
    refine (eql_yields rfl rfl rfl guard16 (EN.out w')).trans ?_
    with_reducible rfl
  rotate_left
  · simp only [Act.put, List.setIfInBounds_toArray, List.set_cons_zero, List.set_cons_succ, i64_w, i32_w]
    rfl
  refine pure_ (i := 23) (N := some 45) (v := ?_) (a' := ?_) #[true, true, true, true, true, true, true, true, true, true, true, true, true, true, true, true, true, true, true, true, true, true, true, true] rfl rfl (by kernel_rfl) (fun _ _ _ h => h) (Or.inl ⟨by rfl, ?_⟩) ?_ ?_
  rotate_left
  · intro w'
    go_simp
    with_reducible rfl
  rotate_left
  · simp only [Act.put, List.setIfInBounds_toArray, List.set_cons_zero, List.set_cons_succ, i64_w, i32_w]
    rfl
  refine done_ (by kernel_rfl) ?_
  clear hl0
  go_wp2_with (first
    | ((with_reducible refine gate_dst (N := 46) rfl ?_); refine Mem.load M2.out rfl 31 (.tmp 6) rfl rfl Try.underlying31 (by rw [LB.out]; exact info16) ?_)
    | (go_at_call 24; (with_reducible refine (CC1.out _).mono ?_); rintro e w2 ⟨rfl, hb2⟩; have M2 := Aside0.mk (Mem.below M2.out hb2); have M3 := Aside0.mk (Mem.below M3.out hb2); have HX := Aside0.mk (HX.out.below hb2); have HC := Aside0.mk (Ch.step HC.out hb2); clear hb2)
    | (go_at_call 24; (with_reducible refine (CC2.out _).mono ?_); rintro e w3 ⟨rfl, hb3⟩; have M2 := Aside0.mk (Mem.below M2.out hb3); have M3 := Aside0.mk (Mem.below M3.out hb3); have HX := Aside0.mk (HX.out.below hb3); have HC := Aside0.mk (Ch.step HC.out hb3); clear hb3)
    | (go_at_call 24; (with_reducible refine (CC3.out _).mono ?_); rintro e w4 ⟨rfl, hb4⟩; have M2 := Aside0.mk (Mem.below M2.out hb4); have M3 := Aside0.mk (Mem.below M3.out hb4); have HX := Aside0.mk (HX.out.below hb4); have HC := Aside0.mk (Ch.step HC.out hb4); clear hb4; have hs4 := HC.out.size; have lt2 := M2.out.lt; have lt3 := M3.out.lt; have M2 := Aside0.mk (Mem.row (Mem.alloc M2.out (.cells (cellsOf .u8 z16) 31)) (g' := w4.heap.size) (by omega) (cellsOf .u8 (ib bc))); have M3 := Aside0.mk (Mem.row (Mem.alloc M3.out (.cells (cellsOf .u8 z16) 31)) (g' := w4.heap.size) (by omega) (cellsOf .u8 (ib bc))); have HX := Aside0.mk ((HX.out.below (below_alloc (Below.refl _ _) (.cells (cellsOf .u8 z16) 31))).row (b := w4.heap.size) hs4 (cellsOf .u8 (ib bc))); have HC := Aside0.mk (Ch.row0 (Ch.step HC.out (below_alloc (Below.refl _ _) (.cells (cellsOf .u8 z16) 31))) (b := w4.heap.size) hs4 (cellsOf .u8 (ib bc))); have NE4 := Aside0.mk (show w4.heap.size ≠ bx by have := HXL.out; omega); have Z4 := Aside0.mk (Mem.new .u8 w4 31 z16); have M4 := Aside0.mk (Mem.put Z4.out (ib bc)); clear hs4 lt2 lt3)
    | ((with_reducible refine gate_store (t := 31) (p := 11) rfl ?_); refine Mem.store (l' := (ib bc)) Z4.out rfl 31 (.tmp 11) (.tmp 49) rfl rfl rfl (by first | exact info16 | (rw [LC.out]; exact info16)) (by first | rfl | (rw [LC.out]; rfl) | rw [z16_length, LC.out]) ?_))
  clear Z4
  have hl0 := mem_loads16 (Mem.drew M2.out) LB.out
  have hl1 := mem_loads16 (Mem.drew M4.out) LC.out
  refine start_ (n := 17) (S := fun w' => (loadVar 31 ⟨w.heap.size + 1, 0, none⟩).run Try.prog w' = .ok (.agg (cellsOf .u8 (ib b))) w' ∧ (loadVar 31 ⟨w4.heap.size, 0, none⟩).run Try.prog w' = .ok (.agg (cellsOf .u8 (ib bc))) w') (ds := []) #[false, false, false, false, false, false, false, false, false, false, false, false, false, false, false, false, false] (by kernel_rfl) rfl rfl ⟨hl0, hl1⟩ (fun hHeld => ?_)
  refine take_ (i := 0) (N := some 50) (v := ?_) (a' := ?_) #[true, false, false, false, false, false, false, false, false, false, false, false, false, false, false, false, false] rfl rfl (by kernel_rfl) (fun _ _ _ h => h) (Or.inl ⟨by rfl, ?_⟩) hHeld ?_ ?_
  rotate_left
  · rintro w' ⟨s0, s1⟩
    refine (load_yields rfl rfl s0).trans ?_
    with_reducible rfl
  rotate_left
  · simp only [Act.put, List.setIfInBounds_toArray, List.set_cons_zero, List.set_cons_succ, i64_w, i32_w]
    rfl
  refine take_ (i := 2) (N := some 52) (v := ?_) (a' := ?_) #[true, false, true, false, false, false, false, false, false, false, false, false, false, false, false, false, false] rfl rfl (by kernel_rfl) (fun _ _ _ h => h) (Or.inl ⟨by rfl, ?_⟩) hHeld ?_ ?_
  rotate_left
  · rintro w' ⟨s0, s1⟩
    refine (load_yields rfl rfl s1).trans ?_
    with_reducible rfl
  rotate_left
  · simp only [Act.put, List.setIfInBounds_toArray, List.set_cons_zero, List.set_cons_succ, i64_w, i32_w]
    rfl
  refine one_ (i := 1) (N := some 51) #[true, true, true, false, false, false, false, false, false, false, false, false, false, false, false, false, false] rfl rfl (by kernel_rfl) (by decide) (fun K hK => ?_)
  refine goes_ Try.func28 (by kernel_rfl) rfl #[.agg (cellsOf .u8 (ib b))] (by rfl) rfl rfl (by simp only [List.map_toArray, List.map_cons, List.map_nil]; rfl) ?_
  have M2 := Aside0.mk (Mem.drew M2.out)
  have M4 := Aside0.mk (Mem.drew M4.out)
  have M3 := Aside0.mk (Mem.drew M3.out)
  have HX := Aside0.mk (HX.out.below (below_drew (Below.refl _ _)))
  have HC := Aside0.mk (Ch.step HC.out (below_drew (Below.refl _ _)))
  with_reducible refine (CBK.out _).mono ?_
  rintro e w61 ⟨rfl, hb61⟩
  refine ⟨_, rfl, ?_⟩
  have M2 := Aside0.mk (Mem.below M2.out hb61)
  have M4 := Aside0.mk (Mem.below M4.out hb61)
  have M3 := Aside0.mk (Mem.below M3.out hb61)
  have HX := Aside0.mk (HX.out.below hb61)
  have HC := Aside0.mk (Ch.step HC.out hb61)
  clear hb61
  refine hK.out _ _ ⟨(mem_loads16 M2.out LB.out), (mem_loads16 M4.out LC.out)⟩ (fun hHeld => ?_)
  clear hK K
  refine norm_ (a' := ?_) ?_ ?_
  rotate_left
  · show Act.put _ (some 51) _ = _
    simp only [Act.put, List.setIfInBounds_toArray, List.set_cons_zero, List.set_cons_succ, i64_w, i32_w]
    rfl
  refine pure_ (i := 3) (N := some 53) (v := ?_) (a' := ?_) #[true, true, true, true, false, false, false, false, false, false, false, false, false, false, false, false, false] rfl rfl (by kernel_rfl) (fun _ _ _ h => h) (Or.inl ⟨by rfl, ?_⟩) ?_ ?_
  rotate_left
  · intro w'
    refine (eql_yields rfl rfl rfl guard16 (EN1.out w')).trans ?_
    with_reducible rfl
  rotate_left
  · simp only [Act.put, List.setIfInBounds_toArray, List.set_cons_zero, List.set_cons_succ, i64_w, i32_w]
    rfl
  refine pure_ (i := 4) (N := some 54) (v := ?_) (a' := ?_) #[true, true, true, true, true, false, false, false, false, false, false, false, false, false, false, false, false] rfl rfl (by kernel_rfl) (fun _ _ _ h => h) (Or.inl ⟨by rfl, ?_⟩) ?_ ?_
  rotate_left
  · intro w'
    go_simp
    with_reducible rfl
  rotate_left
  · simp only [Act.put, List.setIfInBounds_toArray, List.set_cons_zero, List.set_cons_succ, i64_w, i32_w]
    rfl
  refine take_ (i := 5) (N := some 55) (v := ?_) (a' := ?_) #[true, true, true, true, true, true, false, false, false, false, false, false, false, false, false, false, false] rfl rfl (by kernel_rfl) (fun _ _ _ h => h) (Or.inl ⟨by rfl, ?_⟩) hHeld ?_ ?_
  rotate_left
  · rintro w' ⟨s0, s1⟩
    refine (load_yields rfl rfl s1).trans ?_
    with_reducible rfl
  rotate_left
  · simp only [Act.put, List.setIfInBounds_toArray, List.set_cons_zero, List.set_cons_succ, i64_w, i32_w]
    rfl
  refine take_ (i := 7) (N := some 57) (v := ?_) (a' := ?_) #[true, true, true, true, true, true, false, true, false, false, false, false, false, false, false, false, false] rfl rfl (by kernel_rfl) (fun _ _ _ h => h) (Or.inl ⟨by rfl, ?_⟩) hHeld ?_ ?_
  rotate_left
  · rintro w' ⟨s0, s1⟩
    refine (load_yields rfl rfl s0).trans ?_
    with_reducible rfl
  rotate_left
  · simp only [Act.put, List.setIfInBounds_toArray, List.set_cons_zero, List.set_cons_succ, i64_w, i32_w]
    rfl
  refine one_ (i := 6) (N := some 56) #[true, true, true, true, true, true, true, true, false, false, false, false, false, false, false, false, false] rfl rfl (by kernel_rfl) (by decide) (fun K hK => ?_)
  refine goes_ Try.func24 (by kernel_rfl) rfl #[.agg (cellsOf .u8 (ib bc))] (by rfl) rfl rfl (by simp only [List.map_toArray, List.map_cons, List.map_nil]; rfl) ?_
  with_reducible refine (CC4.out _).mono ?_
  rintro e w62 ⟨rfl, hb62⟩
  refine ⟨_, rfl, ?_⟩
  have M2 := Aside0.mk (Mem.below M2.out hb62)
  have M4 := Aside0.mk (Mem.below M4.out hb62)
  have M3 := Aside0.mk (Mem.below M3.out hb62)
  have HX := Aside0.mk (HX.out.below hb62)
  have HC := Aside0.mk (Ch.step HC.out hb62)
  clear hb62
  refine hK.out _ _ ⟨(mem_loads16 M2.out LB.out), (mem_loads16 M4.out LC.out)⟩ (fun hHeld => ?_)
  clear hK K
  refine norm_ (a' := ?_) ?_ ?_
  rotate_left
  · show Act.put _ (some 56) _ = _
    simp only [Act.put, List.setIfInBounds_toArray, List.set_cons_zero, List.set_cons_succ, i64_w, i32_w]
    rfl
  refine pure_ (i := 8) (N := some 58) (v := ?_) (a' := ?_) #[true, true, true, true, true, true, true, true, true, false, false, false, false, false, false, false, false] rfl rfl (by kernel_rfl) (fun _ _ _ h => h) (Or.inl ⟨by rfl, ?_⟩) ?_ ?_
  rotate_left
  · intro w'
    refine (eql_yields rfl rfl rfl guard16 (EN.out w')).trans ?_
    with_reducible rfl
  rotate_left
  · simp only [Act.put, List.setIfInBounds_toArray, List.set_cons_zero, List.set_cons_succ, i64_w, i32_w]
    rfl
  refine pure_ (i := 9) (N := some 59) (v := ?_) (a' := ?_) #[true, true, true, true, true, true, true, true, true, true, false, false, false, false, false, false, false] rfl rfl (by kernel_rfl) (fun _ _ _ h => h) (Or.inl ⟨by rfl, ?_⟩) ?_ ?_
  rotate_left
  · intro w'
    go_simp
    with_reducible rfl
  rotate_left
  · simp only [Act.put, List.setIfInBounds_toArray, List.set_cons_zero, List.set_cons_succ, i64_w, i32_w]
    rfl
  refine pure_ (i := 10) (N := some 60) (v := ?_) (a' := ?_) #[true, true, true, true, true, true, true, true, true, true, true, false, false, false, false, false, false] rfl rfl (by kernel_rfl) (fun _ _ _ h => h) (Or.inl ⟨by rfl, ?_⟩) ?_ ?_
  rotate_left
  · intro w'
    go_simp
    with_reducible rfl
  rotate_left
  · simp only [Act.put, List.setIfInBounds_toArray, List.set_cons_zero, List.set_cons_succ, i64_w, i32_w]
    rfl
  refine take_ (i := 11) (N := some 61) (v := ?_) (a' := ?_) #[true, true, true, true, true, true, true, true, true, true, true, true, false, false, false, false, false] rfl rfl (by kernel_rfl) (fun _ _ _ h => h) (Or.inl ⟨by rfl, ?_⟩) hHeld ?_ ?_
  rotate_left
  · rintro w' ⟨s0, s1⟩
    refine (load_yields rfl rfl s0).trans ?_
    with_reducible rfl
  rotate_left
  · simp only [Act.put, List.setIfInBounds_toArray, List.set_cons_zero, List.set_cons_succ, i64_w, i32_w]
    rfl
  refine take_ (i := 14) (N := some 64) (v := ?_) (a' := ?_) #[true, true, true, true, true, true, true, true, true, true, true, true, false, false, true, false, false] rfl rfl (by kernel_rfl) (fun _ _ _ h => h) (Or.inl ⟨by rfl, ?_⟩) hHeld ?_ ?_
  rotate_left
  · rintro w' ⟨s0, s1⟩
    refine (load_yields rfl rfl s0).trans ?_
    with_reducible rfl
  rotate_left
  · simp only [Act.put, List.setIfInBounds_toArray, List.set_cons_zero, List.set_cons_succ, i64_w, i32_w]
    rfl
  refine one_ (i := 12) (N := some 62) #[true, true, true, true, true, true, true, true, true, true, true, true, true, false, true, false, false] rfl rfl (by kernel_rfl) (by decide) (fun K hK => ?_)
  refine goes_ Try.func22 (by kernel_rfl) rfl #[.agg (cellsOf .u8 (ib b))] (by rfl) rfl rfl (by simp only [List.map_toArray, List.map_cons, List.map_nil]; rfl) ?_
  with_reducible refine (CR.out _).mono ?_
  rintro e w63 ⟨rfl, hb63⟩
  refine ⟨_, rfl, ?_⟩
  have M2 := Aside0.mk (Mem.below M2.out hb63)
  have M4 := Aside0.mk (Mem.below M4.out hb63)
  have M3 := Aside0.mk (Mem.below M3.out hb63)
  have HX := Aside0.mk (HX.out.below hb63)
  have HC := Aside0.mk (Ch.step HC.out hb63)
  clear hb63
  refine hK.out _ _ ⟨(mem_loads16 M2.out LB.out), (mem_loads16 M4.out LC.out)⟩ (fun hHeld => ?_)
  clear hK K
  refine norm_ (a' := ?_) ?_ ?_
  rotate_left
  · show Act.put _ (some 62) _ = _
    simp only [Act.put, List.setIfInBounds_toArray, List.set_cons_zero, List.set_cons_succ, i64_w, i32_w]
    rfl
  refine one_ (i := 13) (N := some 63) #[true, true, true, true, true, true, true, true, true, true, true, true, true, true, true, false, false] rfl rfl (by kernel_rfl) (by decide) (fun K hK => ?_)
  refine goes_ Try.func26 (by kernel_rfl) rfl #[.agg (cellsOf .u8 (ib rb))] (by rfl) rfl rfl (by simp only [List.map_toArray, List.map_cons, List.map_nil]; rfl) ?_
  with_reducible refine (CBR.out _).mono ?_
  rintro e w64 ⟨rfl, hb64⟩
  refine ⟨_, rfl, ?_⟩
  have M2 := Aside0.mk (Mem.below M2.out hb64)
  have M4 := Aside0.mk (Mem.below M4.out hb64)
  have M3 := Aside0.mk (Mem.below M3.out hb64)
  have HX := Aside0.mk (HX.out.below hb64)
  have HC := Aside0.mk (Ch.step HC.out hb64)
  clear hb64
  refine hK.out _ _ ⟨(mem_loads16 M2.out LB.out), (mem_loads16 M4.out LC.out)⟩ (fun hHeld => ?_)
  clear hK K
  refine norm_ (a' := ?_) ?_ ?_
  rotate_left
  · show Act.put _ (some 63) _ = _
    simp only [Act.put, List.setIfInBounds_toArray, List.set_cons_zero, List.set_cons_succ, i64_w, i32_w]
    rfl
  refine pure_ (i := 15) (N := some 65) (v := ?_) (a' := ?_) #[true, true, true, true, true, true, true, true, true, true, true, true, true, true, true, true, false] rfl rfl (by kernel_rfl) (fun _ _ _ h => h) (Or.inl ⟨by rfl, ?_⟩) ?_ ?_
  rotate_left
  · intro w'
    refine (eql_yields rfl rfl rfl guard16 (EN.out w')).trans ?_
    with_reducible rfl
  rotate_left
  · simp only [Act.put, List.setIfInBounds_toArray, List.set_cons_zero, List.set_cons_succ, i64_w, i32_w]
    rfl
  refine pure_ (i := 16) (N := some 66) (v := ?_) (a' := ?_) #[true, true, true, true, true, true, true, true, true, true, true, true, true, true, true, true, true] rfl rfl (by kernel_rfl) (fun _ _ _ h => h) (Or.inl ⟨by rfl, ?_⟩) ?_ ?_
  rotate_left
  · intro w'
    go_simp
    with_reducible rfl
  rotate_left
  · simp only [Act.put, List.setIfInBounds_toArray, List.set_cons_zero, List.set_cons_succ, i64_w, i32_w]
    rfl
  refine done_ (by kernel_rfl) ?_
  clear hl0 hl1 M4
  go_wp2
  have hl0 := mem_loads16 (Mem.drew M2.out) LB.out
  have hl1 := mem_loads16 (Mem.drew M3.out) LO.out
  refine start_ (n := 28) (S := fun w' => (loadVar 31 ⟨w.heap.size + 1, 0, none⟩).run Try.prog w' = .ok (.agg (cellsOf .u8 (ib b))) w' ∧ (loadVar 31 ⟨w.heap.size + 2, 0, none⟩).run Try.prog w' = .ok (.agg (cellsOf .u8 (ib o))) w') (ds := []) #[false, false, false, false, false, false, false, false, false, false, false, false, false, false, false, false, false, false, false, false, false, false, false, false, false, false, false, false] (by kernel_rfl) rfl rfl ⟨hl0, hl1⟩ (fun hHeld => ?_)
  refine pure_ (i := 1) (N := some 68) (v := ?_) (a' := ?_) #[false, true, false, false, false, false, false, false, false, false, false, false, false, false, false, false, false, false, false, false, false, false, false, false, false, false, false, false] rfl rfl (by kernel_rfl) (fun _ _ _ h => h) (Or.inl ⟨by rfl, ?_⟩) ?_ ?_
  rotate_left
  · intro w'
    go_simp
    with_reducible rfl
  rotate_left
  · simp only [Act.put, List.setIfInBounds_toArray, List.set_cons_zero, List.set_cons_succ, i64_w, i32_w]
    rfl
  refine take_ (i := 0) (N := some 67) (v := ?_) (a' := ?_) #[true, true, false, false, false, false, false, false, false, false, false, false, false, false, false, false, false, false, false, false, false, false, false, false, false, false, false, false] rfl rfl (by kernel_rfl) (fun _ _ _ h => h) (Or.inl ⟨by rfl, ?_⟩) hHeld ?_ ?_
  rotate_left
  · rintro w' ⟨s0, s1⟩
    refine (load_yields rfl rfl s0).trans ?_
    with_reducible rfl
  rotate_left
  · simp only [Act.put, List.setIfInBounds_toArray, List.set_cons_zero, List.set_cons_succ, i64_w, i32_w]
    rfl
  refine take_ (i := 4) (N := some 71) (v := ?_) (a' := ?_) #[true, true, false, false, true, false, false, false, false, false, false, false, false, false, false, false, false, false, false, false, false, false, false, false, false, false, false, false] rfl rfl (by kernel_rfl) (fun _ _ _ h => h) (Or.inl ⟨by rfl, ?_⟩) hHeld ?_ ?_
  rotate_left
  · rintro w' ⟨s0, s1⟩
    refine (load_yields rfl rfl s0).trans ?_
    with_reducible rfl
  rotate_left
  · simp only [Act.put, List.setIfInBounds_toArray, List.set_cons_zero, List.set_cons_succ, i64_w, i32_w]
    rfl
  refine take_ (i := 6) (N := some 73) (v := ?_) (a' := ?_) #[true, true, false, false, true, false, true, false, false, false, false, false, false, false, false, false, false, false, false, false, false, false, false, false, false, false, false, false] rfl rfl (by kernel_rfl) (fun _ _ _ h => h) (Or.inl ⟨by rfl, ?_⟩) hHeld ?_ ?_
  rotate_left
  · rintro w' ⟨s0, s1⟩
    refine (load_yields rfl rfl s1).trans ?_
    with_reducible rfl
  rotate_left
  · simp only [Act.put, List.setIfInBounds_toArray, List.set_cons_zero, List.set_cons_succ, i64_w, i32_w]
    rfl
  refine one_ (i := 2) (N := some 69) #[true, true, true, false, true, false, true, false, false, false, false, false, false, false, false, false, false, false, false, false, false, false, false, false, false, false, false, false] rfl rfl (by kernel_rfl) (by decide) (fun K hK => ?_)
  refine goes_ Try.func36 (by kernel_rfl) rfl #[.agg (cellsOf .u8 (ib b)), .slice (some ⟨w.heap.size + 1 + 1, 0, none⟩) 16 16] (by rfl) rfl rfl (by simp only [List.map_toArray, List.map_cons, List.map_nil]; rfl) ?_
  have M2 := Aside0.mk (Mem.drew M2.out)
  have M3 := Aside0.mk (Mem.drew M3.out)
  have HX := Aside0.mk (HX.out.below (below_drew (Below.refl _ _)))
  have HC := Aside0.mk (Ch.step HC.out (below_drew (Below.refl _ _)))
  with_reducible refine (CA1.out (some ⟨w.heap.size + 1 + 1, 0, none⟩) _ (mem_C16 M3.out LO.out)).mono ?_
  rintro e w71 ⟨rfl, hb71⟩
  refine ⟨_, rfl, ?_⟩
  have M2 := Aside0.mk (Mem.below M2.out hb71)
  have M3 := Aside0.mk (Mem.below M3.out hb71)
  have HX := Aside0.mk (HX.out.below hb71)
  have HC := Aside0.mk (Ch.step HC.out hb71)
  clear hb71
  refine hK.out _ _ ⟨(mem_loads16 M2.out LB.out), (mem_loads16 M3.out LO.out)⟩ (fun hHeld => ?_)
  clear hK K
  refine norm_ (a' := ?_) ?_ ?_
  rotate_left
  · show Act.put _ (some 69) _ = _
    simp only [Act.put, List.setIfInBounds_toArray, List.set_cons_zero, List.set_cons_succ, i64_w, i32_w]
    rfl
  refine one_ (i := 3) (N := some 70) #[true, true, true, true, true, false, true, false, false, false, false, false, false, false, false, false, false, false, false, false, false, false, false, false, false, false, false, false] rfl rfl (by kernel_rfl) (by decide) (fun K hK => ?_)
  refine goes_ Try.func24 (by kernel_rfl) rfl #[.agg (cellsOf .u8 (ib xo))] (by rfl) rfl rfl (by simp only [List.map_toArray, List.map_cons, List.map_nil]; rfl) ?_
  with_reducible refine (CC5.out _).mono ?_
  rintro e w72 ⟨rfl, hb72⟩
  refine ⟨_, rfl, ?_⟩
  have M2 := Aside0.mk (Mem.below M2.out hb72)
  have M3 := Aside0.mk (Mem.below M3.out hb72)
  have HX := Aside0.mk (HX.out.below hb72)
  have HC := Aside0.mk (Ch.step HC.out hb72)
  clear hb72
  refine hK.out _ _ ⟨(mem_loads16 M2.out LB.out), (mem_loads16 M3.out LO.out)⟩ (fun hHeld => ?_)
  clear hK K
  refine norm_ (a' := ?_) ?_ ?_
  rotate_left
  · show Act.put _ (some 70) _ = _
    simp only [Act.put, List.setIfInBounds_toArray, List.set_cons_zero, List.set_cons_succ, i64_w, i32_w]
    rfl
  refine one_ (i := 5) (N := some 72) #[true, true, true, true, true, true, true, false, false, false, false, false, false, false, false, false, false, false, false, false, false, false, false, false, false, false, false, false] rfl rfl (by kernel_rfl) (by decide) (fun K hK => ?_)
  refine goes_ Try.func24 (by kernel_rfl) rfl #[.agg (cellsOf .u8 (ib b))] (by rfl) rfl rfl (by simp only [List.map_toArray, List.map_cons, List.map_nil]; rfl) ?_
  with_reducible refine (CC1.out _).mono ?_
  rintro e w73 ⟨rfl, hb73⟩
  refine ⟨_, rfl, ?_⟩
  have M2 := Aside0.mk (Mem.below M2.out hb73)
  have M3 := Aside0.mk (Mem.below M3.out hb73)
  have HX := Aside0.mk (HX.out.below hb73)
  have HC := Aside0.mk (Ch.step HC.out hb73)
  clear hb73
  refine hK.out _ _ ⟨(mem_loads16 M2.out LB.out), (mem_loads16 M3.out LO.out)⟩ (fun hHeld => ?_)
  clear hK K
  refine norm_ (a' := ?_) ?_ ?_
  rotate_left
  · show Act.put _ (some 72) _ = _
    simp only [Act.put, List.setIfInBounds_toArray, List.set_cons_zero, List.set_cons_succ, i64_w, i32_w]
    rfl
  refine one_ (i := 7) (N := some 74) #[true, true, true, true, true, true, true, true, false, false, false, false, false, false, false, false, false, false, false, false, false, false, false, false, false, false, false, false] rfl rfl (by kernel_rfl) (by decide) (fun K hK => ?_)
  refine goes_ Try.func24 (by kernel_rfl) rfl #[.agg (cellsOf .u8 (ib o))] (by rfl) rfl rfl (by simp only [List.map_toArray, List.map_cons, List.map_nil]; rfl) ?_
  with_reducible refine (CC6.out _).mono ?_
  rintro e w74 ⟨rfl, hb74⟩
  refine ⟨_, rfl, ?_⟩
  have M2 := Aside0.mk (Mem.below M2.out hb74)
  have M3 := Aside0.mk (Mem.below M3.out hb74)
  have HX := Aside0.mk (HX.out.below hb74)
  have HC := Aside0.mk (Ch.step HC.out hb74)
  clear hb74
  refine hK.out _ _ ⟨(mem_loads16 M2.out LB.out), (mem_loads16 M3.out LO.out)⟩ (fun hHeld => ?_)
  clear hK K
  refine norm_ (a' := ?_) ?_ ?_
  rotate_left
  · show Act.put _ (some 74) _ = _
    simp only [Act.put, List.setIfInBounds_toArray, List.set_cons_zero, List.set_cons_succ, i64_w, i32_w]
    rfl
  refine one_ (i := 8) (N := some 75) #[true, true, true, true, true, true, true, true, true, false, false, false, false, false, false, false, false, false, false, false, false, false, false, false, false, false, false, false] rfl rfl (by kernel_rfl) (by decide) (fun K hK => ?_)
  refine goes_ Try.func37 (by kernel_rfl) rfl #[.agg (cellsOf .u8 (ib co))] (by rfl) rfl rfl (by simp only [List.map_toArray, List.map_cons, List.map_nil]; rfl) ?_
  with_reducible refine (CRW.out _).mono ?_
  rintro e w75 ⟨rfl, hM8, hb75⟩
  refine ⟨_, rfl, ?_⟩
  have M8 := Aside0.mk hM8
  clear hM8
  have M2 := Aside0.mk (Mem.below M2.out hb75)
  have M3 := Aside0.mk (Mem.below M3.out hb75)
  have HX := Aside0.mk (HX.out.below hb75)
  have HC := Aside0.mk (Ch.step HC.out hb75)
  clear hb75
  refine hK.out _ _ ⟨(mem_loads16 M2.out LB.out), (mem_loads16 M3.out LO.out)⟩ (fun hHeld => ?_)
  clear hK K
  refine norm_ (a' := ?_) ?_ ?_
  rotate_left
  · show Act.put _ (some 75) _ = _
    simp only [Act.put, List.setIfInBounds_toArray, List.set_cons_zero, List.set_cons_succ, i64_w, i32_w]
    rfl
  refine one_ (i := 9) (N := some 76) #[true, true, true, true, true, true, true, true, true, true, false, false, false, false, false, false, false, false, false, false, false, false, false, false, false, false, false, false] rfl rfl (by kernel_rfl) (by decide) (fun K hK => ?_)
  refine goes_ Try.func36 (by kernel_rfl) rfl #[.agg (cellsOf .u8 (ib c1)), .slice (some ⟨w74.heap.size, 0, none⟩) 16 16] (by rfl) rfl rfl (by simp only [List.map_toArray, List.map_cons, List.map_nil]; rfl) ?_
  with_reducible refine (CA2.out (some ⟨w74.heap.size, 0, none⟩) _ (mem_C16 M8.out LCO.out)).mono ?_
  rintro e w76 ⟨rfl, hb76⟩
  refine ⟨_, rfl, ?_⟩
  have M2 := Aside0.mk (Mem.below M2.out hb76)
  have M3 := Aside0.mk (Mem.below M3.out hb76)
  have HX := Aside0.mk (HX.out.below hb76)
  have HC := Aside0.mk (Ch.step HC.out hb76)
  clear hb76
  refine hK.out _ _ ⟨(mem_loads16 M2.out LB.out), (mem_loads16 M3.out LO.out)⟩ (fun hHeld => ?_)
  clear hK K
  refine norm_ (a' := ?_) ?_ ?_
  rotate_left
  · show Act.put _ (some 76) _ = _
    simp only [Act.put, List.setIfInBounds_toArray, List.set_cons_zero, List.set_cons_succ, i64_w, i32_w]
    rfl
  refine pure_ (i := 10) (N := some 77) (v := ?_) (a' := ?_) #[true, true, true, true, true, true, true, true, true, true, true, false, false, false, false, false, false, false, false, false, false, false, false, false, false, false, false, false] rfl rfl (by kernel_rfl) (fun _ _ _ h => h) (Or.inl ⟨by rfl, ?_⟩) ?_ ?_
  rotate_left
  · intro w'
    refine (eql_yields rfl rfl rfl guard16 (EQ1.out w')).trans ?_
    with_reducible rfl
  rotate_left
  · simp only [Act.put, List.setIfInBounds_toArray, List.set_cons_zero, List.set_cons_succ, i64_w, i32_w]
    rfl
  refine pure_ (i := 11) (N := some 78) (v := ?_) (a' := ?_) #[true, true, true, true, true, true, true, true, true, true, true, true, false, false, false, false, false, false, false, false, false, false, false, false, false, false, false, false] rfl rfl (by kernel_rfl) (fun _ _ _ h => h) (Or.inl ⟨by rfl, ?_⟩) ?_ ?_
  rotate_left
  · intro w'
    go_simp
    with_reducible rfl
  rotate_left
  · simp only [Act.put, List.setIfInBounds_toArray, List.set_cons_zero, List.set_cons_succ, i64_w, i32_w]
    rfl
  refine pure_ (i := 12) (N := some 79) (v := ?_) (a' := ?_) #[true, true, true, true, true, true, true, true, true, true, true, true, true, false, false, false, false, false, false, false, false, false, false, false, false, false, false, false] rfl rfl (by kernel_rfl) (fun _ _ _ h => h) (Or.inl ⟨by rfl, ?_⟩) ?_ ?_
  rotate_left
  · intro w'
    go_simp
    with_reducible rfl
  rotate_left
  · simp only [Act.put, List.setIfInBounds_toArray, List.set_cons_zero, List.set_cons_succ, i64_w, i32_w]
    rfl
  refine pure_ (i := 15) (N := some 82) (v := ?_) (a' := ?_) #[true, true, true, true, true, true, true, true, true, true, true, true, true, false, false, true, false, false, false, false, false, false, false, false, false, false, false, false] rfl rfl (by kernel_rfl) (fun _ _ _ h => h) (Or.inl ⟨by rfl, ?_⟩) ?_ ?_
  rotate_left
  · intro w'
    go_simp
    with_reducible rfl
  rotate_left
  · simp only [Act.put, List.setIfInBounds_toArray, List.set_cons_zero, List.set_cons_succ, i64_w, i32_w]
    rfl
  refine take_ (i := 13) (N := some 80) (v := ?_) (a' := ?_) #[true, true, true, true, true, true, true, true, true, true, true, true, true, true, false, true, false, false, false, false, false, false, false, false, false, false, false, false] rfl rfl (by kernel_rfl) (fun _ _ _ h => h) (Or.inl ⟨by rfl, ?_⟩) hHeld ?_ ?_
  rotate_left
  · rintro w' ⟨s0, s1⟩
    refine (load_yields rfl rfl s0).trans ?_
    with_reducible rfl
  rotate_left
  · simp only [Act.put, List.setIfInBounds_toArray, List.set_cons_zero, List.set_cons_succ, i64_w, i32_w]
    rfl
  refine take_ (i := 16) (N := some 83) (v := ?_) (a' := ?_) #[true, true, true, true, true, true, true, true, true, true, true, true, true, true, false, true, true, false, false, false, false, false, false, false, false, false, false, false] rfl rfl (by kernel_rfl) (fun _ _ _ h => h) (Or.inl ⟨by rfl, ?_⟩) hHeld ?_ ?_
  rotate_left
  · rintro w' ⟨s0, s1⟩
    refine (load_yields rfl rfl s1).trans ?_
    with_reducible rfl
  rotate_left
  · simp only [Act.put, List.setIfInBounds_toArray, List.set_cons_zero, List.set_cons_succ, i64_w, i32_w]
    rfl
  refine take_ (i := 19) (N := some 86) (v := ?_) (a' := ?_) #[true, true, true, true, true, true, true, true, true, true, true, true, true, true, false, true, true, false, false, true, false, false, false, false, false, false, false, false] rfl rfl (by kernel_rfl) (fun _ _ _ h => h) (Or.inl ⟨by rfl, ?_⟩) hHeld ?_ ?_
  rotate_left
  · rintro w' ⟨s0, s1⟩
    refine (load_yields rfl rfl s0).trans ?_
    with_reducible rfl
  rotate_left
  · simp only [Act.put, List.setIfInBounds_toArray, List.set_cons_zero, List.set_cons_succ, i64_w, i32_w]
    rfl
  refine take_ (i := 20) (N := some 87) (v := ?_) (a' := ?_) #[true, true, true, true, true, true, true, true, true, true, true, true, true, true, false, true, true, false, false, true, true, false, false, false, false, false, false, false] rfl rfl (by kernel_rfl) (fun _ _ _ h => h) (Or.inl ⟨by rfl, ?_⟩) hHeld ?_ ?_
  rotate_left
  · rintro w' ⟨s0, s1⟩
    refine (load_yields rfl rfl s1).trans ?_
    with_reducible rfl
  rotate_left
  · simp only [Act.put, List.setIfInBounds_toArray, List.set_cons_zero, List.set_cons_succ, i64_w, i32_w]
    rfl
  refine pure_ (i := 21) (N := some 88) (v := ?_) (a' := ?_) #[true, true, true, true, true, true, true, true, true, true, true, true, true, true, false, true, true, false, false, true, true, true, false, false, false, false, false, false] rfl rfl (by kernel_rfl) (fun _ _ _ h => h) (Or.inl ⟨by rfl, ?_⟩) ?_ ?_
  rotate_left
  · intro w'
    refine (eql_yields rfl rfl rfl guard16 (E21.out w')).trans ?_
    with_reducible rfl
  rotate_left
  · simp only [Act.put, List.setIfInBounds_toArray, List.set_cons_zero, List.set_cons_succ, i64_w, i32_w]
    rfl
  refine one_ (i := 14) (N := some 81) #[true, true, true, true, true, true, true, true, true, true, true, true, true, true, true, true, true, false, false, true, true, true, false, false, false, false, false, false] rfl rfl (by kernel_rfl) (by decide) (fun K hK => ?_)
  refine goes_ Try.func31 (by kernel_rfl) rfl #[.pointer (some ⟨g, 0, none⟩), .agg (cellsOf .u8 (ib b))] (by rfl) rfl rfl (by simp only [List.map_toArray, List.map_cons, List.map_nil]; rfl) ?_
  with_reducible refine (CB1.out g bx _ HX.out.all).mono ?_
  rintro e w77 ⟨rfl, hx77, hc77⟩
  refine ⟨_, rfl, ?_⟩
  have M2 := Aside0.mk (mem_ch M2.out hc77 NE2.out)
  have M3 := Aside0.mk (mem_ch M3.out hc77 NE3.out)
  have HX := Aside0.mk (HX.out.ch hc77 hx77.box)
  have HC := Aside0.mk (HC.out.trans hc77)
  clear hc77 hx77
  refine hK.out _ _ ⟨(mem_loads16 M2.out LB.out), (mem_loads16 M3.out LO.out)⟩ (fun hHeld => ?_)
  clear hK K
  refine norm_ (a' := ?_) ?_ ?_
  rotate_left
  · show Act.put _ (some 81) _ = _
    simp only [Act.put, List.setIfInBounds_toArray, List.set_cons_zero, List.set_cons_succ, i64_w, i32_w]
    rfl
  refine one_ (i := 17) (N := some 84) #[true, true, true, true, true, true, true, true, true, true, true, true, true, true, true, true, true, true, false, true, true, true, false, false, false, false, false, false] rfl rfl (by kernel_rfl) (by decide) (fun K hK => ?_)
  refine goes_ Try.func31 (by kernel_rfl) rfl #[.pointer (some ⟨g, 0, none⟩), .agg (cellsOf .u8 (ib o))] (by rfl) rfl rfl (by simp only [List.map_toArray, List.map_cons, List.map_nil]; rfl) ?_
  with_reducible refine (CBO.out g bx _ HX.out.all).mono ?_
  rintro e w78 ⟨rfl, hx78, hc78⟩
  refine ⟨_, rfl, ?_⟩
  have M2 := Aside0.mk (mem_ch M2.out hc78 NE2.out)
  have M3 := Aside0.mk (mem_ch M3.out hc78 NE3.out)
  have HX := Aside0.mk (HX.out.ch hc78 hx78.box)
  have HC := Aside0.mk (HC.out.trans hc78)
  clear hc78 hx78
  refine hK.out _ _ ⟨(mem_loads16 M2.out LB.out), (mem_loads16 M3.out LO.out)⟩ (fun hHeld => ?_)
  clear hK K
  refine norm_ (a' := ?_) ?_ ?_
  rotate_left
  · show Act.put _ (some 84) _ = _
    simp only [Act.put, List.setIfInBounds_toArray, List.set_cons_zero, List.set_cons_succ, i64_w, i32_w]
    rfl
  refine pure_ (i := 18) (N := some 85) (v := ?_) (a' := ?_) #[true, true, true, true, true, true, true, true, true, true, true, true, true, true, true, true, true, true, true, true, true, true, false, false, false, false, false, false] rfl rfl (by kernel_rfl) (fun _ _ _ h => h) (Or.inl ⟨by rfl, ?_⟩) ?_ ?_
  rotate_left
  · intro w'
    refine (eql_yields rfl rfl rfl guard16 (E18.out w')).trans ?_
    with_reducible rfl
  rotate_left
  · simp only [Act.put, List.setIfInBounds_toArray, List.set_cons_zero, List.set_cons_succ, i64_w, i32_w]
    rfl
  refine pure_ (i := 22) (N := some 89) (v := ?_) (a' := ?_) #[true, true, true, true, true, true, true, true, true, true, true, true, true, true, true, true, true, true, true, true, true, true, true, false, false, false, false, false] rfl rfl (by kernel_rfl) (fun _ _ _ h => h) (Or.inl ⟨by rfl, ?_⟩) ?_ ?_
  rotate_left
  · intro w'
    go_simp
    with_reducible rfl
  rotate_left
  · simp only [Act.put, List.setIfInBounds_toArray, List.set_cons_zero, List.set_cons_succ, i64_w, i32_w]
    rfl
  refine pure_ (i := 23) (N := some 90) (v := ?_) (a' := ?_) #[true, true, true, true, true, true, true, true, true, true, true, true, true, true, true, true, true, true, true, true, true, true, true, true, false, false, false, false] rfl rfl (by kernel_rfl) (fun _ _ _ h => h) (Or.inl ⟨by rfl, ?_⟩) ?_ ?_
  rotate_left
  · intro w'
    go_simp
    with_reducible rfl
  rotate_left
  · simp only [Act.put, List.setIfInBounds_toArray, List.set_cons_zero, List.set_cons_succ, i64_w, i32_w]
    rfl
  refine pure_ (i := 24) (N := some 91) (v := ?_) (a' := ?_) #[true, true, true, true, true, true, true, true, true, true, true, true, true, true, true, true, true, true, true, true, true, true, true, true, true, false, false, false] rfl rfl (by kernel_rfl) (fun _ _ _ h => h) (Or.inl ⟨by rfl, ?_⟩) ?_ ?_
  rotate_left
  · intro w'
    go_simp
    with_reducible rfl
  rotate_left
  · simp only [Act.put, List.setIfInBounds_toArray, List.set_cons_zero, List.set_cons_succ, i64_w, i32_w]
    rfl
  refine one_ (i := 25) (N := some 92) #[true, true, true, true, true, true, true, true, true, true, true, true, true, true, true, true, true, true, true, true, true, true, true, true, true, true, false, false] rfl rfl (by kernel_rfl) (by decide) (fun K hK => ?_)
  refine goes_ Try.func33 (by kernel_rfl) rfl #[] (by rfl) rfl rfl (by simp only [List.map_toArray, List.map_cons, List.map_nil]) ?_
  with_reducible refine (CAW.out _).mono ?_
  rintro e w79 ⟨rfl, hb79⟩
  refine ⟨_, rfl, ?_⟩
  have M2 := Aside0.mk (Mem.below M2.out hb79)
  have M3 := Aside0.mk (Mem.below M3.out hb79)
  have HX := Aside0.mk (HX.out.below hb79)
  have HC := Aside0.mk (Ch.step HC.out hb79)
  clear hb79
  refine hK.out _ _ ⟨(mem_loads16 M2.out LB.out), (mem_loads16 M3.out LO.out)⟩ (fun hHeld => ?_)
  clear hK K
  refine norm_ (a' := ?_) ?_ ?_
  rotate_left
  · show Act.put _ (some 92) _ = _
    simp only [Act.put, List.setIfInBounds_toArray, List.set_cons_zero, List.set_cons_succ, i64_w, i32_w]
    rfl
  refine pure_ (i := 26) (N := some 93) (v := ?_) (a' := ?_) #[true, true, true, true, true, true, true, true, true, true, true, true, true, true, true, true, true, true, true, true, true, true, true, true, true, true, true, false] rfl rfl (by kernel_rfl) (fun _ _ _ h => h) (Or.inl ⟨by rfl, ?_⟩) ?_ ?_
  rotate_left
  · intro w'
    go_simp
    with_reducible rfl
  rotate_left
  · simp only [Act.put, List.setIfInBounds_toArray, List.set_cons_zero, List.set_cons_succ, i64_w, i32_w]
    rfl
  refine pure_ (i := 27) (N := some 8) (v := ?_) (a' := ?_) #[true, true, true, true, true, true, true, true, true, true, true, true, true, true, true, true, true, true, true, true, true, true, true, true, true, true, true, true] rfl rfl (by kernel_rfl) (fun _ _ _ h => h) (Or.inl ⟨by rfl, ?_⟩) ?_ ?_
  rotate_left
  · intro w'
    go_simp
    with_reducible rfl
  rotate_left
  · simp only [Act.put, List.setIfInBounds_toArray, List.set_cons_zero, List.set_cons_succ, i64_w, i32_w]
    rfl
  refine done_ (by kernel_rfl) ?_
  clear hl0 hl1
  go_wp2
  go_ret
  exact ⟨rfl, HC.out.below HB.out HB.out.size (by have := HBX.out; omega)⟩
end Go.Proofs.Ytpdikfmdnlhllaa.Aes
namespace Go.Proofs.Ytpdikfmdnlhllaa.Aes
open Go.RowKit Go.Proofs.Ytpdikfmdnlhllaa.PNib Go.Proofs.YtpdikfmdnlhllaaW.PrintWords Byte Sl Arr Mem Gives ArrEq Mat AesMath
theorem aback_walk (l0 : List Int) (p : Int) (l2 l3 : List Int) (w : World) (n0 : l0.length = 32) (w0 : ∀ x ∈ l0, (Lit.int .u8 x).wf = true) (hp : (Lit.int .u8 p).wf = true) (n2 : l2.length = 16) (w2 : ∀ x ∈ l2, (Lit.int .u8 x).wf = true) (n3 : l3.length = 16) (w3 : ∀ x ∈ l3, (Lit.int .u8 x).wf = true) :
    Calls Try.prog 6 #[arrV .u8 l0, .int .u8 p, arrV .u8 l2, arrV .u8 l3] w fun e w' => e = .returned (.bool true) ∧ Below w.heap.size w w' := by
  obtain ⟨k, rfl⟩ := ib_of (fun x hx => wf_u8 (w0 x hx))
  obtain ⟨b, rfl⟩ := ib_of (fun x hx => wf_u8 (w2 x hx))
  obtain ⟨o, rfl⟩ := ib_of (fun x hx => wf_u8 (w3 x hx))
  obtain ⟨q, rfl⟩ := byte_of hp
  rw [ib_length] at n0 n2 n3
  rw [arrV_eq, arrV_eq, arrV_eq]
  exact law_ k b o n0 n2 n3 q w
end Go.Proofs.Ytpdikfmdnlhllaa.Aes
