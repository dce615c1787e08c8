/-
  Merged texts, what is reached of them: CmMath, CmEval, CmKnown, Cmac1, Cmac2, Cmac3, Cmac4, Cmac5, Cmac6, Cmac7, CmT1, CmT2, CmT3, CmT4, RangeN, RoundKit, RangeS, CtrMath, Ctr1, CtrK, Ctr2, CtrVal, Ctr3, Ctr4, Ctr5, CtTRow, CtRow: walks and plain lemmas; no condition.
-/
import Derived.Test.YtpdikfmdnlhllaaXAesMath
import Derived.Test.YtpdikfmdnlhllaaXOctet
import Derived.Test.YtpdikfmdnlhllaaXPNibx3
import Derived.Test.YtpdikfmdnlhllaaXPNibx4
import Derived.Lib.Bytes
import Derived.Test.YtpdikfmdnlhllaaXCvA
import Derived.Deep.MidRow
import Derived.Laws.Cover3
import Derived.Test.YtpdikfmdnlhllaaXCvB
import Derived.Test.YtpdikfmdnlhllaaXSlices
import Derived.RangeFuncNested
import Derived.RangeFuncBound
import Derived.RangeFuncCalls
import Derived.RangeFuncLeaves
import Derived.Test.YtpdikfmdnlhllaaXMem
import Derived.Test.YtpdikfmdnlhllaaWLast
import Derived.Test.YtpdikfmdnlhllaaXWMore
import Derived.Shelf.Abstract
import Derived.OrdersIn
import Derived.LoopIn
import Derived.OwnWalkIn
import Derived.TacticsInMore
import Derived.Stop.RegionWithIn
import Derived.Deep.DeepAppendRoom
namespace Go.Proofs.Ytpdikfmdnlhllaa.Aes
open Byte AesMath
/-- Bytes, as whole numbers. -/
def Bytes (l : List Int) : Prop := ∀ x ∈ l, 0 ≤ x ∧ x < 256
theorem Bytes.rd {l : List Int} (h : Bytes l) (i : Nat) : 0 ≤ l.getD i 0 ∧ l.getD i 0 < 256 := by
  rw [List.getD_eq_getElem?_getD]
  cases e : l[i]? with
  | none => simp
  | some x => exact h x (List.mem_of_getElem? e)
theorem Bytes.set {l : List Int} (h : Bytes l) (i : Nat) (x : Int) (h0 : 0 ≤ x) (h1 : x < 256) : Bytes (l.set i x) := by
  intro y hy
  rcases List.mem_or_eq_of_mem_set hy with h' | h'
  · exact h y h'
  · omega
theorem bytes_ib (l : List B) : Bytes (ib l) := ib_b l
/-- Whole numbers, as bytes. -/
def unI (l : List Int) : List B := l.map (BitVec.ofInt 8)
theorem ib_unI {l : List Int} (h : Bytes l) : ib (unI l) = l := by
  obtain ⟨b, rfl⟩ := ib_of h
  unfold unI ib
  rw [List.map_map, List.map_map]
  exact List.map_congr_left fun x _ => by simp only [Function.comp]; rw [of8]
/-- Put together, as far as both go. -/
def zipX (a b : List B) : List B := List.zipWith (· ^^^ ·) a b
theorem zipX_length (a b : List B) : (zipX a b).length = min a.length b.length := by simp [zipX]
theorem zipX_ib (a b : List B) : List.zipWith (Go.bits .xor .u8) (ib a) (ib b) = ib (zipX a b) := by
  unfold zipX ib
  rw [List.zipWith_map, List.map_zipWith]
  congr 1
  funext x y
  exact xor8 x y
theorem zipX_comm (a b : List B) : zipX a b = zipX b a := by
  unfold zipX
  rw [List.zipWith_comm]
  congr 1
  funext x y
  exact BitVec.xor_comm _ _
theorem zipX_self : ∀ (a b : List B), b.length ≤ a.length → zipX a (zipX a b) = b
  | [], [], _ => rfl
  | [], _ :: _, h => by simp at h
  | _ :: _, [], _ => by simp [zipX]
  | x :: a, y :: b, h => by
    have := zipX_self a b (by simpa using h)
    simp only [zipX, List.zipWith_cons_cons] at this ⊢
    rw [this, xor_lself]
end Go.Proofs.Ytpdikfmdnlhllaa.Aes
namespace Go.Proofs.Ytpdikfmdnlhllaa.CmEval
open Go.RowKit Go.Proofs.Ytpdikfmdnlhllaa.PNib Go.Proofs.YtpdikfmdnlhllaaW.PrintWords Go.Proofs.YtpdikfmdnlhllaaW.PrintLast Go.Proofs.YtpdikfmdnlhllaaW.PrintMore Byte Octet Aes
abbrev ib := @AesMath.ib
abbrev B := AesMath.B
theorem Bytes.rdw {l : List Int} (h : Bytes l) (i : Int) : 0 ≤ rd l i ∧ rd l i < 256 := by
  unfold Go.Proofs.YtpdikfmdnlhllaaW.PrintWords.rd
  exact h.rd i.toNat
theorem RXor_l0 (a b : List Int) (ha : a.length ≤ 140737488351232) : ∀ (d k i : Nat), i + d = min a.length b.length → d < k → visorref01_Xor.l0 k a b (xorL (a.take i) (b.take i)) (i : Int) = some (xorL a b) := by
  intro d
  induction d with
  | zero =>
    intro k i hi hk
    obtain ⟨k, rfl⟩ : ∃ m, k = m + 1 := ⟨k - 1, by omega⟩
    simp only [visorref01_Xor.l0]
    have e : xorL (a.take i) (b.take i) = xorL a b := by
      unfold xorL; rw [← List.take_zipWith, List.take_of_length_le (by simp; omega)]
    rw [e]
    by_cases c : (i : Int) < a.length
    · rw [if_pos c, if_neg (by omega)]
    · rw [if_neg c]
  | succ d ih =>
    intro k i hi hk
    obtain ⟨k, rfl⟩ : ∃ m, k = m + 1 := ⟨k - 1, by omega⟩
    simp only [visorref01_Xor.l0]
    have hl : (xorL (a.take i) (b.take i)).length < 140737488355328 := by unfold xorL; simp; omega
    rw [if_pos (by omega), if_pos (by omega), if_pos (by omega), if_pos hl, show wrap64 ((i : Int) + 1) = ((i + 1 : Nat) : Int) by unfold wrap64; omega, ← ih k (i + 1) (by omega) (by omega)]
    congr 1
    have h1 : i < a.length := by omega
    have h2 : i < b.length := by omega
    unfold rd xorL
    rw [Int.toNat_natCast, List.take_succ_eq_append_getElem h1, List.take_succ_eq_append_getElem h2, List.zipWith_append (by simp; omega)]
    simp [List.getD_eq_getElem?_getD, List.getElem?_eq_getElem h1, List.getElem?_eq_getElem h2]
theorem RXor_eq (a b : List Int) (ha : a.length ≤ 140737488351232) (k : Nat) (hk : a.length + 1 ≤ k) : visorref01_Xor.f k a b = some (xorL a b) := by
  unfold visorref01_Xor.f
  have := RXor_l0 a b ha (min a.length b.length) k 0 (by omega) (by omega)
  simpa [xorL] using this
theorem Xor_eq (a b : List Int) (ha : a.length ≤ 140737488351232) : Octet.octet_Xor.f a b = some (xorL a b) := by
  unfold octet_Xor.f; rw [if_pos (by omega)]
theorem Inc_eq (a : List Int) (ha : a.length ≤ 140737488351232) : octet_Inc.f a = some (incGo a.length a) := by
  unfold octet_Inc.f; rw [if_pos (by omega)]
theorem RInc_l0 : ∀ (d k : Nat) (l : List Int), Bytes l → d ≤ l.length → l.length ≤ 140737488351232 → d < k → visorref01_Inc.l0 k l ((d : Int) - 1) = some (incGo d l) := by
  intro d
  induction d with
  | zero =>
    intro k l hb hd hl hk
    obtain ⟨k, rfl⟩ : ∃ m, k = m + 1 := ⟨k - 1, by omega⟩
    simp only [visorref01_Inc.l0]
    rw [if_neg (by omega)]; rfl
  | succ d ih =>
    intro k l hb hd hl hk
    obtain ⟨k, rfl⟩ : ∃ m, k = m + 1 := ⟨k - 1, by omega⟩
    simp only [visorref01_Inc.l0, incGo]
    have e1 : ((d + 1 : Nat) : Int) - 1 = (d : Int) := by omega
    have er : rd l (d : Int) = l.getD d 0 := by unfold rd; rw [Int.toNat_natCast]
    have hr := Bytes.rdw hb (d : Int)
    rw [e1, if_pos (by omega), if_pos (by omega), if_pos (by omega), Int.toNat_natCast, show wrap64 ((d : Int) - 1) = (d : Int) - 1 by unfold wrap64; omega]
    rw [er] at hr ⊢
    generalize l.getD d 0 = x at *
    by_cases c : x < 255
    · rw [if_pos c, if_neg (by omega)]
    · rw [if_neg c, if_pos (by omega), show (x + 1) % 256 = 0 by omega]
      exact ih k _ (hb.set d 0 (by decide) (by decide)) (by simp; omega) (by simp; omega) (by omega)
theorem RInc_eq (l : List Int) (hb : Bytes l) (hl : l.length ≤ 140737488351232) (k : Nat) (hk : l.length + 1 ≤ k) : visorref01_Inc.f k l = some (incGo l.length l) := by
  unfold visorref01_Inc.f
  simp only [Option.bind_some, List.nil_append, List.length_nil]
  rw [if_pos (by omega), show wrap64 ((l.length : Int) - 1) = (l.length : Int) - 1 by unfold wrap64; omega]
  exact RInc_l0 l.length k l hb (by omega) hl (by omega)
theorem str_eq (a b : List Int) (ha : Bytes a) (hb : Bytes b) : ((strOfNums a).toList = (strOfNums b).toList) ↔ a = b := by
  constructor
  · intro h
    rw [Go.Lib.strOfNums_toList, Go.Lib.strOfNums_toList] at h
    unfold Go.Lib.bytesOf at h
    have hlen : a.length = b.length := by have := congrArg List.length h; simpa using this
    refine List.ext_getElem hlen fun i h1 h2 => ?_
    have := congrArg (fun l => l[i]?) h
    simp only [List.getElem?_map, List.getElem?_eq_getElem h1, List.getElem?_eq_getElem h2, Option.map_some, Option.some.injEq] at this
    have h3 := congrArg UInt8.toNat this
    have ka := ha _ (List.getElem_mem h1)
    have kb := hb _ (List.getElem_mem h2)
    simp only [UInt8.toNat_ofNat'] at h3
    omega
  · rintro rfl; rfl
theorem str_beq (a b : List B) : ((strOfNums (ib a)).toList == (strOfNums (ib b)).toList) = decide (a = b) := by
  by_cases h : a = b
  · subst h; simp
  · rw [decide_eq_false h, beq_eq_false_iff_ne]
    intro h2
    exact h (AesMath.ib_inj ((str_eq _ _ (bytes_ib a) (bytes_ib b)).1 h2))
theorem RSame_eq (a b : List B) : visorref01_Same.f (ib a) (ib b) = some (decide (a = b)) := by
  unfold visorref01_Same.f; rw [str_beq]
end Go.Proofs.Ytpdikfmdnlhllaa.CmEval
namespace Go.Proofs.Ytpdikfmdnlhllaa.AesMath
open Mat GfMath
set_option maxRecDepth 100000
end Go.Proofs.Ytpdikfmdnlhllaa.AesMath
namespace Go.Proofs.Ytpdikfmdnlhllaa.Aes
open Go.RowKit Go.Proofs.Ytpdikfmdnlhllaa.PNib Go.Proofs.YtpdikfmdnlhllaaW.PrintWords Go.Proofs.YtpdikfmdnlhllaaW.PrintLast Go.Proofs.YtpdikfmdnlhllaaW.PrintMore Byte Sl Arr Mem Gives ArrEq Mat AesMath AesMov AesLin HandKit
set_option linter.unusedVariables false
set_option linter.unusedSimpArgs false
end Go.Proofs.Ytpdikfmdnlhllaa.Aes
namespace Go.Proofs.Ytpdikfmdnlhllaa.Aes
open Go.RowKit Go.Proofs.Ytpdikfmdnlhllaa.PNib Go.Proofs.YtpdikfmdnlhllaaW.PrintWords Go.Proofs.YtpdikfmdnlhllaaW.PrintLast Go.Proofs.YtpdikfmdnlhllaaW.PrintMore Byte Sl Arr Mem Gives ArrEq Mat AesMath AesMov AesLin HandKit
set_option linter.unusedVariables false
set_option linter.unusedSimpArgs false
theorem mem_row16 {w : World} {g : Nat} {t : TypeId} {l : List Int} (h : Mem .u8 w g t l) (hl : l.length = 16) : Kd.C (Kd.int .u8) w (some ⟨g, 0, none⟩) 16 l := by
  have hs : Sl .u8 w (.slice (some ⟨g, 0, none⟩) l.length 16) l := Sl.of_cells (k := .u8) (w := w) (ad := ⟨g, 0, none⟩) (c := 16) (l := l) (by omega) (by omega) (fun j y hj => by
    have hj' := (List.getElem?_eq_some_iff.1 hj).1
    rw [show (⟨g, 0, none⟩ : Addr).add j = ⟨g, j, none⟩ by simp [Addr.add]; intro h; exact h.symm]
    rw [h.cell j hj', List.getD_eq_getElem?_getD, hj]; rfl)
  obtain ⟨A, c, hv, hc, hC⟩ := hs
  injection hv with e1 e2 e3
  subst e1
  rw [hl] at hC
  exact hC
end Go.Proofs.Ytpdikfmdnlhllaa.Aes
namespace Go.Proofs.Ytpdikfmdnlhllaa.Aes
open Go.RowKit Go.Proofs.Ytpdikfmdnlhllaa.PNib Go.Proofs.YtpdikfmdnlhllaaW.PrintWords Go.Proofs.YtpdikfmdnlhllaaW.PrintLast Go.Proofs.YtpdikfmdnlhllaaW.PrintMore Byte Sl Arr Mem Gives ArrEq Mat AesMath AesMov AesLin HandKit
set_option linter.unusedVariables false
set_option linter.unusedSimpArgs false
/-- A row that a cipher at its work does not touch. -/
abbrev Off (w : World) (bx : Nat) (A : Option Addr) (l : List Int) : Prop := Kd.F (Kd.int .u8) w (fun k => k ≠ bx) A l.length l
end Go.Proofs.Ytpdikfmdnlhllaa.Aes
namespace Go.Proofs.Ytpdikfmdnlhllaa.Aes
open Go.RowKit Go.Proofs.Ytpdikfmdnlhllaa.PNib Go.Proofs.YtpdikfmdnlhllaaW.PrintWords Go.Proofs.YtpdikfmdnlhllaaW.PrintLast Go.Proofs.YtpdikfmdnlhllaaW.PrintMore Byte Sl Arr Mem Gives ArrEq Mat AesMath AesMov AesLin HandKit Copy
set_option linter.unusedVariables false
set_option linter.unusedSimpArgs false
end Go.Proofs.Ytpdikfmdnlhllaa.Aes
namespace Go.Proofs.Ytpdikfmdnlhllaa.Aes
open Go.RowKit Go.Proofs.Ytpdikfmdnlhllaa.PNib Go.Proofs.YtpdikfmdnlhllaaW.PrintWords Go.Proofs.YtpdikfmdnlhllaaW.PrintLast Go.Proofs.YtpdikfmdnlhllaaW.PrintMore Byte Sl Arr Mem Gives ArrEq Mat AesMath AesMov AesLin HandKit Copy
set_option linter.unusedVariables false
set_option linter.unusedSimpArgs false
/-- Round keys that may be. -/
structure KN (ks : List (List B)) (n : Nat) : Prop where
  len : ks.length = n + 2
  each : ∀ r, r < n + 2 → (keyAt ks r).length = 16
  few : n ≤ 100
end Go.Proofs.Ytpdikfmdnlhllaa.Aes
namespace Go.Proofs.Ytpdikfmdnlhllaa.Aes
open Go.RowKit Go.Proofs.Ytpdikfmdnlhllaa.PNib Go.Proofs.YtpdikfmdnlhllaaW.PrintWords Go.Proofs.YtpdikfmdnlhllaaW.PrintLast Go.Proofs.YtpdikfmdnlhllaaW.PrintMore Byte Sl Arr Mem Gives ArrEq Mat AesMath AesMov AesLin HandKit Copy
set_option linter.unusedVariables false
set_option linter.unusedSimpArgs false
/-- A row of bytes that a cipher at its work does not touch. -/
abbrev On (W : World) (bx : Nat) (A : Option Addr) (n : Nat) (l : List B) : Prop := Kd.F (Kd.int .u8) W (fun k => k ≠ bx) A n (ib l)
/-- A row of bytes that was made behind block b. -/
abbrev NR (b : Nat) (W : World) (A : Option Addr) (n : Nat) (l : List B) : Prop := Kd.F (Kd.int .u8) W (fun k => b ≤ k) A n (ib l)
/-- A row of bytes that lies ahead of block b. -/
abbrev OR (b : Nat) (W : World) (A : Option Addr) (n : Nat) (l : List B) : Prop := Kd.F (Kd.int .u8) W (fun k => k < b) A n (ib l)
section
variable {W W' : World} {bx b n : Nat} {A : Option Addr} {l : List B}
theorem On.ch (h : On W bx A n l) (hc : Ch bx W W') : On W' bx A n l := Kd.F_grown h hc (fun k hk e => hk (Option.some.inj e))
theorem On.below (h : On W bx A n l) (hb : Below W.heap.size W W') : On W' bx A n l := Kd.F_below h hb
theorem On.C (h : On W bx A n l) : Kd.C (Kd.int .u8) W A n (ib l) := Kd.F_now h
theorem On.len (h : On W bx A n l) : l.length = n := by have := Kd.F_len h; rwa [ib_length] at this
theorem NR.on (h : NR b W A n l) (hb : bx < b) : On W bx A n l := Kd.F_mono h (fun k hk => by omega)
theorem NR.below (h : NR b W A n l) (hb : Below W.heap.size W W') : NR b W' A n l := Kd.F_below h hb
theorem NR.low {b' : Nat} (h : NR b W A n l) (hb : b' ≤ b) : NR b' W A n l := Kd.F_mono h (fun k hk => Nat.le_trans hb hk)
theorem NR.C (h : NR b W A n l) : Kd.C (Kd.int .u8) W A n (ib l) := Kd.F_now h
theorem OR.on (h : OR b W A n l) (hb : b ≤ bx) : On W bx A n l := Kd.F_mono h (fun k hk => by omega)
theorem OR.below (h : OR b W A n l) (hb : Below W.heap.size W W') : OR b W' A n l := Kd.F_below h hb
theorem OR.C (h : OR b W A n l) : Kd.C (Kd.int .u8) W A n (ib l) := Kd.F_now h
theorem OR.of_C (h : Kd.C (Kd.int .u8) W A n (ib l)) : OR W.heap.size W A n l := Kd.C_F (Kd.heap_int .u8) h
theorem OR.of_mem {N : Nat} {t : TypeId} (h : Mem .u8 W N t (ib l)) (hl : l.length = 16) (hne : N < b) : OR b W (some ⟨N, 0, none⟩) 16 l := by
  have hlt : N < W.heap.size := (Array.getElem?_eq_some_iff.1 h).1
  intro W' hW
  exact mem_row16 (show Mem .u8 W' N t (ib l) from (hW N hne hlt).trans h) (by rw [ib_length, hl])
theorem row_new {e base : Nat} {ok : Nat → Prop} {v : Value} (h : Kd.R (Kd.int .u8) e W base ok v (ib l)) (hl : l.length = n) : ∃ A c, v = .slice A n c ∧ n ≤ c ∧ NR base W A n l := by
  subst hl
  obtain ⟨A, c, rfl, hc, _⟩ := Kd.R_reads h
  rw [ib_length] at hc
  refine ⟨A, c, by rw [ib_length], hc, ?_⟩
  have := Kd.F_mono (ok' := fun k => base ≤ k) (Kd.R_F (Kd.R_bound h)) (fun k hk => hk.2.1)
  rwa [ib_length] at this
end
theorem rxor_c (x y : List B) (n1 n2 n3 : Nat) (hx : x.length = n1) (hy : y.length = n2) (hz : (zipX x y).length = n3) (h48 : n1 ≤ 140737488351232) (A1 A2 : Option Addr) (c1 c2 : Nat) (hc1 : n1 ≤ c1) (hc2 : n2 ≤ c2) (W : World) (h1 : Kd.C (Kd.int .u8) W A1 n1 (ib x)) (h2 : Kd.C (Kd.int .u8) W A2 n2 (ib y)) :
    Calls Try.prog 39 #[.slice A1 n1 c1, .slice A2 n2 c2] W fun e w' => ∃ A c, e = .returned (.slice A n3 c) ∧ n3 ≤ c ∧ NR W.heap.size w' A n3 (zipX x y) ∧ Below W.heap.size W w' := by
  subst hx hy
  have := visorref01_Xor.calls (x.length + 1) A1 c1 (ib x) A2 c2 (ib y) (ib (zipX x y)) W (by rw [ib_length]; exact h1) (by rw [ib_length]; exact hc1) (by rw [ib_length]; exact h2) (by rw [ib_length]; exact hc2) (by rw [CmEval.RXor_eq _ _ (by rw [ib_length]; exact h48) _ (by rw [ib_length]; omega)]; unfold Octet.xorL; rw [zipX_ib])
  rw [ib_length, ib_length] at this
  refine this.mono ?_
  rintro e w' ⟨v, rfl, hv, hb⟩
  obtain ⟨A, c, rfl, hc, hn⟩ := row_new hv hz
  exact ⟨A, c, rfl, hc, hn, hb⟩
theorem pxor_c (x y : List B) (n1 n2 n3 : Nat) (hx : x.length = n1) (hy : y.length = n2) (hz : (zipX x y).length = n3) (h48 : n1 ≤ 140737488351232) (A1 A2 : Option Addr) (c1 c2 : Nat) (hc1 : n1 ≤ c1) (hc2 : n2 ≤ c2) (W : World) (h1 : Kd.C (Kd.int .u8) W A1 n1 (ib x)) (h2 : Kd.C (Kd.int .u8) W A2 n2 (ib y)) :
    Calls Try.prog 81 #[.slice A1 n1 c1, .slice A2 n2 c2] W fun e w' => ∃ A c, e = .returned (.slice A n3 c) ∧ n3 ≤ c ∧ NR W.heap.size w' A n3 (zipX x y) ∧ Below W.heap.size W w' := by
  subst hx hy
  have := Octet.octet_Xor.calls A1 c1 (ib x) A2 c2 (ib y) (ib (zipX x y)) W (by rw [ib_length]; exact h1) (by rw [ib_length]; exact hc1) (by rw [ib_length]; exact h2) (by rw [ib_length]; exact hc2) (by rw [CmEval.Xor_eq _ _ (by rw [ib_length]; exact h48)]; unfold Octet.xorL; rw [zipX_ib])
  rw [ib_length, ib_length] at this
  refine this.mono ?_
  rintro e w' ⟨v, rfl, hv, hb⟩
  obtain ⟨A, c, rfl, hc, hn⟩ := row_new hv hz
  exact ⟨A, c, rfl, hc, hn, hb⟩
theorem rsame_c (x y : List B) (r : Bool) (hr : decide (x = y) = r) (n1 n2 : Nat) (A1 A2 : Option Addr) (c1 c2 : Nat) (hc1 : n1 ≤ c1) (hc2 : n2 ≤ c2) (W : World) (h1 : Kd.C (Kd.int .u8) W A1 n1 (ib x)) (h2 : Kd.C (Kd.int .u8) W A2 n2 (ib y)) :
    Calls Try.prog 41 #[.slice A1 n1 c1, .slice A2 n2 c2] W fun e w' => e = .returned (.bool r) ∧ Below W.heap.size W w' := by
  have e1 := h1.1
  have e2 := h2.1
  subst e1 e2
  refine (visorref01_Same.calls A1 c1 (ib x) A2 c2 (ib y) r W h1 hc1 h2 hc2 (by rw [← hr]; exact CmEval.RSame_eq x y)).mono ?_
  rintro e w' ⟨rfl, ⟨m, rfl⟩⟩
  exact ⟨rfl, pw_below_drewN (Below.refl _ _) m⟩
theorem kn_of (key : List B) (hr : roundsN key.length ≠ 0) : ∃ n, KN (roundKeys key) n := by
  obtain ⟨n, h1, _, h3, h4⟩ := round_keys_len key hr
  exact ⟨n, ⟨h1, h4, h3⟩⟩
theorem new_n (key : List B) (hr : roundsN key.length ≠ 0) (L : Nat) (hL : key.length = L) (A : Option Addr) (c : Nat) (hc : L ≤ c) (W : World) (hC : Kd.C (Kd.int .u8) W A L (ib key)) : Calls Try.prog 30 #[.slice A L c] W fun e w' => ∃ g bx, e = .returned (.tuple #[.pointer (some ⟨g, 0, none⟩), .int .i64 0]) ∧ Cph w' g bx (roundKeys key) ∧ W.heap.size ≤ bx ∧ Below W.heap.size W w' := by
  subst hL
  refine (new_c key hr A c hc W hC).mono ?_
  rintro e w' ⟨g, bx, rfl, hx, _, hbx, hb⟩
  exact ⟨g, bx, rfl, hx, hbx, hb⟩
theorem block_n (g bx : Nat) (ks : List (List B)) (n : Nat) (K : KN ks n) (b : List B) (hb : b.length = 16) (W : World) (hX : Cph W g bx ks) : Calls Try.prog 31 #[.pointer (some ⟨g, 0, none⟩), .agg (cellsOf .u8 (ib b))] W fun e w' => e = .returned (.agg (cellsOf .u8 (ib (encB ks n b)))) ∧ Cph w' g bx ks ∧ Ch bx W w' := block_c b hb g bx ks n K.len K.each K.few W hX
end Go.Proofs.Ytpdikfmdnlhllaa.Aes
namespace Go.Proofs.Ytpdikfmdnlhllaa.Aes
open Go.RowKit Go.Proofs.Ytpdikfmdnlhllaa.PNib Go.Proofs.YtpdikfmdnlhllaaW.PrintWords Go.Proofs.YtpdikfmdnlhllaaW.PrintLast Go.Proofs.YtpdikfmdnlhllaaW.PrintMore Byte Sl Arr Mem Gives ArrEq Mat AesMath AesMov AesLin HandKit Copy
set_option linter.unusedVariables false
set_option linter.unusedSimpArgs false
theorem over_all {xs ys : List Int} (h : xs.length = ys.length) : over xs ys = ys := by
  unfold over splice
  rw [List.take_zero, List.nil_append, Nat.zero_add, List.take_of_length_le (by omega), List.drop_eq_nil_of_le (by omega), List.append_nil]
/-- A row of bytes ahead of block lim that a cipher at its work does not touch. -/
abbrev OnL (W : World) (bx lim : Nat) (A : Option Addr) (n : Nat) (l : List B) : Prop := Kd.F (Kd.int .u8) W (fun k => k ≠ bx ∧ k < lim) A n (ib l)
section
variable {W W' : World} {bx lim b n : Nat} {A : Option Addr} {l : List B}
end
set_option maxRecDepth 100000 in
theorem run_copy16 {w : World} {g : Nat} {t : TypeId} {l ys : List Int} {A : Option Addr} {m c : Nat} (dT ty elem : TypeId) (hu : Try.prog.underlying dT = some (.slice elem)) (hsz : (Try.prog.info? elem).map (·.size) = some 1) (M : Mem .u8 w g t l) (hl : l.length = 16) (HC : Kd.C (Kd.int .u8) w A m ys) (h0 : 0 < m) (hm : m ≤ 16) :
    (Builtin.copy_ #[dT, dT] ty #[.slice (some ⟨g, 0, none⟩) 16 16, .slice A m c]).run Try.prog w = .ok (goInt m) (w.setRow g (cellsOf .u8 (over l ys))) := by
  obtain ⟨ad, rfl, hc⟩ := HC.2.2 h0
  have hlen : ys.length = m := HC.1
  have hrun := run_copy_row (P := Try.prog) w dT dT ty elem g 0 16 16 ad m c (cellsOf .u8 l) t (ys.map (Value.int .u8)) hu hsz M (by rw [List.length_map, hlen]; exact (Nat.min_eq_left hm).symm) (fun j v hj => by
    rw [List.getElem?_map, Option.map_eq_some_iff] at hj
    obtain ⟨p, hp, rfl⟩ := hj
    obtain ⟨c', hl', hK, hcell⟩ := hc j p hp
    have hK' : c' = [.int .u8 p] := hK
    subst hK'
    have := hcell 0 _ rfl
    simpa [Kd.int, Kd.scalar] using this) (by rw [List.length_map, hlen, cellsOf_size, hl]; omega) (fun v hv => by
    obtain ⟨x, _, rfl⟩ := List.mem_map.1 hv
    rfl)
  rw [hrun, List.length_map, hlen]
  congr 1
  unfold cellsOf over splice
  simp only [List.toList_toArray, List.take_zero, List.nil_append, Nat.zero_add, List.length_map]
  rw [List.take_of_length_le (show ys.length ≤ l.length by omega), List.map_append, List.map_drop, hlen]
end Go.Proofs.Ytpdikfmdnlhllaa.Aes
namespace Go.Proofs.Ytpdikfmdnlhllaa.Aes
open Go.RowKit Go.Proofs.Ytpdikfmdnlhllaa.PNib Go.Proofs.YtpdikfmdnlhllaaW.PrintWords Go.Proofs.YtpdikfmdnlhllaaW.PrintLast Go.Proofs.YtpdikfmdnlhllaaW.PrintMore Byte Sl Arr Mem Gives ArrEq Mat AesMath AesMov AesLin HandKit Copy
set_option linter.unusedVariables false
set_option linter.unusedSimpArgs false
theorem list_copy16 {ops : Array Oper} {rest : List Oper} {o : Oper} {a : Act} {Q : Exit → Act → World → Prop} {w : World} {g : Nat} {t : TypeId} {l ys : List Int} {A : Option Addr} {m c : Nat} (hgd : o.guard = none) (d s : Operand) (dT : TypeId)
    (ho : o.op = .call { callee := .builtin .copy, args := #[d, s], argTypes := #[dT, dT] }) (elem : TypeId) (hu : Try.prog.underlying dT = some (.slice elem)) (hsz : (Try.prog.info? elem).map (·.size) = some 1)
    (hd : a.eval d = .slice (some ⟨g, 0, none⟩) 16 16) (hs : a.eval s = .slice A m c) (M : Mem .u8 w g t l) (hl : l.length = 16) (HC : Kd.C (Kd.int .u8) w A m ys) (h0 : 0 < m) (hm : m ≤ 16)
    (h : wpList Try.prog ops Q rest (a.put o.dst (goInt m)) (w.setRow g (cellsOf .u8 (over l ys)))) : wpList Try.prog ops Q (o :: rest) a w := by
  refine wpList_plain hgd fun K hK => ?_
  have hrun := run_copy16 (w := w) (c := c) dT o.type elem hu hsz M hl HC h0 hm
  unfold Oper.wp
  simp [execOp, ho, resolve, invoke, builtin, hd, hs, hrun, Result.andThen]
  exact hK _ _ h
end Go.Proofs.Ytpdikfmdnlhllaa.Aes
namespace Go.Proofs.Ytpdikfmdnlhllaa.Aes
open Go.RowKit Go.Proofs.Ytpdikfmdnlhllaa.PNib Go.Proofs.YtpdikfmdnlhllaaW.PrintWords Go.Proofs.YtpdikfmdnlhllaaW.PrintLast Go.Proofs.YtpdikfmdnlhllaaW.PrintMore Byte Sl Arr Mem Gives ArrEq Mat AesMath AesMov AesLin HandKit Copy
set_option linter.unusedVariables false
set_option linter.unusedSimpArgs false
set_option maxRecDepth 100000 in
theorem mk_cap (n c : Nat) (hnc : n ≤ c) (hc : c ≤ 281474976710656) (W : World) : (Instr.makeSlice 22 (.int .i64 (n : Int)) (.int .i64 (c : Int))).run Try.prog W = .ok (.slice (some ⟨W.heap.size, 0, none⟩) n c) (W.alloc (.cells (cellsOf .u8 (List.replicate c 0)) 5)) := by
  obtain ⟨i, hi, h2⟩ := Option.map_eq_some_iff.1 info_u8
  simp only [Prod.mk.injEq] at h2
  obtain ⟨hz, hs, hb⟩ := h2
  have hr := run_make (P := Try.prog) W 22 5 i (.int .u8 0) Try.underlying22 hi hz .i64 .i64 (n : Int) (c : Int) (by omega) (by omega) (by rw [hb]; omega) (by omega)
  rw [Int.toNat_natCast, Int.toNat_natCast, hs, Nat.mul_one] at hr
  rw [hr]
  congr 2
  unfold madeCells cellsOf
  congr 1
  apply Array.ext
  · simp
  · intro j h1 h2
    simp [Value.cells, Nat.mod_one]
theorem cap_R {w : World} {g n c base : Nat} (h : w.heap[g]? = some (.cells (cellsOf .u8 (List.replicate c 0)) 5 (0, 0))) (hn : n ≤ c) (hc : c ≤ 281474976710656) (hb : base ≤ g) : Kd.R (Kd.int .u8) 5 w base (fun k => base ≤ k) (.slice (some ⟨g, 0, none⟩) n c) (ib (List.replicate n 0#8)) := by
  refine ⟨fun k hk => Nat.le_trans hb (Nat.le_of_eq (by simpa [Value.ownBlock] using hk)), (ib (List.replicate n 0#8)).map (Value.int .u8), ⟨by simp [ib_length, show (Kd.int .u8).sz = 1 from rfl], .inr ⟨g, c, cellsOf .u8 (List.replicate c 0), by rw [ib_length, List.length_replicate], hb, h, by rw [ib_length, List.length_replicate]; exact hn, by unfold maxLen; omega, ?_, ?_⟩⟩, reps_of (k := .u8) (R := (Kd.int .u8).M w base _) (fun x => rfl) _⟩
  · rw [cellsOf_size, List.length_replicate]; show c = c * 1; omega
  · rw [ib_length, List.length_replicate]
    show List.take (n * 1) _ = _
    unfold cellsOf
    rw [Nat.mul_one, List.toList_toArray, ← List.map_take, List.take_replicate, Nat.min_eq_left hn, ib_zeros]
end Go.Proofs.Ytpdikfmdnlhllaa.Aes
namespace Go.Proofs.Ytpdikfmdnlhllaa.Aes
open Go.RowKit Go.Proofs.Ytpdikfmdnlhllaa.PNib Go.Proofs.YtpdikfmdnlhllaaW.PrintWords Go.Proofs.YtpdikfmdnlhllaaW.PrintLast Go.Proofs.YtpdikfmdnlhllaaW.PrintMore Byte Sl Arr Mem Gives ArrEq Mat AesMath AesMov AesLin HandKit Copy
set_option linter.unusedVariables false
set_option linter.unusedSimpArgs false
end Go.Proofs.Ytpdikfmdnlhllaa.Aes
namespace Go.Proofs.Ytpdikfmdnlhllaa.Aes
open Go.RowKit Go.Proofs.Ytpdikfmdnlhllaa.PNib Go.Proofs.YtpdikfmdnlhllaaW.PrintWords Go.Proofs.YtpdikfmdnlhllaaW.PrintLast Go.Proofs.YtpdikfmdnlhllaaW.PrintMore Byte Sl Arr Mem Gives ArrEq Mat AesMath AesMov AesLin HandKit Copy
set_option linter.unusedVariables false
set_option linter.unusedSimpArgs false
theorem row_at {k : IntKind} {w : World} {a : Option Addr} {len cap : Nat} {z : List Int} (h : Slices.IsRow .u8 w a len cap z) : ∃ b : List B, b.length = len ∧ len ≤ cap ∧ Kd.C (Kd.int .u8) w a len (ib b) := by
  obtain ⟨hsl, hlen, hwf⟩ := h.sl
  obtain ⟨A, c, hv, hc, hC⟩ := hsl
  injection hv with e1 e2 e3
  subst e1
  subst e3
  obtain ⟨b, hb⟩ := ib_of (fun x hx => wf_u8 (hwf x hx))
  rw [hb, ib_length] at hlen
  rw [hb, ib_length] at hC hc
  subst hlen
  exact ⟨b, rfl, hc, hC⟩
end Go.Proofs.Ytpdikfmdnlhllaa.Aes
namespace Go.Proofs.Ytpdikfmdnlhllaa.RangeN
open Go Go.RowKit
/-- What an iterator promises: it yields values one by one, number j being such as G says; St: its own steps; Kp: what a round that goes on keeps; fin: it may come to its end, behind n values. -/
def SeqN (F : Fence) (n : Nat) (P : Program) (g : Nat) (lb : Array Value) (G : Nat → Value → World → Prop) (St Kp : World → World → Prop) (N : Nat) (fin : Prop) (w : World) : Prop :=
  ∀ (l : Nat) (J : Nat → World → Prop) (Jx : World → Prop) (W : World), Below w.heap.size w W → (∀ j A B, J j A → St A B → J j B) → (∀ A B, Jx A → St A B → Jx B) → (∀ j A, J j A → j ≤ N) →
    (∀ j v W1, J j W1 → G j v W1 → YieldAt F (n - 1) P l #[v] W1 fun e W' => (e = .returned (.bool true) ∧ J (j + 1) W' ∧ Kp W1 W') ∨ (e = .returned (.bool false) ∧ Jx W')) →
    J 0 W → CallsIn F n P g (#[.func (.yield l) #[] #[]] ++ lb) W fun e W' => (∃ v, e = .returned v) ∧ ((fin ∧ J N W') ∨ Jx W')
/-- How a round may be left. -/
def leftBy (B : Nat) (Kp : World → World → Prop) (I : World → Prop) (Ix : Code → World → Prop) (W : World) : Exit → Act → World → Prop
  | .normal, _, W' => KeepsFrom B W W' ∧ Kp W W' ∧ I W'
  | .ret, _, W' => KeepsFrom B W W' ∧ Ix .ret W'
  | .exit id, _, W' => KeepsFrom B W W' ∧ Ix (.exit id) W'
  | .goto t, _, W' => KeepsFrom B W W' ∧ Ix (.goto t) W'
  | .panic _, _, _ => False
  | .outgrown, _, _ => False
def Lasts (B : Nat) (I : World → Prop) : Prop := OwnFrom B (fun (_ : Unit) W => I W)
variable {F : Fence} {n : Nat} {P : Program}
end Go.Proofs.Ytpdikfmdnlhllaa.RangeN
namespace Go.Proofs.Ytpdikfmdnlhllaa.RoundKit
set_option linter.unusedVariables false
open Go Go.RowKit RangeN Mem Go.Proofs.YtpdikfmdnlhllaaW.PrintWords Go.Proofs.YtpdikfmdnlhllaaW.PrintMore Go.Proofs.YtpdikfmdnlhllaaW.PrintLast
variable {P : Program} {l₀ n : Nat} {ops : Array Oper} {Q : Exit → Act → World → Prop}
/-- The wide fence within a round of loop l₀. -/
abbrev W (l₀ : Nat) : Fence := Fence.wide.inRound l₀
theorem rowsIn_of {row : String} {args : Array Value} {w : World} {R : Value → World → Prop} (h : Rows P row args w R) : RowsIn (W l₀) n P row args w R :=
  fun c cs _ => let ⟨v, w', r, s⟩ := h c cs; ⟨v, w', r, (stepsIn_wide (P := P)).2 s⟩
theorem callsIn_of {f : FuncId} {args : Array Value} {w : World} {R : Ending → World → Prop} (h : Calls P f args w R) : CallsIn (W l₀) n P f args w R :=
  CallsIn.inRound l₀ (callsIn_wide.2 h)
def plainOp (o : Oper) : Bool := match o.op with | .defer _ => false | _ => true
theorem opIn_of {o : Oper} {a : Act} {w : World} {K : Act → World → Prop} (hp : plainOp o = true) (h : o.wp P a w K Q) : o.wpIn (W l₀) n P a w K Q := by
  refine ⟨fun _ _ => trivial, ?_⟩
  have hs : o.semAt (W l₀).round a.eval = execOp a.eval o := Oper.semAt_some l₀ a.eval o (fun c hc => by unfold plainOp at hp; rw [hc] at hp; cases hp)
  rw [hs]
  unfold Oper.wp at h
  generalize (execOp a.eval o).run P w = r at h
  cases r with
  | ok x w' =>
    cases x with
    | enter f args => exact ⟨fun hd => (by cases hd), callsIn_of h⟩
    | row r args => exact ⟨fun hd => (by cases hd), rowsIn_of h⟩
    | round => exact h.elim
    | value v => exact h
    | skip => exact h
    | defer d => exact h
    | _ => exact h.elim
  | halt x w' => cases x <;> exact h
theorem listIn_of (ho : ¬ LetsOut Q) : ∀ (l : List Oper), (l.all plainOp) = true → ∀ (a : Act) (w : World), wpList P ops Q l a w → wpListIn (W l₀) n P ops Q l a w
  | [], _, _, _, h => h
  | o :: rest, hp, a, w, h => by
    rw [List.all_cons, Bool.and_eq_true] at hp
    unfold wpList at h
    unfold wpListIn
    split at h
    · rename_i hw
      rw [if_pos hw]
      exact Oper.wpIn_mono (fun a w h => listIn_of ho rest hp.2 a w h) (opIn_of hp.1 (h.resolve_right (fun x => ho x.2)))
    · rename_i hw
      rw [if_neg hw]
      exact ⟨fun _ _ => trivial, listIn_of ho rest hp.2 _ _ h⟩
/-- A region within a round. -/
theorem region_of {id : Nat} {l : List Oper} {a : Act} {w : World} (hp : l.all plainOp = true) (ho : ¬ LetsOut Q) (h : wpList P l.toArray Q l a w) : (Code.region id l.toArray false).wpIn (W l₀) n P Q a w :=
  wpIn_region_lit (listIn_of ho l hp a w h)
theorem opAtIn_of {i : Nat} {K : Act → World → Prop} {a : Act} {w : World} (hp : (ops.toList.all plainOp) = true) (ho : ¬ LetsOut Q) (h : wpOp P ops Q i K a w) : wpOpIn (W l₀) n P ops Q i K a w := by
  unfold wpOp at h
  unfold wpOpIn
  split at h
  · rename_i hn; rw [hn]; exact h
  · rename_i o hs
    rw [hs]
    have hp1 : plainOp o = true := List.all_eq_true.1 hp o (by
      obtain ⟨hi, rfl⟩ := Array.getElem?_eq_some_iff.1 hs
      exact Array.mem_toList_iff.2 (Array.getElem_mem hi))
    dsimp only
    split at h
    · rename_i hw; rw [if_pos hw]; exact opIn_of hp1 (h.resolve_right (fun x => ho x.2))
    · rename_i hw; rw [if_neg hw]; exact ⟨fun _ _ => trivial, h⟩
theorem anyIn_of {md : Region.Mode} (hp : (ops.toList.all plainOp) = true) (ho : ¬ LetsOut Q) : ∀ (fuel : Nat) (listed : Array Bool) (a : Act) (w : World), wpAny P md ops Q fuel listed a w → wpAnyIn (W l₀) n P md ops Q fuel listed a w
  | 0, _, _, _, h => h
  | fuel + 1, listed, a, w, h => ⟨h.1, fun i hi => wpOpIn_mono (fun a w h => anyIn_of hp ho fuel _ a w h) (opAtIn_of hp ho (h.2 i hi))⟩
/-- A post that no run outgrows. -/
def shut (Q : Exit → Act → World → Prop) : Exit → Act → World → Prop
  | .outgrown, _, _ => False
  | e, a, w => Q e a w
theorem shut_out : ¬ LetsOut (shut Q) := fun ⟨_, _, h⟩ => h
theorem shut_of {e : Exit} {a : Act} {w : World} (h : shut Q e a w) : Q e a w := by cases e <;> first | exact h | exact h.elim
theorem shut_normal {a : Act} {w : World} (h : Q .normal a w) : shut Q .normal a w := h
/-- A region within a round, walked by the plain walk's words. -/
theorem region_in {id : Nat} {l : List Oper} {a : Act} {w : World} (hp : l.all plainOp = true) (h : wpList P l.toArray (shut Q) l a w) : (Code.region id l.toArray false).wpIn (W l₀) n P Q a w :=
  wpIn_mono (region_of hp shut_out h) (fun _ _ _ => shut_of)
/-- A region of open order within a round. -/
theorem start_in {S : World → Prop} {ds : List Nat} {id m : Nat} {a : Act} {w : World} (hp : ops.toList.all plainOp = true) (l : Array Bool) (hm : P.follows .mixedOrders = true) (hn : ops.size = m) (hl : Array.replicate m false = l) (hS : S w.drew)
    (h : S w.drew → wpAnyLast P .any ops (shut Q) S ds m l a w.drew) : (Code.region id ops true).wpIn (W l₀) n P Q a w := by
  subst hn
  subst hl
  exact wpIn_mono (wpIn_region_any hm (anyIn_of hp shut_out _ _ _ _ (wpAny_of_last _ _ _ _ (h hS)))) (fun _ _ _ => shut_of)
/-- The blocks of bs lie as they lay. -/
def Kp (bs : List Nat) (A B : World) : Prop := ∀ k, k ∈ bs → ∀ o, A.heap[k]? = some o → o.isCells = true → B.heap[k]? = some o
/-- .. and so does whatever is no cells. -/
structure Rd (bs : List Nat) (A B : World) : Prop where
  size : A.heap.size ≤ B.heap.size
  same : ∀ k o, A.heap[k]? = some o → (o.isCells = false ∨ k ∈ bs) → B.heap[k]? = some o
section
variable {B : Nat}
theorem lasts_pure (p : Prop) : Lasts B (fun _ => p) := fun _ _ _ _ h _ _ => h
theorem lasts_and {I J : World → Prop} (h : Lasts B I) (k : Lasts B J) : Lasts B (fun w => I w ∧ J w) := fun s X Y row hs hg hr => ⟨h s X Y row hs.1 hg hr, k s X Y row hs.2 hg hr⟩
theorem lasts_ex {α : Sort _} {I : α → World → Prop} (h : ∀ x, Lasts B (I x)) : Lasts B (fun w => ∃ x, I x w) := fun s X Y row hs hg hr => let ⟨x, hx⟩ := hs; ⟨x, h x s X Y row hx hg hr⟩
theorem lasts_aside {I : World → Prop} (h : Lasts B I) : Lasts B (fun w => Aside0 (I w)) := fun s X Y row hs hg hr => ⟨h s X Y row hs.out hg hr⟩
theorem lasts_mem (k : IntKind) (g : Nat) (t : TypeId) (cs : List Int) : Lasts B (fun w => Mem k w g t cs) := fun _ X Y row hs hg hr => by
  refine (hg.block g hs.lt (fun e => ?_)).trans hs
  obtain ⟨_, o, ho, hc⟩ := hr g e.symm
  rw [show X.heap[g]? = _ from hs] at ho
  cases ho; cases hc
theorem lasts_cells (g : Nat) (cs : Array Value) (t : TypeId) (f : Nat × Nat) : Lasts B (fun w => w.heap[g]? = some (.cells cs t f)) := fun _ X Y row hs hg hr => by
  refine (hg.block g (Array.getElem?_eq_some_iff.1 hs).1 (fun e => ?_)).trans hs
  obtain ⟨_, o, ho, hc⟩ := hr g e.symm
  rw [hs] at ho
  cases ho; cases hc
theorem lasts_R {α : Type} {d : Kd α} (hE : d.E = []) {e b : Nat} {ok : Nat → Prop} (v : Value) (xs : List α) : Lasts B (fun w => d.R e w b ok v xs) := fun _ X Y row hs hg hr =>
  Kd.R_grown2 hs hE hg (fun k hk he => by
    obtain ⟨_, o, ho, hc⟩ := hr k hk
    obtain ⟨cells, hcl⟩ := Kd.R_typed hs k he.symm
    rw [hcl] at ho
    cases ho; cases hc)
end
end Go.Proofs.Ytpdikfmdnlhllaa.RoundKit
namespace Go.Proofs.Ytpdikfmdnlhllaa.RangeS
set_option linter.unusedVariables false
open Go Go.RowKit RangeN RoundKit Go.Proofs.YtpdikfmdnlhllaaW.PrintWords
variable {P : Program}
variable {F : Fence} {n : Nat}
theorem wpIn_rangeA {g : Operand} {p : Tmp} {assign body : Code} {Q : Exit → Act → World → Prop} {a : Act} {w : World}
    (hro : F.round = none) (h1 : 1 ≤ n) {gf : Nat} {lb : Array Value} (hg : a.eval g = .func (.func gf) #[] lb) (hFg : F.fn gf) (eg : ∀ args w, (callFunc gf args).run P w = .ok (.enter gf args) w)
    {G : Nat → Value → World → Prop} {St Kp : World → World → Prop} {N : Nat} {fin : Prop} {w0 : World} (hseq : SeqN F (n - 1) P gf lb G St Kp N fin w0)
    (hKt : ∀ {A B C : World}, Kp A B → Kp B C → Kp A C) (hKb : ∀ (W : World) (l : Nat) (o o' : Obj), w.heap.size ≤ l → W.heap[l]? = some o → o.isCells = false → o.isWalk = false → Kp W (W.putObj l o'))
    (hSt : ∀ A B, St A B → ∀ b o, w.heap.size ≤ b → A.heap[b]? = some o → o.isCells = false → B.heap[b]? = some o) (hb0 : Below w0.heap.size w0 w)
    (I : Nat → World → Prop) (Ix : Code → World → Prop) (hI : ∀ j, Lasts w.heap.size (I j)) (hIx : ∀ c, Lasts w.heap.size (Ix c)) (hG : ∀ j v, Lasts w.heap.size (G j v))
    (hIs : ∀ j A B, I j A → St A B → I j B) (hIxs : ∀ c A B, Ix c A → St A B → Ix c B) (hIN : ∀ j A, I j A → j ≤ N) (h0 : I 0 w) (H : Nat → Value → Act → World → Prop) (hH : ∀ j v a', Lasts w.heap.size (H j v a'))
    (hassign : ∀ (l j : Nat) (v : Value) (W : World), I j W → G j v W → assign.wpIn (F.inRound l) (n - 1 - 1) P (Exit.then (fun a' W' => KeepsFrom w.heap.size W W' ∧ Kp W W' ∧ I j W' ∧ H j v a' W') (fun _ _ _ => False)) { tmps := a.tmps.setIfInBounds p v, defers := [] } W)
    (hbody : ∀ (l j : Nat) (v : Value) (a' : Act) (W : World), I j W → H j v a' W → body.wpIn (F.inRound l) (n - 1 - 1) P (leftBy w.heap.size Kp (I (j + 1)) Ix W) a' W)
    (hdone : ∀ (D : Nat) (W : World), w.heap.size ≤ D → fin → I N W → W.heap[D]? = some (.deferred (some [])) → Q .normal { a with defers := { target := .collected D, args := #[] } :: a.defers } W)
    (hstop : ∀ (D : Nat) (c : Code) (W : World), w.heap.size ≤ D → Ix c W → W.heap[D]? = some (.deferred (some [])) → c.wpIn F n P Q { a with defers := { target := .collected D, args := #[] } :: a.defers } W) :
    (Code.rangeFunc g #[p] assign body).wpIn F n P Q a w := by
  refine wpIn_rangeFunc ?_
  intro fn hfn
  rw [hro]
  obtain ⟨rec, hrec⟩ : ∃ rec : LoopState → Option Code → Loop, rec = fun st pe => { state := st, pending := pe, fn, tmps := a.tmps, params := #[p], assign, body, defers := w.heap.size } := ⟨_, rfl⟩
  obtain ⟨W1, hW1⟩ : ∃ W1, (w.alloc (.deferred (some []))).alloc (.loop (rec .ready none)) = W1 := ⟨_, rfl⟩
  obtain ⟨L, hL⟩ : ∃ L, L = w.heap.size + 1 := ⟨_, rfl⟩
  have hLge : w.heap.size ≤ L := by omega
  have hne : w.heap.size ≠ L := by omega
  have hL1 : W1.heap[L]? = some (.loop (rec .ready none)) := by
    rw [← hW1, hL]
    have := World.alloc_heap_new (w.alloc (.deferred (some []))) (.loop (rec .ready none))
    rwa [World.size_alloc] at this
  have hK1 : W1.heap[w.heap.size]? = some (.deferred (some [])) := by
    rw [← hW1]; exact (Below.heap_alloc _ _ _ (by simp)).trans (World.alloc_heap_new w _)
  have hI1 : I 0 W1 := by
    rw [← hW1]
    exact (hI 0).alloc (s := ()) _ ((hI 0).alloc (s := ()) _ h0)
  have hb1 : Below w0.heap.size w0 W1 := by
    rw [← hW1]; exact hb0.trans ((((Below.refl _ w).alloc (Nat.le_refl _) _).alloc (by simp) _).mono hb0.size)
  refine ⟨L, [{ target := .collected w.heap.size, args := #[] }], W1, { target := .fn (.func gf) lb, args := #[.func (.yield L) #[] #[]] }, W1, gf, #[.func (.yield L) #[] #[]] ++ lb, W1, ?_, ?_, ?_, ?_, fun _ => h1, ?_⟩
  · rw [← hW1, hrec, hL]; exact run_enterLoop_outer _ _ _ _ _
  · simp only [resolve, hg]
    simp [go_sem]
  · intro f' hf'; simp [Target.leads] at hf'; subst hf'; exact hFg
  · simp [invoke, go_sem, eg]
  · have hJs : ∀ j A B, (I j A ∧ A.heap[L]? = some (.loop (rec .ready none)) ∧ A.heap[w.heap.size]? = some (.deferred (some []))) → St A B → (I j B ∧ B.heap[L]? = some (.loop (rec .ready none)) ∧ B.heap[w.heap.size]? = some (.deferred (some []))) :=
      by intro j A B h hs; exact ⟨hIs j A B h.1 hs, hSt A B hs _ _ hLge h.2.1 rfl, hSt A B hs _ _ (Nat.le_refl _) h.2.2 rfl⟩
    have hJxs : ∀ A B, (∃ c, Ix c A ∧ A.heap[L]? = some (.loop (rec .done (some c))) ∧ A.heap[w.heap.size]? = some (.deferred (some []))) → St A B → (∃ c, Ix c B ∧ B.heap[L]? = some (.loop (rec .done (some c))) ∧ B.heap[w.heap.size]? = some (.deferred (some []))) :=
      by rintro A B ⟨c, hc, hl, hk⟩ hs; exact ⟨c, hIxs c A B hc hs, hSt A B hs _ _ hLge hl rfl, hSt A B hs _ _ (Nat.le_refl _) hk rfl⟩
    refine (hseq L (fun j W => I j W ∧ W.heap[L]? = some (.loop (rec .ready none)) ∧ W.heap[w.heap.size]? = some (.deferred (some [])))
      (fun W => ∃ c, Ix c W ∧ W.heap[L]? = some (.loop (rec .done (some c))) ∧ W.heap[w.heap.size]? = some (.deferred (some [])))
      W1 hb1 hJs hJxs (fun j A h => hIN j A h.1) ?_ ⟨hI1, hL1, hK1⟩).mono ?_
    · rintro j v W ⟨hi, hl, hk⟩ hGv
      have hlt : L < W.heap.size := (Array.getElem?_eq_some_iff.1 hl).1
      have hy : (Instr.yield L #[v]).run P W = .ok (.round L fn (a.tmps.setIfInBounds p v) assign body) W := by
        have hy := run_yield (P := P) (args := #[v]) hl (by rw [hrec]; rfl)
        rw [hrec] at hy
        simpa using hy
      refine ⟨fn, _, assign, body, hy, roundIn_of_wpIn hfn (wpIn_mono (hassign _ j v W hi hGv) ?_)⟩
      intro e0 a0 W0 hp0
      cases e0 with
      | ret => exact hp0.elim
      | exit id => exact hp0.elim
      | goto t => exact hp0.elim
      | panic ch => exact hp0.elim
      | outgrown => exact hp0.elim
      | normal =>
      obtain ⟨hkf0, hkp0, hi0, hH0⟩ := hp0
      have hl := hkf0.same _ _ hLge hl rfl
      have hk := hkf0.same _ _ (Nat.le_refl _) hk rfl
      have hlt : L < W0.heap.size := (Array.getElem?_eq_some_iff.1 hl).1
      refine ⟨_, run_beginRound hl (by rw [hrec]), ?_⟩
      obtain ⟨Wb, hWb⟩ : ∃ Wb, Wb = W0.putObj L (.loop { rec .ready none with state := .busy }) := ⟨_, rfl⟩
      have hl2 : Wb.heap[L]? = some (.loop { rec .ready none with state := .busy }) := by rw [hWb]; exact World.putObj_heap_same hlt
      have hk2 : Wb.heap[w.heap.size]? = some (.deferred (some [])) := by rw [hWb]; exact (World.putObj_heap_other hne).trans hk
      have hw2 : Kp W Wb := by rw [hWb]; exact hKt hkp0 (hKb _ _ _ _ hLge hl rfl rfl)
      have hi2 : I j Wb := by rw [hWb]; exact (hI j).putObj (s := ()) _ hi0 hLge hl rfl
      have hH2 : H j v a0 Wb := by rw [hWb]; exact (hH j v a0).putObj (s := ()) _ hH0 hLge hl rfl
      rw [← hWb]
      refine wpIn_mono (hbody _ j v a0 _ hi2 hH2) ?_
      have fin3 : ∀ (jump : Option Code) (W3 : World), KeepsFrom w.heap.size Wb W3 →
          (Instr.endRound L jump).run P W3 = .ok (.bool jump.isNone) (W3.putObj L (.loop (rec (if jump.isNone then .ready else .done) jump))) ∧
          W3.heap[L]? = some (.loop { rec .ready none with state := .busy }) ∧
          (W3.putObj L (.loop (rec (if jump.isNone then .ready else .done) jump))).heap[L]? = some (.loop (rec (if jump.isNone then .ready else .done) jump)) ∧
          (W3.putObj L (.loop (rec (if jump.isNone then .ready else .done) jump))).heap[w.heap.size]? = some (.deferred (some [])) := fun jump W3 hk3 => by
        have hl3 := hk3.same _ _ hLge hl2 rfl
        have he := run_endRound (P := P) jump hl3
        refine ⟨?_, hl3, World.putObj_heap_same (Array.getElem?_eq_some_iff.1 hl3).1, (World.putObj_heap_other hne).trans (hk3.same _ _ (Nat.le_refl _) hk2 rfl)⟩
        rw [hrec] at he ⊢
        exact he
      have out3 : ∀ (c : Code) (W3 : World), KeepsFrom w.heap.size Wb W3 → Ix c W3 → ∃ v' W4, (Instr.endRound L (some c)).run P W3 = .ok v' W4 ∧ v' = .bool false ∧ ∃ c', Ix c' W4 ∧ W4.heap[L]? = some (.loop (rec .done (some c'))) ∧ W4.heap[w.heap.size]? = some (.deferred (some [])) := fun c W3 hk3 hi3 => by
        obtain ⟨hr, hl3, hl4, hk4⟩ := fin3 (some c) W3 hk3
        exact ⟨_, _, hr, rfl, c, (hIx c).putObj (s := ()) _ hi3 hLge hl3 rfl, hl4, hk4⟩
      rintro e a3 W3 hp
      cases e with
      | normal =>
        obtain ⟨hk3, hkp3, hi3⟩ := hp
        obtain ⟨hr, hl3, hl4, hk4⟩ := fin3 none W3 hk3
        exact ⟨_, _, hr, .inl ⟨rfl, ⟨(hI _).putObj (s := ()) _ hi3 hLge hl3 rfl, hl4, hk4⟩, hKt (hKt hw2 hkp3) (hKb _ _ _ _ hLge hl3 rfl rfl)⟩⟩
      | ret =>
        obtain ⟨v', W4, hr, rfl, h⟩ := out3 _ W3 hp.1 hp.2
        exact ⟨_, _, hr, .inr ⟨rfl, h⟩⟩
      | exit id =>
        obtain ⟨v', W4, hr, rfl, h⟩ := out3 _ W3 hp.1 hp.2
        exact ⟨_, _, hr, .inr ⟨rfl, h⟩⟩
      | goto t =>
        obtain ⟨v', W4, hr, rfl, h⟩ := out3 _ W3 hp.1 hp.2
        exact ⟨_, _, hr, .inr ⟨rfl, h⟩⟩
      | panic ch => exact hp.elim
      | outgrown => exact hp.elim
    · rintro e W2 ⟨⟨v, rfl⟩, (⟨hf, hi, hl, hk⟩ | ⟨c, hi, hl, hk⟩)⟩
      · have he := run_endLoop (P := P) hl (by rw [hrec]; simp)
        have hl' := hl
        rw [hrec] at he
        exact ⟨none, _, he, hdone _ _ (Nat.le_refl _) hf ((hI N).putObj (s := ()) _ hi hLge hl rfl) ((World.putObj_heap_other hne).trans hk)⟩
      · have he := run_endLoop (P := P) hl (by rw [hrec]; simp)
        rw [hrec] at he
        exact ⟨some c, _, he, hstop _ c _ (Nat.le_refl _) ((hIx c).putObj (s := ()) _ hi hLge hl rfl) ((World.putObj_heap_other hne).trans hk)⟩
/-- But for what S says, the blocks ahead of lim, and all cells, lie as they lay. -/
structure KpS (lim : Nat) (S : Nat → Prop) (A B : World) : Prop where
  size : A.heap.size ≤ B.heap.size
  same : ∀ k, ¬ S k → (k < lim ∨ ∃ cs t f, A.heap[k]? = some (.cells cs t f)) → B.heap[k]? = A.heap[k]?
/-- .. and so does whatever is no cells. -/
structure RdS (S : Nat → Prop) (A B : World) : Prop where
  size : A.heap.size ≤ B.heap.size
  same : ∀ k o, A.heap[k]? = some o → (o.isCells = false ∨ ¬ S k) → B.heap[k]? = some o
theorem KpS.trans {lim : Nat} {S : Nat → Prop} {A B C : World} (h : KpS lim S A B) (k : KpS lim S B C) : KpS lim S A C := ⟨Nat.le_trans h.size k.size, fun i hi ho => by
  have h1 := h.same i hi ho
  refine (k.same i hi ?_).trans h1
  rcases ho with ho | ⟨cs, t, f, ho⟩
  · exact .inl ho
  · exact .inr ⟨cs, t, f, h1.trans ho⟩⟩
theorem KpS.put {lim : Nat} {S : Nat → Prop} (A : World) (l : Nat) (o o' : Obj) (hl : A.heap[l]? = some o) (hc : o.isCells = false) (hlim : lim ≤ l) : KpS lim S A (A.putObj l o') := ⟨by simp [World.putObj], fun k _ hk => by
  refine World.putObj_heap_other (fun e => ?_)
  subst e
  rcases hk with hk | ⟨cs, t, f, hk⟩
  · omega
  · rw [hl] at hk; cases hk; cases hc⟩
theorem RdS.refl (S : Nat → Prop) (A : World) : RdS S A A := ⟨Nat.le_refl _, fun _ _ h _ => h⟩
theorem RdS.keeps {S : Nat → Prop} {A B : World} (h : RdS S A B) (N : Nat) : KeepsFrom N A B := ⟨h.size, fun k o _ ho hc => h.same k o ho (.inl hc)⟩
theorem RdS.kp {S : Nat → Prop} {A B : World} (h : RdS S A B) {lim : Nat} (hl : lim ≤ A.heap.size) : KpS lim S A B := ⟨h.size, fun k hk ho => by
  have hlt : ∃ o, A.heap[k]? = some o := by
    rcases ho with ho | ⟨cs, t, f, ho⟩
    · exact ⟨_, Array.getElem?_eq_getElem (Nat.lt_of_lt_of_le ho hl)⟩
    · exact ⟨_, ho⟩
  obtain ⟨o, ho2⟩ := hlt
  rw [ho2]
  exact h.same k o ho2 (.inr hk)⟩
theorem RdS.grown {S : Nat → Prop} {A B C : World} (h : RdS S A B) {row : Option Nat} (hg : B.grownBy C row) (hr : ∀ r, row = some r → S r ∧ ∃ cs t f, B.heap[r]? = some (.cells cs t f)) : RdS S A C :=
  ⟨Nat.le_trans h.size hg.size, fun k o ho hk => by
    have hB := h.same k o ho hk
    have hlt := (Array.getElem?_eq_some_iff.1 hB).1
    refine (hg.block k hlt (fun e => ?_)).trans hB
    obtain ⟨hn, cs, t, f, hc⟩ := hr k e.symm
    rcases hk with hk | hk
    · rw [hc] at hB; cases hB; cases hk
    · exact hk hn⟩
theorem RdS.below {S : Nat → Prop} {A B C : World} (h : RdS S A B) (hb : Below B.heap.size B C) : RdS S A C :=
  ⟨Nat.le_trans h.size hb.size, fun k o ho hk => by
    have hB := h.same k o ho hk
    exact (hb.block k (Array.getElem?_eq_some_iff.1 hB).1).trans hB⟩
theorem RdS.set {S : Nat → Prop} {A B : World} (h : RdS S A B) {g : Nat} {cs : Array Value} {t : TypeId} {f : Nat × Nat} (hc : B.heap[g]? = some (.cells cs t f)) (hg : S g) (i : Nat) (v : Value) : RdS S A (B.setCell ⟨g, i, none⟩ v) :=
  ⟨Nat.le_trans h.size (Nat.le_of_eq (Mem.setCell_size _ _ _).symm), fun k o ho hk => by
    have hB := h.same k o ho hk
    refine (Below.heap_setCell B ⟨g, i, none⟩ v k (fun e => ?_)).trans hB
    have e : k = g := e
    subst e
    rcases hk with hk | hk
    · rw [hc] at hB; cases hB; cases hk
    · exact hk hg⟩
def leftS (S : Nat → Prop) (I : World → Prop) (Ix : Code → World → Prop) (A : World) : Exit → Act → World → Prop
  | .normal, _, B => RdS S A B ∧ I B
  | .ret, _, B => RdS S A B ∧ Ix .ret B
  | .exit id, _, B => RdS S A B ∧ Ix (.exit id) B
  | _, _, _ => False
theorem range_wpS {g : Operand} {p : Tmp} {assign body : Code} {a : Act} {w : World} {Q : Exit → Act → World → Prop}
    {gf : Nat} {lb : Array Value} (hg : a.eval g = .func (.func gf) #[] lb) (eg : ∀ args w, (callFunc gf args).run P w = .ok (.enter gf args) w)
    {G : Nat → Value → World → Prop} {St : World → World → Prop} {lim : Nat} {S : Nat → Prop} {N : Nat} {fin : Prop} {w0 : World} (hseq : SeqN Fence.wide 9 P gf lb G St (KpS lim S) N fin w0) (hlim : lim ≤ w.heap.size)
    (hSt : ∀ A B, St A B → ∀ b o, w.heap.size ≤ b → A.heap[b]? = some o → o.isCells = false → B.heap[b]? = some o) (hb0 : Below w0.heap.size w0 w)
    (I : Nat → World → Prop) (Ix : Code → World → Prop) (hI : ∀ j, Lasts w.heap.size (I j)) (hIx : ∀ c, Lasts w.heap.size (Ix c)) (hG : ∀ j v, Lasts w.heap.size (G j v))
    (hIs : ∀ j A B, I j A → St A B → I j B) (hIxs : ∀ c A B, Ix c A → St A B → Ix c B) (hIN : ∀ j A, I j A → j ≤ N) (hIz : ∀ j A, I j A → lim ≤ A.heap.size) (h0 : I 0 w) (H : Nat → Value → Act → World → Prop) (hH : ∀ j v a', Lasts w.heap.size (H j v a'))
    (hassign : ∀ (l j : Nat) (v : Value) (W : World), I j W → G j v W → assign.wpIn (RoundKit.W l) 8 P (Exit.then (fun a' W' => RdS S W W' ∧ I j W' ∧ H j v a' W') (fun _ _ _ => False)) { tmps := a.tmps.setIfInBounds p v, defers := [] } W)
    (hbody : ∀ (l j : Nat) (v : Value) (a' : Act) (W : World), I j W → H j v a' W → body.wpIn (RoundKit.W l) 8 P (leftS S (I (j + 1)) Ix W) a' W)
    (hdone : ∀ (D : Nat) (W : World), w.heap.size ≤ D → fin → I N W → W.heap[D]? = some (.deferred (some [])) → Q .normal { a with defers := { target := .collected D, args := #[] } :: a.defers } W)
    (hstop : ∀ (D : Nat) (c : Code) (W : World), w.heap.size ≤ D → Ix c W → W.heap[D]? = some (.deferred (some [])) → c.wp P Q { a with defers := { target := .collected D, args := #[] } :: a.defers } W) :
    (Code.rangeFunc g #[p] assign body).wp P Q a w :=
  (wpIn_wide (n := 10)).1 (wpIn_rangeA rfl (by decide) hg trivial eg hseq KpS.trans (fun W l o o' hl ho hc _ => KpS.put W l o o' ho hc (Nat.le_trans hlim hl)) hSt hb0 I Ix hI hIx hG hIs hIxs hIN h0 H hH
    (fun l j v W hi hgv => wpIn_mono (hassign l j v W hi hgv) (fun e a' W' h => by
      cases e with
      | normal => exact ⟨h.1.keeps _, h.1.kp (hIz j W hi), h.2.1, h.2.2⟩
      | ret => exact h
      | exit id => exact h
      | goto t => exact h
      | panic ch => exact h
      | outgrown => exact h))
    (fun l j v a' W hi hh => wpIn_mono (hbody l j v a' W hi hh) (fun e a' W' h => by
      cases e with
      | normal => exact ⟨h.1.keeps _, h.1.kp (hIz j W hi), h.2⟩
      | ret => exact ⟨h.1.keeps _, h.2⟩
      | exit id => exact ⟨h.1.keeps _, h.2⟩
      | goto t => exact h.elim
      | panic ch => exact h
      | outgrown => exact h))
    hdone (fun D c W hD hx hk => (wpIn_wide (n := 10)).2 (hstop D c W hD hx hk)))
theorem range_wpA {g : Operand} {p : Tmp} {assign body : Code} {a : Act} {w : World} {Q : Exit → Act → World → Prop}
    {gf : Nat} {lb : Array Value} (hg : a.eval g = .func (.func gf) #[] lb) (eg : ∀ args w, (callFunc gf args).run P w = .ok (.enter gf args) w)
    {G : Nat → Value → World → Prop} {St : World → World → Prop} {lim : Nat} {S : Nat → Prop} {N : Nat} {fin : Prop} {w0 : World} (hseq : SeqN Fence.wide 9 P gf lb G St (KpS lim S) N fin w0) (hlim : lim ≤ w.heap.size)
    (hSt : ∀ A B, St A B → ∀ b o, w.heap.size ≤ b → A.heap[b]? = some o → o.isCells = false → B.heap[b]? = some o) (hb0 : Below w0.heap.size w0 w)
    (I : Nat → World → Prop) (Ix : Code → World → Prop) (hI : ∀ j, Lasts w.heap.size (I j)) (hIx : ∀ c, Lasts w.heap.size (Ix c)) (hG : ∀ j v, Lasts w.heap.size (G j v))
    (hIs : ∀ j A B, I j A → St A B → I j B) (hIxs : ∀ c A B, Ix c A → St A B → Ix c B) (hIN : ∀ j A, I j A → j ≤ N) (hIz : ∀ j A, I j A → lim ≤ A.heap.size) (h0 : I 0 w) (a₁ : Nat → Value → Act) (M : Nat → Nat → Value → World → Prop) (hM : ∀ j q v, Lasts w.heap.size (M j q v))
    (hassign : ∀ (l j : Nat) (v : Value) (W : World), I j W → G j v W → assign.wpIn (RoundKit.W l) 8 P (Exit.then (fun a' W' => RdS S W W' ∧ I j W' ∧ ∃ q, a' = a₁ q v ∧ M j q v W') (fun _ _ _ => False)) { tmps := a.tmps.setIfInBounds p v, defers := [] } W)
    (hbody : ∀ (l j q : Nat) (v : Value) (W : World), I j W → M j q v W → body.wpIn (RoundKit.W l) 8 P (leftS S (I (j + 1)) Ix W) (a₁ q v) W)
    (hdone : ∀ (D : Nat) (W : World), w.heap.size ≤ D → fin → I N W → W.heap[D]? = some (.deferred (some [])) → Q .normal { a with defers := { target := .collected D, args := #[] } :: a.defers } W)
    (hstop : ∀ (D : Nat) (c : Code) (W : World), w.heap.size ≤ D → Ix c W → W.heap[D]? = some (.deferred (some [])) → c.wp P Q { a with defers := { target := .collected D, args := #[] } :: a.defers } W) :
    (Code.rangeFunc g #[p] assign body).wp P Q a w :=
  range_wpS hg eg hseq hlim hSt hb0 I Ix hI hIx hG hIs hIxs hIN hIz h0 (fun j v a' W' => ∃ q, a' = a₁ q v ∧ M j q v W') (fun j v a' => lasts_ex fun q => lasts_and (lasts_pure _) (hM j q v)) hassign
    (fun l j v a' W hi hh => by
      obtain ⟨q, rfl, hm⟩ := hh
      exact hbody l j q v W hi hm) hdone hstop
end Go.Proofs.Ytpdikfmdnlhllaa.RangeS
namespace Go.Proofs.Ytpdikfmdnlhllaa.Aes
open Byte AesMath
theorem incGo_bytes : ∀ (i : Nat) (l : List Int), Bytes l → Bytes (Octet.incGo i l)
  | 0, _, h => h
  | i + 1, l, h => by
    have hs := h.set i ((l.getD i 0 + 1) % 256) (by omega) (by omega)
    unfold Octet.incGo
    split
    · exact incGo_bytes i _ hs
    · exact hs
/-- Bytes and 1. -/
def incB (b : List B) : List B := unI (Octet.incGo b.length (ib b))
theorem ib_incB (b : List B) : ib (incB b) = Octet.incGo b.length (ib b) := ib_unI (incGo_bytes _ _ (bytes_ib b))
theorem incB_length (b : List B) : (incB b).length = b.length := by rw [← ib_length, ib_incB, Octet.incGo_length, ib_length]
theorem inc_f (b : List B) (h : b.length ≤ 140737488351232) : Octet.octet_Inc.f (ib b) = some (ib (incB b)) := by
  rw [CmEval.Inc_eq _ (by rw [ib_length]; exact h), ib_incB, ib_length]
def ctrB (b : List B) : Nat → List B
  | 0 => b
  | j + 1 => incB (ctrB b j)
theorem ctrB_length (b : List B) : ∀ j, (ctrB b j).length = b.length
  | 0 => rfl
  | j + 1 => by rw [ctrB, incB_length, ctrB_length b j]
theorem ctrB_add (b : List B) (i : Nat) : ∀ j, ctrB (ctrB b i) j = ctrB b (i + j)
  | 0 => rfl
  | j + 1 => by rw [ctrB, ctrB_add b i j]; rfl
/-- The stream's first j blocks. -/
def strB (E : List B → List B) (b : List B) : Nat → List B
  | 0 => []
  | j + 1 => strB E b j ++ E (ctrB b j)
theorem strB_length (E : List B → List B) (b : List B) (hE : ∀ y, (E y).length = 16) : ∀ j, (strB E b j).length = 16 * j
  | 0 => rfl
  | j + 1 => by rw [strB, List.length_append, strB_length E b hE j, hE]; omega
theorem strB_more (E : List B → List B) (b : List B) (j : Nat) : ∀ d, ∃ r, strB E b (j + d) = strB E b j ++ r
  | 0 => ⟨[], by simp⟩
  | d + 1 => by
    obtain ⟨r, h⟩ := strB_more E b j d
    exact ⟨r ++ E (ctrB b (j + d)), by rw [← Nat.add_assoc, strB, h, List.append_assoc]⟩
theorem strB_take (E : List B → List B) (b : List B) (hE : ∀ y, (E y).length = 16) (n j N : Nat) (h : n ≤ 16 * j) (hj : j ≤ N) : (strB E b N).take n = (strB E b j).take n := by
  obtain ⟨r, hr⟩ := strB_more E b j (N - j)
  rw [show j + (N - j) = N by omega] at hr
  rw [hr, List.take_append_of_le_length (by rw [strB_length E b hE]; exact h)]
def blocksN (n : Nat) : Nat := (n + 15) / 16
/-- The stream's first n bytes. -/
def streamB (E : List B → List B) (b : List B) (n : Nat) : List B := (strB E b (blocksN n)).take n
theorem streamB_length (E : List B → List B) (b : List B) (hE : ∀ y, (E y).length = 16) (n : Nat) : (streamB E b n).length = n := by
  unfold streamB blocksN
  rw [List.length_take, strB_length E b hE]; omega
theorem streamB_of (E : List B → List B) (b : List B) (hE : ∀ y, (E y).length = 16) (n j : Nat) (h : n ≤ 16 * j) : (strB E b j).take n = streamB E b n := by
  unfold streamB
  rcases Nat.le_total j (blocksN n) with hj | hj
  · exact (strB_take E b hE n j _ h hj).symm
  · exact strB_take E b hE n _ j (by unfold blocksN; omega) hj
theorem strB_drop (E : List B → List B) (b : List B) (hE : ∀ y, (E y).length = 16) (i : Nat) : ∀ j, strB E b (i + j) = strB E b i ++ strB E (ctrB b i) j
  | 0 => by simp [strB]
  | j + 1 => by rw [← Nat.add_assoc, strB, strB_drop E b hE i j, strB, List.append_assoc, ctrB_add]
end Go.Proofs.Ytpdikfmdnlhllaa.Aes
namespace Go.Proofs.Ytpdikfmdnlhllaa.Aes
open Go Go.RowKit Go.Proofs.Ytpdikfmdnlhllaa.PNib Go.Proofs.YtpdikfmdnlhllaaW.PrintWords Go.Proofs.YtpdikfmdnlhllaaW.PrintLast Go.Proofs.YtpdikfmdnlhllaaW.PrintMore Byte Sl Arr Mem Gives ArrEq Mat AesMath AesMov AesLin HandKit Copy RangeN RoundKit RangeS
set_option linter.unusedVariables false
set_option linter.unusedSimpArgs false
theorem addr_block (ad : Addr) (n : Nat) : (ad.add n).block = ad.block := by unfold Addr.add; split <;> rfl
theorem C_block {W W' : World} {ad : Addr} {n : Nat} {l : List Int} (h : Kd.C (Kd.int .u8) W (some ad) n l) (hk : W'.heap[ad.block]? = W.heap[ad.block]?) : Kd.C (Kd.int .u8) W' (some ad) n l := by
  refine ⟨h.1, h.2.1, fun h0 => ?_⟩
  obtain ⟨ad2, e, hc⟩ := h.2.2 h0
  obtain rfl := Option.some.inj e
  refine ⟨ad, rfl, fun j p hj => ?_⟩
  obtain ⟨cs, hl, hK, hcell⟩ := hc j p hj
  exact ⟨cs, hl, hK, fun i u hi => (World.cell?_of_block (by rw [addr_block]; exact hk)).trans (hcell i u hi)⟩
theorem range16 {W : World} {ad : Addr} {l : List B} (h : Kd.C (Kd.int .u8) W (some ad) 16 (ib l)) (hl : l.length = 16) : ad = ⟨ad.block, ad.off, none⟩ ∧ W.rangeAt ad.block ad.off ((ib l).map (Value.int .u8)) := by
  have key : ∀ j : Nat, j < 16 → W.cell? (ad.add j) = some (.int .u8 ((ib l).getD j 0)) := by
    intro j hj
    obtain ⟨ad2, e, hc⟩ := Kd.at_int h (j : Int) (by omega) (by omega)
    obtain rfl := Option.some.inj e
    rw [Int.toNat_natCast] at hc
    rw [hc]
    unfold rd
    rw [Int.toNat_natCast]
  have e : ad = ⟨ad.block, ad.off, none⟩ := by
    have h0 := key 0 (by decide)
    rw [show ad.add 0 = ad from rfl] at h0
    obtain ⟨bk, of, sp⟩ := ad
    cases sp with
    | none => rfl
    | some x =>
      exfalso
      unfold World.cell? at h0
      dsimp only at h0
      split at h0
      · simp at h0
      · cases h0
  refine ⟨e, fun j v hv => ?_⟩
  rw [List.getElem?_map] at hv
  obtain ⟨x, hx, rfl⟩ := Option.map_eq_some_iff.1 hv
  have hj : j < (ib l).length := (List.getElem?_eq_some_iff.1 hx).1
  rw [ib_length, hl] at hj
  have := key j hj
  rw [e, add_at] at this
  rw [List.getD_eq_getElem?_getD, hx] at this
  exact this
theorem yield_one {P : Program} {F : Fence} {n : Nat} {fn : FuncId} {tmps : Array Value} {assign body : Code} {L : Nat} {w : World} {A B : World → Prop} (h : RoundIn F n P L fn tmps assign body w fun e W' => (e = .returned (.bool true) ∧ A W') ∨ (e = .returned (.bool false) ∧ B W')) :
    RoundIn F n P L fn tmps assign body w fun e W' => ∃ b : Bool, e = .returned (.bool b) ∧ ((b = true ∧ A W') ∨ (b = false ∧ B W')) :=
  h.mono fun e W' h => by
    rcases h with ⟨h1, h2⟩ | ⟨h1, h2⟩
    · exact ⟨true, h1, .inl ⟨rfl, h2⟩⟩
    · exact ⟨false, h1, .inr ⟨rfl, h2⟩⟩
theorem list16 {l : List Int} (h : l.length = 16) : ∃ x0 x1 x2 x3 x4 x5 x6 x7 x8 x9 x10 x11 x12 x13 x14 x15 : Int, l = [x0, x1, x2, x3, x4, x5, x6, x7, x8, x9, x10, x11, x12, x13, x14, x15] := by
  match l, h with
  | [x0, x1, x2, x3, x4, x5, x6, x7, x8, x9, x10, x11, x12, x13, x14, x15], _ => exact ⟨x0, x1, x2, x3, x4, x5, x6, x7, x8, x9, x10, x11, x12, x13, x14, x15, rfl⟩
theorem cell16 {W : World} {ab ao : Nat} {l : List Int} (h : Kd.C (Kd.int .u8) W (some ⟨ab, ao, none⟩) 16 l) (j : Nat) (hj : j < 16) : W.cell? ⟨ab, ao + j, none⟩ = some (.int .u8 (l.getD j 0)) := by
  obtain ⟨ad2, e, hc⟩ := Kd.at_int h (j : Int) (by omega) (by omega)
  obtain rfl := Option.some.inj e
  rw [Int.toNat_natCast, add_at] at hc
  rw [hc]
  unfold rd
  rw [Int.toNat_natCast]
theorem inc_c (b : List B) (hb : b.length = 16) (A : Option Addr) (c : Nat) (hc : 16 ≤ c) (W : World) (h : Kd.C (Kd.int .u8) W A 16 (ib b)) : Calls Try.prog 95 #[.slice A 16 c] W fun e w' => ∃ g2 c2, e = .returned (.slice (some ⟨g2, 0, none⟩) 16 c2) ∧ 16 ≤ c2 ∧ W.heap.size ≤ g2 ∧ Kd.C (Kd.int .u8) w' (some ⟨g2, 0, none⟩) 16 (ib (incB b)) ∧ Below W.heap.size W w' := by
  have := Octet.octet_Inc.calls A c (ib b) (ib (incB b)) W (by rw [ib_length, hb]; exact h) (by rw [ib_length, hb]; exact hc) (inc_f b (by rw [hb]; decide))
  rw [ib_length, hb] at this
  refine this.mono ?_
  rintro e w' ⟨v, rfl, hv, hB⟩
  have hl : (ib (incB b)).length = 16 := by rw [ib_length, incB_length, hb]
  obtain ⟨gv, cap, rfl, hbg, _, _⟩ := Kd.R_form hv (by rw [hl]; decide)
  obtain ⟨_, hcp, hC⟩ := Kd.R_reads' hv
  rw [hl] at hC hcp ⊢
  exact ⟨gv, cap, rfl, hcp, hbg, hC, hB⟩
theorem free_of_row {W : World} {g : Nat} {cs : Array Value} {t : TypeId} (h : W.heap[g]? = some (.cells cs t (0, 0))) : W.frozen? ⟨g, 0, none⟩ = false := by simp [World.frozen?, h]
theorem set_one {W : World} {g : Nat} {v : Value} {t : TypeId} (h : W.heap[g]? = some (.cells #[v] t (0, 0))) (u : Value) : (W.setCell ⟨g, 0, none⟩ u).heap[g]? = some (.cells #[u] t (0, 0)) := by
  simp [World.setCell, Array.getElem?_modify, h]
theorem C_cells {W : World} {ad : Addr} {n : Nat} {l : List Int} (h : Kd.C (Kd.int .u8) W (some ad) n l) (h0 : 0 < n) : ad.block < W.heap.size ∧ ∃ cs t f, W.heap[ad.block]? = some (.cells cs t f) := by
  obtain ⟨ad2, e, hc⟩ := Kd.at_int h (0 : Int) (by omega) (by omega)
  obtain rfl := Option.some.inj e
  rw [show (0 : Int).toNat = 0 from rfl] at hc
  have hb := World.block_lt_of_cell? W _ hc
  refine ⟨hb, ?_⟩
  cases ho : W.heap[ad.block]? with
  | none => simp [World.cell?, Addr.add, ho] at hc
  | some o =>
    cases o with
    | cells cs t f => exact ⟨cs, t, f, rfl⟩
    | _ => simp [World.cell?, Addr.add, ho] at hc
/-- But for two blocks, and what is new, nothing has changed. -/
structure Two (a b : Nat) (w w' : World) : Prop where
  os : w'.os = w.os
  tape : w'.tape = w.tape
  output : w'.output = w.output
  size : w.heap.size ≤ w'.heap.size
  block : ∀ k, k < w.heap.size → k ≠ a → k ≠ b → w'.heap[k]? = w.heap[k]?
theorem Two.of_ch {a b : Nat} {w w' : World} (h : Ch a w w') : Two a b w w' := ⟨h.os, h.tape, h.output, h.size, fun k hk h1 _ => h.block k hk (fun e => h1 (Option.some.inj e))⟩
theorem Two.of_ch2 {a b : Nat} {w w' : World} (h : Ch b w w') : Two a b w w' := ⟨h.os, h.tape, h.output, h.size, fun k hk _ h1 => h.block k hk (fun e => h1 (Option.some.inj e))⟩
theorem Two.of_below {a b : Nat} {w w' : World} (h : Below w.heap.size w w') : Two a b w w' := ⟨h.os, h.tape, h.output, h.size, fun k hk _ _ => h.block k hk⟩
theorem Ch.two {a b : Nat} {w0 w w' : World} (h : Ch a w0 w) (h2 : Two a b w w') (hb : w0.heap.size ≤ b) : Ch a w0 w' :=
  ⟨h2.os.trans h.os, h2.tape.trans h.tape, h2.output.trans h.output, Nat.le_trans h.size h2.size, fun k hk hne => (h2.block k (Nat.lt_of_lt_of_le hk h.size) (fun e => hne (by rw [e])) (by omega)).trans (h.block k hk hne)⟩
theorem two_set {a b : Nat} {W W1 : World} (h : Below W.heap.size W W1) (v : Value) : Two a b W (W1.setCell ⟨b, 0, none⟩ v) :=
  ⟨h.os, h.tape, h.output, Nat.le_trans h.size (Nat.le_of_eq (Mem.setCell_size _ _ _).symm), fun k hk _ hne => (Below.heap_setCell W1 ⟨b, 0, none⟩ v k hne).trans (h.block k hk)⟩
theorem CphL.kp {W W' : World} {g bx lim lim2 : Nat} {ks : List (List B)} {S : Nat → Prop} (h : CphL W g bx lim ks) (hk : KpS lim2 S W W') (hl : lim ≤ lim2) (hg : ¬ S g) (hx : ¬ S bx) (hs : ∀ k, k < lim → ¬ S k) : CphL W' g bx lim ks := by
  obtain ⟨⟨A, c, h, hc, hF⟩, hB, h1, h2⟩ := h
  have eg := hk.same g hg (.inl (by omega))
  have ex := hk.same bx hx (.inl (by omega))
  refine ⟨⟨A, c, eg.trans h, hc, Kd.F_step hF (fun k hk2 _ => hk.same k (hs k hk2.2) (.inl (by have := hk2.2; omega)))⟩, ?_, h1, h2⟩
  rcases hB with h | ⟨F, h, r⟩
  · exact .inl (ex.trans h)
  · exact .inr ⟨F, ex.trans h, r⟩
set_option maxHeartbeats 4000000 in
set_option maxRecDepth 100000 in
theorem blocks_c (g : Nat) (A : Option Addr) (n c : Nat) (w : World) : Calls Try.prog 87 #[.pointer (some ⟨g, 0, none⟩), .slice A n c] w fun e w' => e = .returned (.func (.func 94) #[] #[.pointer (some ⟨w.heap.size, 0, none⟩), .pointer (some ⟨w.heap.size + 1, 0, none⟩)]) ∧ w' = (w.alloc (.cells #[.pointer (some ⟨g, 0, none⟩)] 35)).alloc (.cells #[.slice A n c] 22) := by
  go_enter Try.func87, Try.ntmps87
  go_wp2
  go_ret
  exact ⟨rfl, rfl⟩
set_option maxHeartbeats 4000000 in
set_option maxRecDepth 100000 in
theorem blocks_seq (g bx bC bB lim lim2 : Nat) (S : Nat → Prop) (ks : List (List B)) (n : Nat) (K : KN ks n) (b : List B) (hb : b.length = 16) (N : Nat) (w : World) (ab ao : Nat) (c : Nat)
    (hX : CphL w g bx lim ks) (hC : w.heap[bC]? = some (.cells #[.pointer (some ⟨g, 0, none⟩)] 35 (0, 0))) (hB : w.heap[bB]? = some (.cells #[.slice (some ⟨ab, ao, none⟩) 16 c] 22 (0, 0))) (hc : 16 ≤ c) (hr : Kd.C (Kd.int .u8) w (some ⟨ab, ao, none⟩) 16 (ib b))
    (hS : ¬ S g ∧ ¬ S bx ∧ ¬ S bC ∧ ¬ S bB ∧ ¬ S ab ∧ (∀ k, k < lim → ¬ S k) ∧ (∀ k, w.heap.size ≤ k → ¬ S k)) (hne : bx ≠ bC ∧ bx ≠ bB ∧ bC ≠ bB ∧ ab ≠ bx ∧ ab ≠ bB ∧ lim ≤ bB ∧ lim ≤ bC) (hl : lim ≤ lim2 ∧ lim2 ≤ w.heap.size) :
    SeqN Fence.wide 9 Try.prog 94 #[.pointer (some ⟨bC, 0, none⟩), .pointer (some ⟨bB, 0, none⟩)] (fun j v _ => v = .agg (cellsOf .u8 (ib (encB ks n (ctrB b j))))) (fun A B => Two bx bB A B ∧ BoxS B bx) (KpS lim2 S) N False w := by
  intro l J Jx W hW hJ hJx hJN hY h0
  have HX := Aside0.mk (hX.below hW)
  have HBC := Aside0.mk (show W.heap[bC]? = some (.cells #[.pointer (some ⟨g, 0, none⟩)] 35 (0, 0)) from (hW.block bC (Array.getElem?_eq_some_iff.1 hC).1).trans hC)
  have HBB := Aside0.mk (show W.heap[bB]? = some (.cells #[.slice (some ⟨ab, ao, none⟩) 16 c] 22 (0, 0)) from (hW.block bB (Array.getElem?_eq_some_iff.1 hB).1).trans hB)
  have HR := Aside0.mk (Kd.C_below hr hW)
  have HW := Aside0.mk hW.size
  have HS := Aside0.mk hS
  have HNE := Aside0.mk hne
  have HLL := Aside0.mk hl
  have HY := Aside0.mk hY
  have HJS := Aside0.mk hJ
  have HJN := Aside0.mk hJN
  have HJ := Aside0.mk h0
  have HK := Aside0.mk K
  have HBL := Aside0.mk hb
  have HCC := Aside0.mk hc
  clear hW hX hC hB hc hr hS hne hl hY hJ hJx hJN h0 K hb
  refine callsIn_of_wp Try.func94 rfl trivial ((wpIn_wide (n := 9)).2 ?_)
  simp only [Try.ntmps94, List.size_toArray, List.length_cons, List.length_nil, Nat.reduceAdd, Nat.reduceSub, Array.replicate_succ, Array.replicate_zero, List.push_toArray, List.append_toArray, List.nil_append, List.cons_append]
  go_wp2
  go_loopg [4] (N + 1) (fun kq ov w' => ∃ (j ab ao c : Nat), j + kq = N + 1 ∧ Aside0 (J j w') ∧ Aside0 (w.heap.size ≤ w'.heap.size) ∧ Aside0 (CphL w' g bx lim ks) ∧ Aside0 (w'.heap[bC]? = some (.cells #[.pointer (some ⟨g, 0, none⟩)] 35 (0, 0))) ∧ Aside0 (w'.heap[bB]? = some (.cells #[.slice (some ⟨ab, ao, none⟩) 16 c] 22 (0, 0))) ∧ Aside0 (Kd.C (Kd.int .u8) w' (some ⟨ab, ao, none⟩) 16 (ib (ctrB b j))) ∧ Aside0 (16 ≤ c ∧ ¬ S ab ∧ ab ≠ bx ∧ ab ≠ bB))
  case atStart => exact ⟨0, ab, ao, c, by omega, HJ, HW, HX, HBC, HBB, HR, ⟨⟨HCC.out, HS.out.2.2.2.2.1, HNE.out.2.2.2.1, HNE.out.2.2.2.2.1⟩⟩⟩
  case round =>
    clear HJ HW HX HBC HBB HR HCC
    obtain ⟨j, ab, ao, c, hj, HJ, HW, HX, HBC, HBB, HR, HCC⟩ := hrel
    cases gk with
    | zero => exact absurd (HJN.out j _ HJ.out) (by omega)
    | succ k1 =>
      have HJK := Aside0.mk hj
      have hcl := ctrB_length b j
      have HCL := Aside0.mk (show (ctrB b j).length = 16 by rw [hcl, HBL.out])
      have HCB := Aside0.mk (fun W h => block_n g bx ks n HK.out (ctrB b j) HCL.out W h)
      have HY := Aside0.mk (fun W1 h => HY.out j _ W1 h rfl)
      have h5 := cell_of_row wr bC 0 _ _ _ HBC.out
      have h6 := cell_of_row wr bB 0 _ _ _ HBB.out
      clear hj hcl
      go_upto_region 0 with (fail)
      refine (wpIn_wide (n := 9)).1 ?_
      obtain ⟨x0, x1, x2, x3, x4, x5, x6, x7, x8, x9, x10, x11, x12, x13, x14, x15, hx16⟩ := list16 (show (ib (ctrB b j)).length = 16 by rw [ib_length]; exact HCL.out)
      have HC16 := fun j (hj : j < 16) => cell16 (Kd.C_drew HR.out) j hj
      rw [hx16] at HC16 HCB
      have q1 := show wr.drew.cell? ⟨ab, ao + 1, none⟩ = some (.int .u8 x1) from HC16 1 (by decide)
      have q2 := show wr.drew.cell? ⟨ab, ao + 2, none⟩ = some (.int .u8 x2) from HC16 2 (by decide)
      have q3 := show wr.drew.cell? ⟨ab, ao + 3, none⟩ = some (.int .u8 x3) from HC16 3 (by decide)
      have q4 := show wr.drew.cell? ⟨ab, ao + 4, none⟩ = some (.int .u8 x4) from HC16 4 (by decide)
      have q5 := show wr.drew.cell? ⟨ab, ao + 5, none⟩ = some (.int .u8 x5) from HC16 5 (by decide)
      have q6 := show wr.drew.cell? ⟨ab, ao + 6, none⟩ = some (.int .u8 x6) from HC16 6 (by decide)
      have q7 := show wr.drew.cell? ⟨ab, ao + 7, none⟩ = some (.int .u8 x7) from HC16 7 (by decide)
      have q8 := show wr.drew.cell? ⟨ab, ao + 8, none⟩ = some (.int .u8 x8) from HC16 8 (by decide)
      have q9 := show wr.drew.cell? ⟨ab, ao + 9, none⟩ = some (.int .u8 x9) from HC16 9 (by decide)
      have q10 := show wr.drew.cell? ⟨ab, ao + 10, none⟩ = some (.int .u8 x10) from HC16 10 (by decide)
      have q11 := show wr.drew.cell? ⟨ab, ao + 11, none⟩ = some (.int .u8 x11) from HC16 11 (by decide)
      have q12 := show wr.drew.cell? ⟨ab, ao + 12, none⟩ = some (.int .u8 x12) from HC16 12 (by decide)
      have q13 := show wr.drew.cell? ⟨ab, ao + 13, none⟩ = some (.int .u8 x13) from HC16 13 (by decide)
      have q14 := show wr.drew.cell? ⟨ab, ao + 14, none⟩ = some (.int .u8 x14) from HC16 14 (by decide)
      have q15 := show wr.drew.cell? ⟨ab, ao + 15, none⟩ = some (.int .u8 x15) from HC16 15 (by decide)
      have q0 := show wr.drew.cell? ⟨ab, ao, none⟩ = some (.int .u8 x0) from HC16 0 (by decide)
      have HX16 := Aside0.mk hx16
      clear HC16 hx16
      have hx6 : wr.drew.cell? ⟨bB, 0, none⟩ = some (.slice (some ⟨ab, ao, none⟩) 16 c) := h6
      have hx5 : wr.drew.cell? ⟨bC, 0, none⟩ = some (.pointer (some ⟨g, 0, none⟩)) := h5
      have hat := fun (W : World) => run_arrayAt (P := Try.prog) W 31 _ 16 (some ⟨ab, ao, none⟩) 16 c Try.underlying31 (Nat.le_refl _)
      clear h5 h6
      have HXD := Aside0.mk (HX.out.below (below_drew (Below.refl wr.heap.size wr)))
      have HJD := Aside0.mk (HJS.out j _ _ HJ.out ⟨Two.of_below (below_drew (Below.refl wr.heap.size wr)), HXD.out.box⟩)
      gi_region_with (first
        | ((refine ⟨trivial, (callsIn_wide.2 (HCB.out _ HXD.out.all)).mono ?_⟩); go_loud (rintro e w1 ⟨rfl, hx, hc⟩; have HJ1 := Aside0.mk (HJS.out j _ _ HJD.out ⟨Two.of_ch hc, hx.box⟩); have HX1 := Aside0.mk (HXD.out.ch hc hx.box); have HC1 := Aside0.mk hc; clear hx hc; obtain ⟨fn, tmps, assign, body, hy, hR⟩ := HY.out w1 HJ1.out; have HRR := Aside0.mk hR; clear hR))
        | ((refine (yield_one HRR.out).mono ?_); rintro e w3 ⟨bl, rfl, hbl⟩; have HBL := Aside0.mk hbl; clear hbl))
      all_goals
        have HBL := HBL.out
        rcases HBL with ⟨rfl, hJ3, hk3⟩ | ⟨rfl, hJx3⟩
        · have hbc1 : w1.heap[bC]? = some (.cells #[.pointer (some ⟨g, 0, none⟩)] 35 (0, 0)) := (HC1.out.block bC (Array.getElem?_eq_some_iff.1 HBC.out).1 (fun e => HNE.out.1 (Option.some.inj e).symm)).trans HBC.out
          have hbb1 : w1.heap[bB]? = some (.cells #[.slice (some ⟨ab, ao, none⟩) 16 c] 22 (0, 0)) := (HC1.out.block bB (Array.getElem?_eq_some_iff.1 HBB.out).1 (fun e => HNE.out.2.1 (Option.some.inj e).symm)).trans HBB.out
          have hr1 : Kd.C (Kd.int .u8) w1 (some ⟨ab, ao, none⟩) 16 (ib (ctrB b j)) := C_block HR.out (HC1.out.block ab (C_cells HR.out (by decide)).1 (fun e => HCC.out.2.2.1 (Option.some.inj e)))
          have HBC3 := Aside0.mk ((hk3.same bC HS.out.2.2.1 (.inr ⟨_, _, _, hbc1⟩)).trans hbc1)
          have HBB3 := Aside0.mk ((hk3.same bB HS.out.2.2.2.1 (.inr ⟨_, _, _, hbb1⟩)).trans hbb1)
          have HR3 := Aside0.mk (show Kd.C (Kd.int .u8) w3 (some ⟨ab, ao, none⟩) 16 (ib (ctrB b j)) from C_block hr1 (hk3.same ab HCC.out.2.1 (.inr (C_cells hr1 (by decide)).2)))
          have HX3 := Aside0.mk (HX1.out.kp hk3 HLL.out.1 HS.out.1 HS.out.2.1 HS.out.2.2.2.2.2.1)
          have HW3 := Aside0.mk (Nat.le_trans HW.out (Nat.le_trans HC1.out.size hk3.size))
          have HJ3 := Aside0.mk hJ3
          have HIN := Aside0.mk (fun (c : Nat) (hc : 16 ≤ c) (W : World) (h : Kd.C (Kd.int .u8) W (some ⟨ab, ao, none⟩) 16 (ib (ctrB b j))) => inc_c (ctrB b j) HCL.out (some ⟨ab, ao, none⟩) c hc W h)
          have h7 := cell_of_row w3 bB 0 _ _ _ HBB3.out
          have h8 := free_of_row HBB3.out
          clear hy hbc1 hbb1 hr1 hk3 hJ3 HX HX1 HC1 HJ1 HBC HBB HR HJ HJD HXD HRR HY hx5 hx6 hat q0 q1 q2 q3 q4 q5 q6 q7 q8 q9 q10 q11 q12 q13 q14 q15
          gi_wp2
          go_wp2_with (first
            | (go_at_call 95; go_loud ((with_reducible refine (HIN.out _ HCC.out.1 _ HR3.out).mono ?_); rintro e w4 ⟨g2, c2, rfl, hc2, hg2, hr2, hb⟩; have h7 := (hb.cell (p := ⟨bB, 0, none⟩) (Array.getElem?_eq_some_iff.1 HBB3.out).1).trans h7; have h8 := (hb.frozen (p := ⟨bB, 0, none⟩) (Array.getElem?_eq_some_iff.1 HBB3.out).1).trans h8; have HB4 := Aside0.mk hb; have HR4 := Aside0.mk (And.intro hc2 (And.intro hg2 hr2)); clear hb hc2 hg2 hr2)))
          go_roundg k1
          case measure => omega
          case rel =>
            have e5 := HR4.out
            have hbB := (Array.getElem?_eq_some_iff.1 HBB3.out).1
            refine ⟨j + 1, g2, 0, c2, by have := HJK.out; omega, ⟨HJS.out (j + 1) _ _ HJ3.out ⟨two_set HB4.out _, ((HX3.out.below HB4.out).grown (Ch.set w4 0 _) HNE.out.2.2.2.2.2.1).box⟩⟩, ⟨Nat.le_trans HW3.out (Nat.le_trans HB4.out.size (Nat.le_of_eq (Mem.setCell_size _ _ _).symm))⟩, ⟨(HX3.out.below HB4.out).grown (Ch.set w4 0 _) HNE.out.2.2.2.2.2.1⟩, ⟨(Below.heap_setCell w4 ⟨bB, 0, none⟩ _ bC HNE.out.2.2.1).trans ((HB4.out.block bC (Array.getElem?_eq_some_iff.1 HBC3.out).1).trans HBC3.out)⟩, ⟨set_one ((HB4.out.block bB hbB).trans HBB3.out) _⟩, ⟨C_block e5.2.2 (Below.heap_setCell w4 ⟨bB, 0, none⟩ _ g2 (show g2 ≠ bB by have := e5.2.1; omega))⟩, ⟨⟨e5.1, HS.out.2.2.2.2.2.2 g2 (Nat.le_trans HW3.out e5.2.1), by have := e5.2.1; have := HX3.out.all.bound.2.2.2; omega, by have := e5.2.1; omega⟩⟩⟩
        · have HJX := Aside0.mk hJx3
          clear hJx3 hy HX HX1 HC1 HJ1 HBC HBB HR HJ HJD HXD HRR HY hx5 hx6 hat q0 q1 q2 q3 q4 q5 q6 q7 q8 q9 q10 q11 q12 q13 q14 q15
          gi_wp2
          go_wp2
          exact bodyPost_end (results_none rfl _ _ _) rfl ⟨⟨_, rfl⟩, .inr HJX.out⟩
end Go.Proofs.Ytpdikfmdnlhllaa.Aes
namespace Go.Proofs.Ytpdikfmdnlhllaa.Aes
open Go Go.RowKit Go.Proofs.Ytpdikfmdnlhllaa.PNib Go.Proofs.YtpdikfmdnlhllaaW.PrintWords Go.Proofs.YtpdikfmdnlhllaaW.PrintLast Go.Proofs.YtpdikfmdnlhllaaW.PrintMore Byte Sl Arr Mem Gives ArrEq Mat AesMath AesMov AesLin HandKit Copy RangeN RoundKit RangeS
set_option linter.unusedVariables false
set_option linter.unusedSimpArgs false
theorem CphL.two {W W' : World} {g bx bB lim : Nat} {ks : List (List B)} (h : CphL W g bx lim ks) (h2 : Two bx bB W W') (hB : BoxS W' bx) (hl : lim ≤ bB) : CphL W' g bx lim ks := by
  have hne := h.all.ne
  have hlt := h.all.lt
  obtain ⟨⟨A, c, h, hc, hF⟩, _, h3, h4⟩ := h
  exact ⟨⟨A, c, (h2.block g hlt hne (by omega)).trans h, hc, Kd.F_step hF (fun k hk hk2 => h2.block k hk2 hk.1 (by have := hk.2; omega))⟩, hB, h3, h4⟩
theorem lasts_cph {Bs g bx lim : Nat} {ks : List (List B)} (hl : lim ≤ Bs) : Lasts Bs (fun w => CphL w g bx lim ks) := fun _ X Y row hs hg hr => by
  have hk : ∀ k, k < Bs → k < X.heap.size → Y.heap[k]? = X.heap[k]? := fun k hk hk2 => hg.block k hk2 (fun e => by have := (hr k e.symm).1; omega)
  have hlt := hs.all.lt
  obtain ⟨⟨A, c, h, hc, hF⟩, hB, h3, h4⟩ := hs
  have hbx := hB.lt
  refine ⟨⟨A, c, (hk g (by omega) hlt).trans h, hc, Kd.F_step hF (fun k hk2 hk3 => hk k (by have := hk2.2; omega) hk3)⟩, ?_, h3, h4⟩
  rcases hB with h | ⟨F, h, r⟩
  · exact .inl ((hk bx (by omega) hbx).trans h)
  · exact .inr ⟨F, (hk bx (by omega) hbx).trans h, r⟩
theorem lasts_ch {Bs bx : Nat} (w0 : World) (h : w0.heap.size ≤ Bs) : Lasts Bs (fun w => Ch bx w0 w) := fun _ X Y row hs hg hr =>
  ⟨hg.os.trans hs.os, hg.tape.trans hs.tape, hg.output.trans hs.output, Nat.le_trans hs.size hg.size, fun k hk hne => (hg.block k (Nat.lt_of_lt_of_le hk hs.size) (fun e => by have := (hr k e.symm).1; omega)).trans (hs.block k hk hne)⟩
theorem lasts_le {Bs : Nat} (b : Nat) : Lasts Bs (fun w => b ≤ w.heap.size) := fun _ X Y row hs hg hr => Nat.le_trans hs hg.size
theorem box_two {W W' : World} {a b k : Nat} {o : Obj} (h : W.heap[k]? = some o) (h2 : Two a b W W') (ha : k ≠ a) (hb : k ≠ b) : W'.heap[k]? = some o := (h2.block k (Array.getElem?_eq_some_iff.1 h).1 ha hb).trans h
theorem R_two {W W' : World} {a b e base g : Nat} {v : Value} {l : List Int} (h : Kd.R (Kd.int .u8) e W base (fun k => k = g) v l) (h2 : Two a b W W') (ha : g ≠ a) (hb : g ≠ b) : Kd.R (Kd.int .u8) e W' base (fun k => k = g) v l :=
  Kd.R_step h (fun k hk hk2 => h2.block k hk2 (by rw [hk]; exact ha) (by rw [hk]; exact hb))
theorem On.ne {W : World} {bx : Nat} {ad : Addr} {l : List B} (h : On W bx (some ad) 16 l) (hb : bx < W.heap.size) : ad.block ≠ bx := by
  intro e
  have hC := h (W.putObj bx (.deferred none)) (fun k hk _ => World.putObj_heap_other hk)
  obtain ⟨_, cs, t, f, hc⟩ := C_cells hC (by decide)
  rw [e, World.putObj_heap_same hb] at hc
  cases hc
set_option maxRecDepth 100000 in
theorem step_append_spare {ops : Array Oper} {o : Oper} {a : Act} {K : Act → World → Prop} {Q : Exit → Act → World → Prop} {E : Prop} {w : World} (hgd : o.guard = none) (s x : Operand)
    (ho : o.op = .call { callee := .builtin .append, args := #[s, x], argTypes := #[22, 22] })
    (base g n cap m c : Nat) (ok : Nat → Prop) (xs ys : List Int) (A : Option Addr) (hs : a.eval s = .slice (some ⟨g, 0, none⟩) n cap) (hR : Kd.R (Kd.int .u8) 5 w base ok (.slice (some ⟨g, 0, none⟩) n cap) xs) (hx : a.eval x = .slice A m c) (hC : Kd.C (Kd.int .u8) w A m ys) (h0 : 0 < m) (hroom : n + m ≤ cap)
    (h : ∀ w', Kd.R (Kd.int .u8) 5 w' base ok (.slice (some ⟨g, 0, none⟩) (n + m) cap) (xs ++ ys) → w.grownBy w' (some g) → K (a.put o.dst (.slice (some ⟨g, 0, none⟩) (n + m) cap)) w') : if Region.wanted o (yielded ops a.tmps) = true then Oper.wp Try.prog o a w K Q else E := by
  have hw : Region.wanted o (yielded ops a.tmps) = true := by simp [Region.wanted, hgd]
  rw [if_pos hw]
  obtain ⟨i0, hi, hzz⟩ := Option.map_eq_some_iff.1 info_u8
  simp only [Prod.mk.injEq] at hzz
  obtain ⟨hz0, hz1, hz2⟩ := hzz
  obtain ⟨hok, inner, hown, hr⟩ := hR
  obtain rfl := reps_vals (k := .u8) (fun x c hx => hx) hr
  have hn : xs.length = n := by
    rcases hown.2 with ⟨h1, _⟩ | ⟨_, _, _, h1, _⟩
    · cases h1
    · injection h1 with _ e _; exact e.symm
  subst hn
  obtain ⟨ad, rfl, hcell⟩ := hC.2.2 h0
  have hm : ys.length = m := hC.1
  refine wp_append_own_spare w s x _ ho base 5 i0 1 Try.underlying22 hi hz1 g xs.length cap _ hs (by exact hown) ad m c (ys.map (Value.int .u8)) hx (by simp [hm]) (fun j u hu => ?_) (fun u hu => ?_) hroom fun w' hown' hg => h w' ⟨fun k hk => hok k (by simpa [Value.ownBlock] using hk), (xs ++ ys).map (Value.int .u8), ?_, reps_of (k := .u8) (R := (Kd.int .u8).M w' base _) (fun x => rfl) _⟩ hg
  · rw [List.getElem?_map, Option.map_eq_some_iff] at hu
    obtain ⟨p, hp, rfl⟩ := hu
    obtain ⟨c', hl, hK, hcell⟩ := hcell j p hp
    have hK' : c' = [.int .u8 p] := hK
    subst hK'
    have := hcell 0 _ rfl
    simpa [Kd.int, Kd.scalar] using this
  · obtain ⟨x, _, rfl⟩ := List.mem_map.1 hu
    rfl
  · rw [List.map_append, List.length_append, hm]
    exact hown'
end Go.Proofs.Ytpdikfmdnlhllaa.Aes
namespace Go.Proofs.Ytpdikfmdnlhllaa.Aes
open Go Go.RowKit Go.Proofs.Ytpdikfmdnlhllaa.PNib Go.Proofs.YtpdikfmdnlhllaaW.PrintWords Go.Proofs.YtpdikfmdnlhllaaW.PrintLast Go.Proofs.YtpdikfmdnlhllaaW.PrintMore Byte Sl Arr Mem Gives ArrEq Mat AesMath AesMov AesLin HandKit Copy RangeN RoundKit RangeS
set_option linter.unusedVariables false
set_option linter.unusedSimpArgs false
attribute [local go_sem] Oper.semAt_some
theorem heap_gr {A B : World} {b g : Nat} {o : Obj} (h : A.heap[b]? = some o) (hg : A.grownBy B (some g)) (hne : b ≠ g) : B.heap[b]? = some o :=
  (hg.block b (Array.getElem?_eq_some_iff.1 h).1 (fun e => hne (Option.some.inj e))).trans h
theorem heap_bel {A B : World} {b : Nat} {o : Obj} (h : A.heap[b]? = some o) (hb : Below A.heap.size A B) : B.heap[b]? = some o := (hb.block b (Array.getElem?_eq_some_iff.1 h).1).trans h
theorem check_c (A : Option Addr) (Lb c : Nat) (n r : Int) (b : List B) (hb : b.length = Lb) (hc : Lb ≤ c) (hr : (if (Lb : Int) = 16 then (if n < 0 then (1 : Int) else if n > 65536 then 1 else 0) else 5) = r) (W : World) (h : Kd.C (Kd.int .u8) W A Lb (ib b)) : Calls Try.prog 86 #[.slice A Lb c, .int .i64 n] W fun e w' => e = .returned (.int .i64 r) ∧ Below W.heap.size W w' := by
  subst hb
  have := ctr_check.calls A c (ib b) n r W (by rw [ib_length]; exact h) (by rw [ib_length]; exact hc) (by
    unfold ctr_check.f
    rw [ib_length, ← hr]
    split
    · split
      · rfl
      · split <;> rfl
    · rfl)
  rw [ib_length] at this
  refine this.mono ?_
  rintro e w' ⟨rfl, ⟨m, rfl⟩⟩
  exact ⟨rfl, pw_below_drewN (Below.refl _ _) m⟩
set_option maxHeartbeats 4000000 in
set_option maxRecDepth 100000 in
theorem stream_bad (g : Nat) (A : Option Addr) (Lb c : Nat) (n r : Int) (b : List B) (hb : b.length = Lb) (hc : Lb ≤ c) (hr : (if (Lb : Int) = 16 then (if n < 0 then (1 : Int) else if n > 65536 then 1 else 0) else 5) = r) (h0 : r ≠ 0) (w : World) (h : Kd.C (Kd.int .u8) w A Lb (ib b)) : Calls Try.prog 50 #[.pointer (some ⟨g, 0, none⟩), .slice A Lb c, .int .i64 n] w fun e w' => e = .returned (.tuple #[.slice none 0 0, .int .i64 r]) ∧ Below w.heap.size w w' := by
  have CK := Aside0.mk (fun W h => check_c A Lb c n r b hb hc hr W h)
  have HC := Aside0.mk (Kd.C_alloc h (.cells #[.int .i64 n] 3))
  have HB := Aside0.mk (below_alloc (Below.refl w.heap.size w) (.cells #[.int .i64 n] 3))
  have t1 : (r != 0) = true := by rw [bne_iff_ne]; exact h0
  clear h hb hc hr h0
  go_enter Try.func50, Try.ntmps50
  go_wp2_with (first
    | (go_at_call 86; go_loud ((with_reducible refine (CK.out _ HC.out).mono ?_); rintro e w1 ⟨rfl, hb⟩; have HB := Aside0.mk (below_step HB.out hb); clear hb)))
  go_ret2
  exact ⟨rfl, HB.out⟩
set_option maxHeartbeats 4000000 in
set_option maxRecDepth 100000 in
theorem stream_c (g bx : Nat) (ks : List (List B)) (nr : Nat) (K : KN ks nr) (b : List B) (hb : b.length = 16) (ad : Addr) (c : Nat) (hc : 16 ≤ c) (n : Nat) (hn : n ≤ 65536) (w : World) (hF : On w bx (some ad) 16 b) (hX : Cph w g bx ks) : Calls Try.prog 50 #[.pointer (some ⟨g, 0, none⟩), .slice (some ad) 16 c, .int .i64 (n : Int)] w fun e w' => ∃ N, e = .returned (.tuple #[.slice (some ⟨N, 0, none⟩) n n, .int .i64 0]) ∧ w.heap.size ≤ N ∧ NR w.heap.size w' (some ⟨N, 0, none⟩) n (streamB (encB ks nr) b n) ∧ Cph w' g bx ks ∧ Ch bx w w' := by
  have hbx : bx < w.heap.size := hX.bound.2.2.2
  have hne := hF.ne hbx
  have had := (C_cells hF.C (by decide)).1
  obtain ⟨ab, ao, rfl⟩ : ∃ ab ao, ad = ⟨ab, ao, none⟩ := ⟨_, _, (range16 hF.C hb).1⟩
  have hne := show ab ≠ bx from hne
  have had := show ab < w.heap.size from had
  have hck0 : (if ((16 : Nat) : Int) = 16 then (if (n : Int) < 0 then (1 : Int) else if (n : Int) > 65536 then 1 else 0) else 5) = 0 := by
    have h16 : ((16 : Nat) : Int) = 16 := rfl
    rw [if_pos h16, if_neg (by omega), if_neg (by omega)]
  have CK := Aside0.mk (fun W h => check_c (some ⟨ab, ao, none⟩) 16 c (n : Int) 0 b hb hc hck0 W h)
  have HWA := Aside0.mk (below_alloc (Below.refl w.heap.size w) (.cells #[.int .i64 (n : Int)] 3))
  have HF := Aside0.mk (hF.below HWA.out)
  have HX := Aside0.mk (hX.bound.below HWA.out)
  have HN := Aside0.mk (show (w.alloc (.cells #[.int .i64 (n : Int)] 3)).heap[w.heap.size]? = some (.cells #[.int .i64 (n : Int)] 3 (0, 0)) from World.alloc_heap_new _ _)
  have HC := Aside0.mk (Ch.of_below (g := bx) HWA.out)
  have HS0 := Aside0.mk (show bx < w.heap.size ∧ ab < w.heap.size ∧ ab ≠ bx from ⟨hbx, had, hne⟩)
  obtain ⟨n16, hn16⟩ : ∃ z, z = n + 16 := ⟨_, rfl⟩
  have I1 := Aside0.mk (show wrap64 ((n : Int) + 16) = (n16 : Int) by unfold wrap64; omega)
  have hmk := fun W => mk_cap 0 n16 (Nat.zero_le _) (by omega) W
  have hmk2 : ∀ W : World, (Instr.makeSlice 22 (.int .i64 0) (.int .i64 (n16 : Int))).run Try.prog W = .ok (.slice (some ⟨W.heap.size, 0, none⟩) 0 n16) (W.alloc (.cells (cellsOf .u8 (List.replicate n16 0)) 5)) := hmk
  have HCR := Aside0.mk (fun (W : World) (base gz : Nat) (h : W.heap[gz]? = some (.cells (cellsOf .u8 (List.replicate n16 0)) 5 (0, 0))) (hb : base ≤ gz) => cap_R (w := W) (g := gz) (n := 0) (c := n16) (base := base) h (Nat.zero_le _) (by omega) hb)
  have HNN := Aside0.mk (show n ≤ 65536 ∧ n16 = n + 16 from ⟨hn, hn16⟩)
  have HCC := Aside0.mk hc
  have HE := Aside0.mk (fun y => encB_length ks nr y)
  have HBL := Aside0.mk hb
  have BLK := Aside0.mk (fun W => blocks_c g (some ⟨ab, ao, none⟩) 16 c W)
  have HSEQ := Aside0.mk (fun bC bB lim lim2 S N W hX hC hB hr hS hne hl => blocks_seq g bx bC bB lim lim2 S ks nr K b hb N W ab ao c hX hC hB hc hr hS hne hl)
  obtain ⟨cz, hcz⟩ : ∃ z, z = cellsOf .u8 (List.replicate n16 0) := ⟨_, rfl⟩
  rw [← hcz] at hmk2 HCR
  generalize encB ks nr = E at *
  clear hck0 hmk hcz hb hc hn hn16 hF hX hne had hbx K
  have hx5 : (w.alloc (.cells #[.int .i64 (n : Int)] 3)).cell? ⟨w.heap.size, 0, none⟩ = some (.int .i64 (n : Int)) := cell_of_row _ _ _ _ _ _ HN.out
  refine callsIn_wide.1 (callsIn_of_wp_marks (n := 10) Try.func50 rfl trivial ((wpIn_wide (n := 10)).2 ?_))
  simp only [Try.ntmps50, List.size_toArray, List.length_cons, List.length_nil, Nat.reduceAdd, Nat.reduceSub, Array.replicate_succ, Array.replicate_zero, List.push_toArray, List.append_toArray, List.nil_append, List.cons_append]
  go_upto_region 4 with (first
    | (go_at_call 86; go_loud ((with_reducible refine (CK.out _ HF.out.C).mono ?_); rintro e w1 ⟨rfl, hb⟩; have HF := Aside0.mk (HF.out.below hb); have HX := Aside0.mk (HX.out.below hb); have HN := Aside0.mk ((hb.block w.heap.size (Array.getElem?_eq_some_iff.1 HN.out).1).trans HN.out); have HC := Aside0.mk (Ch.step HC.out hb); clear hb)))
  clear hx5 HWA CK
  have hx5 := show w1.cell? ⟨w.heap.size, 0, none⟩ = some (.int .i64 (n : Int)) from cell_of_row w1 w.heap.size 0 _ _ _ HN.out
  have HSW := Aside0.mk (show w.heap.size < w1.heap.size from (Array.getElem?_eq_some_iff.1 HN.out).1)
  have i1 := I1.out
  go_upto_region 5 with (fail)
  clear i1 I1
  generalize hwz : World.alloc (World.alloc w1 _) _ = wz
  have HZ0 := Aside0.mk (show wz.heap[w1.heap.size]? = some (.cells cz 5 (0, 0)) by rw [← hwz]; exact (Below.heap_alloc _ _ _ (by simp)).trans (World.alloc_heap_new w1 _))
  have HO0 := Aside0.mk (show wz.heap[w1.heap.size + 1]? = some (.cells #[.slice (some ⟨w1.heap.size, 0, none⟩) 0 n16] 22 (0, 0)) by rw [← hwz]; have h := World.alloc_heap_new (w1.alloc (.cells cz 5)) (.cells #[.slice (some ⟨w1.heap.size, 0, none⟩) 0 n16] 22); rw [World.size_alloc] at h; exact h)
  have hbz : Below w1.heap.size w1 wz := by rw [← hwz]; exact below_alloc (below_alloc (Below.refl _ _) _) _
  have HSZ0 := Aside0.mk (show wz.heap.size = w1.heap.size + 2 by rw [← hwz, World.size_alloc, World.size_alloc])
  have HF := Aside0.mk (HF.out.below hbz)
  have HX := Aside0.mk (HX.out.all.bound.below hbz)
  have HN := Aside0.mk ((hbz.block w.heap.size (Array.getElem?_eq_some_iff.1 HN.out).1).trans HN.out)
  have HC := Aside0.mk (Ch.step HC.out hbz)
  clear hwz hbz hx5 hmk2
  obtain ⟨bZ, hbZ⟩ : ∃ z, z = w1.heap.size := ⟨_, rfl⟩
  obtain ⟨bO, hbO⟩ : ∃ z, z = w1.heap.size + 1 := ⟨_, rfl⟩
  rw [← hbO] at HO0 ⊢
  rw [← hbZ] at HZ0 HO0 HX HSW HSZ0
  have HSZ1 := Aside0.mk (show bO = bZ + 1 by omega)
  clear hbO hbZ
  go_upto_block 0 with (first
    | (go_at_call 87; (with_reducible refine (BLK.out _).mono ?_); rintro e wc ⟨rfl, hwc⟩; have HWC := Aside0.mk hwc; clear hwc))
  have hbc : Below wz.heap.size wz wc := by rw [HWC.out]; exact below_alloc (below_alloc (Below.refl _ _) _) _
  have HCC1 := Aside0.mk (show wc.heap[wz.heap.size]? = some (.cells #[.pointer (some ⟨g, 0, none⟩)] 35 (0, 0)) by rw [HWC.out]; exact (Below.heap_alloc _ _ _ (by simp)).trans (World.alloc_heap_new wz _))
  have HCB1 := Aside0.mk (show wc.heap[wz.heap.size + 1]? = some (.cells #[.slice (some ⟨ab, ao, none⟩) 16 c] 22 (0, 0)) by rw [HWC.out]; have h := World.alloc_heap_new (wz.alloc (.cells #[.pointer (some ⟨g, 0, none⟩)] 35)) (.cells #[.slice (some ⟨ab, ao, none⟩) 16 c] 22); rw [World.size_alloc] at h; exact h)
  have HSZ2 := Aside0.mk (show wc.heap.size = wz.heap.size + 2 by rw [HWC.out, World.size_alloc, World.size_alloc])
  have HF := Aside0.mk (HF.out.below hbc)
  have HX := Aside0.mk (HX.out.below hbc)
  have HN := Aside0.mk ((hbc.block w.heap.size (Array.getElem?_eq_some_iff.1 HN.out).1).trans HN.out)
  have HC := Aside0.mk (Ch.step HC.out hbc)
  have HZ0 := Aside0.mk ((hbc.block bZ (Array.getElem?_eq_some_iff.1 HZ0.out).1).trans HZ0.out)
  have HO0 := Aside0.mk ((hbc.block bO (Array.getElem?_eq_some_iff.1 HO0.out).1).trans HO0.out)
  have HR0 := Aside0.mk (show Kd.R (Kd.int .u8) 5 wc bZ (fun k => k = bZ) (.slice (some ⟨bZ, 0, none⟩) (16 * 0) n16) (ib (strB E b 0)) from Kd.R_mono (Kd.R_tight rfl (HCR.out wc bZ bZ HZ0.out (Nat.le_refl _))) (fun k hk => by simpa [Value.ownBlock] using hk))
  clear hbc HWC HZ0 HCR BLK
  have HSZ := Aside0.mk (show bx < w.heap.size ∧ ab < w.heap.size ∧ ab ≠ bx ∧ w.heap.size < bZ ∧ bO = bZ + 1 ∧ wz.heap.size = bZ + 2 ∧ wc.heap.size = bZ + 4 by have h1 := HS0.out; have h2 := HSW.out; have h3 := HSZ1.out; have h4 := HSZ0.out; have h5 := HSZ2.out; omega)
  obtain ⟨bC, hbC⟩ : ∃ z, z = wz.heap.size := ⟨_, rfl⟩
  rw [← hbC] at HCC1 HCB1 HSZ ⊢
  clear hbC HS0 HSW HSZ1 HSZ0 HSZ2
  have hseq := HSEQ.out bC (bC + 1) bZ wc.heap.size (fun k => k = bO ∨ k = bZ) (blocksN n) wc HX.out HCC1.out HCB1.out HF.out.C (by
    have h := HSZ.out
    have hg := HX.out.2.2.1
    have hb := HX.out.2.2.2
    refine ⟨by omega, by omega, by omega, by omega, by omega, fun k hk => by omega, fun k hk => by omega⟩) (by
    have h := HSZ.out
    have hb := HX.out.2.2.2
    refine ⟨by omega, by omega, by omega, by omega, by omega, by omega, by omega⟩) (by have h := HSZ.out; omega)
  have HSEQ := Aside0.mk hseq
  clear hseq
  refine wp_block ?_
  refine' range_wpA (lb := #[.pointer (some ⟨bC, 0, none⟩), .pointer (some ⟨bC + 1, 0, none⟩)]) rfl (enters_of Try.func94 (by kernel_rfl) rfl) HSEQ.out (Nat.le_refl _)
    (fun A B h k o hk ho _ => (h.1.block k (Array.getElem?_eq_some_iff.1 ho).1 (by have := HSZ.out; omega) (by have := HSZ.out; omega)).trans ho) (Below.refl _ _)
    (fun (j : Nat) (W : World) => Aside0 (j ≤ blocksN n) ∧ Aside0 (W.heap[bO]? = some (.cells #[.slice (some ⟨bZ, 0, none⟩) (16 * j) n16] 22 (0, 0))) ∧ Aside0 (Kd.R (Kd.int .u8) 5 W bZ (fun k => k = bZ) (.slice (some ⟨bZ, 0, none⟩) (16 * j) n16) (ib (strB E b j))) ∧ Aside0 (W.heap[w.heap.size]? = some (.cells #[.int .i64 (n : Int)] 3 (0, 0))) ∧ Aside0 (CphL W g bx bZ ks) ∧ Aside0 (Ch bx w W) ∧ Aside0 (wc.heap.size ≤ W.heap.size))
    (fun (c : Code) (W : World) => c = .exit 0 ∧ ∃ j, Aside0 (j ≤ blocksN n ∧ n ≤ 16 * j) ∧ Aside0 (W.heap[bO]? = some (.cells #[.slice (some ⟨bZ, 0, none⟩) (16 * j) n16] 22 (0, 0))) ∧ Aside0 (Kd.R (Kd.int .u8) 5 W bZ (fun k => k = bZ) (.slice (some ⟨bZ, 0, none⟩) (16 * j) n16) (ib (strB E b j))) ∧ Aside0 (W.heap[w.heap.size]? = some (.cells #[.int .i64 (n : Int)] 3 (0, 0))) ∧ Aside0 (CphL W g bx bZ ks) ∧ Aside0 (Ch bx w W) ∧ Aside0 (wc.heap.size ≤ W.heap.size)) (fun j => lasts_and (lasts_aside (lasts_pure _)) (lasts_and (lasts_aside (lasts_cells _ _ _ _)) (lasts_and (lasts_aside (lasts_R rfl _ _)) (lasts_and (lasts_aside (lasts_cells _ _ _ _)) (lasts_and (lasts_aside (lasts_cph (by have := HSZ.out; omega))) (lasts_and (lasts_aside (lasts_ch _ (by have := HSZ.out; omega))) (lasts_aside (lasts_le _)))))))) (fun cd => lasts_and (lasts_pure _) (lasts_ex fun j => lasts_and (lasts_aside (lasts_pure _)) (lasts_and (lasts_aside (lasts_cells _ _ _ _)) (lasts_and (lasts_aside (lasts_R rfl _ _)) (lasts_and (lasts_aside (lasts_cells _ _ _ _)) (lasts_and (lasts_aside (lasts_cph (by have := HSZ.out; omega))) (lasts_and (lasts_aside (lasts_ch _ (by have := HSZ.out; omega))) (lasts_aside (lasts_le _))))))))) (fun j v => lasts_pure _) ?hIs ?hIxs (fun j A h => h.1.out) (fun j A h => h.2.2.2.2.2.2.out)
    ⟨⟨Nat.zero_le _⟩, ⟨HO0.out⟩, HR0, HN, HX, HC, ⟨Nat.le_refl _⟩⟩ (fun (q : Nat) (v : Value) => { tmps := #[.pointer (some ⟨g, 0, none⟩), .slice (some ⟨ab, ao, none⟩) 16 c, .int .i64 (n : Int), undef, undef, .pointer (some ⟨w.heap.size, 0, none⟩), .slice none 0 0, .int .i64 0, .int .i64 0, .pointer (some ⟨bO, 0, none⟩), .pointer (some ⟨q, 0, none⟩), .slice (some ⟨ab, ao, none⟩) 16 c, .int .i64 (n : Int), .int .i64 0, .int .i64 0, .bool false, undef, .int .i64 (n : Int), .int .i64 (wrap64 ((n : Int) + 16)), .slice (some ⟨w1.heap.size, 0, none⟩) 0 n16, .pointer (some ⟨g, 0, none⟩), .slice (some ⟨ab, ao, none⟩) 16 c, .func (.func 94) #[] #[.pointer (some ⟨bC, 0, none⟩), .pointer (some ⟨bC + 1, 0, none⟩)], v, undef, undef, undef, undef, undef, undef, undef, undef, undef, undef, undef], defers := [] }) (fun j q v W => Aside0 (Mem .u8 W q 31 (ib (E (ctrB b j))) ∧ wc.heap.size ≤ q)) (fun j q v => lasts_aside (lasts_and (lasts_mem _ _ _ _) (lasts_pure _))) ?assign ?body ?done ?stop
  case hIs =>
    rintro j A B ⟨h0, h1, h2, h3, h4, h5, h6⟩ ⟨ht, hbx⟩
    have hz := HSZ.out
    exact ⟨h0, ⟨box_two h1.out ht (by omega) (by omega)⟩, ⟨R_two h2.out ht (by omega) (by omega)⟩, ⟨box_two h3.out ht (by omega) (by omega)⟩, ⟨h4.out.two ht hbx (by omega)⟩, ⟨Ch.two h5.out ht (by omega)⟩, ⟨Nat.le_trans h6.out ht.size⟩⟩
  case hIxs =>
    rintro cd A B ⟨hc, j, h0, h1, h2, h3, h4, h5, h6⟩ ⟨ht, hbx⟩
    have hz := HSZ.out
    exact ⟨hc, j, h0, ⟨box_two h1.out ht (by omega) (by omega)⟩, ⟨R_two h2.out ht (by omega) (by omega)⟩, ⟨box_two h3.out ht (by omega) (by omega)⟩, ⟨h4.out.two ht hbx (by omega)⟩, ⟨Ch.two h5.out ht (by omega)⟩, ⟨Nat.le_trans h6.out ht.size⟩⟩
  case assign =>
    rintro l2 j v W ⟨h0, h1, h2, h3, h4, h5, h6⟩ hv
    have HV := Aside0.mk hv
    clear hv
    have M0 := Aside0.mk (Mem.new .u8 W 31 z16)
    have E16 := Aside0.mk (show (ib (E (ctrB b j))).length = 16 by rw [ib_length]; exact HE.out _)
    have HBW := Aside0.mk (below_alloc (Below.refl W.heap.size W) (.cells (cellsOf .u8 z16) 31))
    refine region_in (by rfl) ?_
    go_wp2_with (first
      | ((with_reducible refine gate_store (t := 31) (p := 10) rfl ?_); refine Mem.store (l' := ib (E (ctrB b j))) M0.out rfl 31 (.tmp 10) (.tmp 23) rfl rfl (by exact HV.out) (by first | exact info16 | (rw [E16.out]; exact info16)) (by first | rfl | (rw [E16.out]; rfl) | rw [z16_length, E16.out]) ?_))
    refine shut_normal ?_
    generalize hw6 : World.setRow (World.alloc W _) _ _ = W6
    have hM6 : Mem .u8 W6 W.heap.size 31 (ib (E (ctrB b j))) := by rw [← hw6]; exact Mem.put M0.out _
    have hb6 : Below W.heap.size W W6 := by rw [← hw6]; exact below_setRow HBW.out (Nat.le_refl _) _
    clear hw6
    have hq : wc.heap.size ≤ W.heap.size := h6.out
    generalize W.heap.size = q at hM6 hq ⊢
    exact ⟨(RdS.refl _ W).below hb6, ⟨⟨heap_bel h1.out hb6⟩, ⟨Kd.R_below h2.out hb6⟩, ⟨heap_bel h3.out hb6⟩, ⟨h4.out.below hb6⟩, ⟨Ch.step h5.out hb6⟩, ⟨Nat.le_trans h6.out hb6.size⟩⟩, q, rfl, ⟨hM6, hq⟩⟩
  case done => exact fun D W hD h _ _ => h.elim
  case body =>
    rintro l2 j q v W ⟨h0, h1, h2, h3, h4, h5, h6⟩ ⟨hM, hq⟩
    dsimp only
    have HM := Aside0.mk hM
    have HQ := Aside0.mk hq
    have hbx := show W.cell? ⟨bO, 0, none⟩ = some (.slice (some ⟨bZ, 0, none⟩) (16 * j) n16) from cell_of_row W bO 0 _ _ _ h1.out
    have hcn := show W.cell? ⟨w.heap.size, 0, none⟩ = some (.int .i64 (n : Int)) from cell_of_row W w.heap.size 0 _ _ _ h3.out
    have HRD := Aside0.mk (RdS.refl (fun k => k = bO ∨ k = bZ) W)
    have HSJ := Aside0.mk (strB_length E b HE.out j)
    have HNX := Aside0.mk (show strB E b (j + 1) = strB E b j ++ E (ctrB b j) from rfl)
    have E16 := Aside0.mk (show (ib (E (ctrB b j))).length = 16 by rw [ib_length]; exact HE.out _)
    obtain ⟨pp, hpp⟩ : ∃ z, z = 16 * j := ⟨_, rfl⟩
    have HPP := Aside0.mk hpp
    have HJ := h0
    rw [← hpp] at h1 h2 hbx HSJ
    by_cases hge : n ≤ 16 * j
    · have t1 : (n : Int) ≤ (pp : Int) := by omega
      have HGE := Aside0.mk hge
      clear hM hq hge hpp
      gi_wp2
      exact ⟨HRD.out, rfl, j, ⟨⟨HJ.out, HGE.out⟩⟩, by rw [← HPP.out]; exact h1, by rw [← HPP.out]; exact h2, h3, h4, h5, h6⟩
    · have t1 : (pp : Int) < (n : Int) := by omega
      have t2 : (decide ((n : Int) ≤ (pp : Int))) = false := decide_eq_false (by omega)
      have HJ1 := Aside0.mk (show j + 1 ≤ blocksN n by have := HNN.out; unfold blocksN; omega)
      have HRM := Aside0.mk (show pp + 16 ≤ n16 by have := HNN.out.2; omega)
      clear hM hq hge hpp
      generalize hC8 : Code.region 8 _ _ = c8
      have HC8 := Aside0.mk hC8
      clear hC8
      generalize strB E b (j + 1) = s1 at *
      generalize strB E b j = s0 at *
      generalize E (ctrB b j) = ej at *
      gi_wp2
      rw [← HC8.out]
      have hbxd := show W.drew.cell? ⟨bO, 0, none⟩ = some (.slice (some ⟨bZ, 0, none⟩) pp n16) from hbx
      refine start_in (by rfl) (m := 4) (S := fun w' => w'.cell? ⟨bO, 0, none⟩ = some (.slice (some ⟨bZ, 0, none⟩) pp n16)) (ds := [3]) #[false, false, false, false] (by kernel_rfl) rfl rfl (hbxd) (fun hHeld => ?_)
      refine pure_ (i := 1) (N := some 29) (v := ?_) (a' := ?_) #[false, true, false, false] rfl rfl (by kernel_rfl) (fun _ _ _ h => h) (Or.inl ⟨by rfl, ?_⟩) ?_ ?_
      rotate_left
      · intro w'
        go_simp
        with_reducible rfl
      rotate_left
      · simp only [Act.put, List.setIfInBounds_toArray, List.set_cons_zero, List.set_cons_succ, i64_w, i32_w]
        rfl
      refine take_ (i := 0) (N := some 28) (v := ?_) (a' := ?_) #[true, true, false, false] rfl rfl (by kernel_rfl) (fun _ _ _ h => h) (Or.inl ⟨by rfl, ?_⟩) hHeld ?_ ?_
      rotate_left
      · intro w' s0
        go_simp
        with_reducible rfl
      rotate_left
      · simp only [Act.put, List.setIfInBounds_toArray, List.set_cons_zero, List.set_cons_succ, i64_w, i32_w]
        rfl
      refine one_ (i := 2) (N := some 30) #[true, true, true, false] rfl rfl (by kernel_rfl) (by decide) (fun K hK => ?_)
      refine step_append_spare (by rfl) (.tmp 28) (.tmp 29) (by rfl) bZ bZ pp n16 16 16 (fun k => k = bZ) (ib s0) (ib ej) (some ⟨q, 0, none⟩) (by rfl) (Kd.R_drew h2.out) (by rfl) (Kd.C_drew (mem_row16 HM.out E16.out)) (by decide) HRM.out ?_
      intro w3 ho hg
      have HBO3 := Aside0.mk (heap_gr (show W.drew.heap[bO]? = _ from h1.out) hg (by have := HSZ.out; omega))
      have hbx3 := show w3.cell? ⟨bO, 0, none⟩ = some (.slice (some ⟨bZ, 0, none⟩) pp n16) from cell_of_row w3 bO 0 _ _ _ HBO3.out
      have hbf3 := free_of_row HBO3.out
      have HO3 := Aside0.mk ho
      have HG3 := Aside0.mk hg
      clear ho hg
      refine hK.out _ _ (hbx3) (fun hHeld => ?_)
      clear hK K
      refine norm_ (a' := ?_) ?_ ?_
      rotate_left
      · show Act.put _ (some 30) _ = _
        simp only [Act.put, List.setIfInBounds_toArray, List.set_cons_zero, List.set_cons_succ, i64_w, i32_w]
        rfl
      refine last_ (i := 3) (N := none) #[true, true, true, true] rfl rfl (by kernel_rfl) (by decide) (fun K hK => ?_)
      refine skip_ (w1 := ?_) (by rfl) rfl ?_ ?_
      rotate_left
      · go_simp
        rfl
      refine hK.out _ _ ?_
      clear hK K
      refine done_ (by kernel_rfl) ?_
      refine shut_normal ?_
      have hz := HSZ.out
      have hRd := HRD.out.below (below_drew (Below.refl W.heap.size W))
      have hRd2 := hRd.grown HG3.out (fun r hr => by
        obtain rfl := Option.some.inj hr
        obtain ⟨cells, hc⟩ := Kd.R_typed (Kd.R_drew h2.out) bZ (by simp [Value.ownBlock])
        exact ⟨.inr rfl, cells, _, _, hc⟩)
      have hch := Ch.two (Ch.step h5.out (below_drew (Below.refl W.heap.size W))) (Two.of_ch2 (a := bx) (b := bZ) (show Ch bZ _ _ from HG3.out)) (by omega)
      have hcx := (h4.out.below (below_drew (Below.refl W.heap.size W))).grown HG3.out (Nat.le_refl _)
      have hbo3 := HBO3.out
      clear hbx hcn hbxd hbx3 hbf3
      refine ⟨hRd2.set hbo3 (.inl rfl) _ _, HJ1, ⟨?_⟩, ⟨?_⟩, ⟨(Below.heap_setCell w3 ⟨bO, 0, none⟩ _ w.heap.size (show w.heap.size ≠ bO by omega)).trans (heap_gr (show W.drew.heap[w.heap.size]? = _ from h3.out) HG3.out (by omega))⟩, ⟨hcx.grown (Ch.set w3 0 _) (by omega)⟩, ⟨Ch.two hch (Two.of_ch2 (a := bx) (Ch.set w3 0 _)) (by omega)⟩, ⟨Nat.le_trans h6.out (Nat.le_trans HG3.out.size (Nat.le_of_eq (Mem.setCell_size _ _ _).symm))⟩⟩
      · rw [show 16 * (j + 1) = pp + 16 by have := HPP.out; omega]
        exact set_one hbo3 _
      · rw [HNX.out, ib_append, show 16 * (j + 1) = pp + 16 by have := HPP.out; omega]
        exact Kd.R_far HO3.out (fun k hk => by show k ≠ bO; omega) _
  case stop =>
    rintro D cd W2 hD ⟨rfl, j, ⟨hjnj⟩, h1, h2, h3, h4, h5, h6⟩ hK2
    have hnj := hjnj.2
    have hbx := show W2.cell? ⟨bO, 0, none⟩ = some (.slice (some ⟨bZ, 0, none⟩) (16 * j) n16) from cell_of_row W2 bO 0 _ _ _ h1.out
    have hcn := show W2.cell? ⟨w.heap.size, 0, none⟩ = some (.int .i64 (n : Int)) from cell_of_row W2 w.heap.size 0 _ _ _ h3.out
    have HD := Aside0.mk (And.intro hD hK2)
    have HST := Aside0.mk (streamB_of E b HE.out n j hnj)
    have HNL := Aside0.mk (show n ≤ (ib (strB E b j)).length by rw [ib_length, strB_length E b HE.out]; exact hnj)
    have t1 : (0 : Int) ≤ (n : Int) := by omega
    have t2 : (n : Int) ≤ (n16 : Int) := by have := HNN.out.2; omega
    clear hnj hjnj hD hK2
    go_wp2
    refine ⟨by simp, .inl ⟨_, _, rfl, run_takeDeferred HD.out.2, ?_⟩⟩
    have hz := HSZ.out
    have hDw := HD.out.1
    have HO3 := (lasts_R (B := wc.heap.size) (d := Kd.int .u8) rfl (e := 5) (b := bZ) (ok := fun k => k = bZ) _ _).putObj (s := ()) (.deferred none) h2.out hDw HD.out.2 rfl
    have HX3 := (lasts_cph (Bs := wc.heap.size) (g := g) (bx := bx) (lim := bZ) (ks := ks) (by omega)).putObj (s := ()) (.deferred none) h4.out hDw HD.out.2 rfl
    have HC3 := (lasts_ch (Bs := wc.heap.size) (bx := bx) w (by omega)).putObj (s := ()) (.deferred none) h5.out hDw HD.out.2 rfl
    have HT3 := Kd.R_F (Kd.R_take (m := n) HO3 HNL.out)
    rw [← ib_take, HST.out] at HT3
    exact ⟨_, results_tmp2 rfl _ _ _, bZ, rfl, by omega, Kd.F_mono HT3 (fun k hk => by omega), HX3.all, HC3⟩
end Go.Proofs.Ytpdikfmdnlhllaa.Aes
namespace Go.Proofs.Ytpdikfmdnlhllaa.Aes
open Go.RowKit
open Byte AesMath Go.Proofs.Ytpdikfmdnlhllaa.PNib Go.Proofs.YtpdikfmdnlhllaaW.PrintWords Go.Proofs.YtpdikfmdnlhllaaW.PrintLast Go.Proofs.YtpdikfmdnlhllaaW.PrintMore
set_option linter.unusedVariables false
set_option linter.unusedSimpArgs false
/-- The number that the first bytes make, the highest first. -/
def V (l : List Int) : Nat → Nat
  | 0 => 0
  | i + 1 => 256 * V l i + (l.getD i 0).toNat
theorem getD_set_lt (l : List Int) (m j : Nat) (x : Int) (h : j < m) : (l.set m x).getD j 0 = l.getD j 0 := by
  rw [List.getD_eq_getElem?_getD, List.getD_eq_getElem?_getD, List.getElem?_set_ne (by omega)]
theorem getD_set_gt (l : List Int) (m j : Nat) (x : Int) (h : m < j) : (l.set m x).getD j 0 = l.getD j 0 := by
  rw [List.getD_eq_getElem?_getD, List.getD_eq_getElem?_getD, List.getElem?_set_ne (by omega)]
theorem getD_set_eq (l : List Int) (m : Nat) (x : Int) (h : m < l.length) : (l.set m x).getD m 0 = x := by
  rw [List.getD_eq_getElem?_getD, List.getElem?_set_self h]; rfl
theorem V_set (l : List Int) (m : Nat) (x : Int) : ∀ i, i ≤ m → V (l.set m x) i = V l i
  | 0, _ => rfl
  | i + 1, h => by rw [V, V, V_set l m x i (by omega), getD_set_lt l m i x (by omega)]
theorem V_lt {l : List Int} (h : Bytes l) : ∀ i, V l i < 256 ^ i
  | 0 => by simp [V]
  | i + 1 => by
    have h1 := V_lt h i
    have h2 := h.rd i
    rw [V, Nat.pow_succ]
    omega
theorem V_inj {l m : List Int} (hl : Bytes l) (hm : Bytes m) : ∀ i, V l i = V m i → ∀ j, j < i → l.getD j 0 = m.getD j 0
  | 0, _, j, h => by omega
  | i + 1, h, j, hj => by
    have h1 := hl.rd i
    have h2 := hm.rd i
    rw [V, V] at h
    have h3 : V l i = V m i := by omega
    by_cases e : j = i
    · subst e; omega
    · exact V_inj hl hm i h3 j (by omega)
theorem V_ext {l m : List Int} (hl : Bytes l) (hm : Bytes m) (he : l.length = m.length) (h : V l l.length = V m l.length) : l = m := by
  refine List.ext_getElem he fun i h1 h2 => ?_
  have := V_inj hl hm _ h i h1
  rwa [List.getD_eq_getElem?_getD, List.getD_eq_getElem?_getD, List.getElem?_eq_getElem h1, List.getElem?_eq_getElem h2] at this
theorem mod_step (a x m : Nat) (hx : x < 256) : 256 * (a % m) + x = (256 * a + x) % (m * 256) := by
  rw [Nat.mul_comm m 256, Nat.mod_mul]
  rw [show (256 * a + x) % 256 = x by omega, show (256 * a + x) / 256 = a by omega]
  omega
/-- A number, put to a counter: from place i - 1 on to the front. -/
def atGo : Nat → List Int → Nat → List Int
  | 0, l, _ => l
  | i + 1, l, k => if k = 0 then l else atGo i (l.set i ((((l.getD i 0).toNat + k % 256) % 256 : Nat) : Int)) (k / 256 + ((l.getD i 0).toNat + k % 256) / 256)
theorem atGo_zero (i : Nat) (l : List Int) : atGo i l 0 = l := by cases i <;> simp [atGo]
theorem atGo_length : ∀ i l k, (atGo i l k).length = l.length
  | 0, _, _ => rfl
  | i + 1, l, k => by
    unfold atGo; split
    · rfl
    · rw [atGo_length i, List.length_set]
theorem atGo_bytes : ∀ i l k, Bytes l → Bytes (atGo i l k)
  | 0, _, _, h => h
  | i + 1, l, k, h => by
    unfold atGo; split
    · exact h
    · exact atGo_bytes i _ _ (h.set _ _ (by omega) (by omega))
theorem atGo_far : ∀ i l k j, i ≤ j → (atGo i l k).getD j 0 = l.getD j 0
  | 0, _, _, _, _ => rfl
  | i + 1, l, k, j, h => by
    unfold atGo; split
    · rfl
    · rw [atGo_far i _ _ j (by omega), getD_set_gt l i j _ (by omega)]
theorem atGo_V : ∀ i l k, Bytes l → i ≤ l.length → V (atGo i l k) i = (V l i + k) % 256 ^ i
  | 0, _, _, _, _ => by simp [atGo, V, Nat.mod_one]
  | i + 1, l, k, h, hi => by
    unfold atGo; split
    · rename_i e
      subst e; rw [Nat.add_zero]; exact (Nat.mod_eq_of_lt (V_lt h (i + 1))).symm
    · have hb := h.rd i
      obtain ⟨li, hli⟩ : ∃ z : Nat, z = (l.getD i 0).toNat := ⟨_, rfl⟩
      have hli2 : li < 256 := by omega
      rw [← hli]
      have hs := h.set i (((li + k % 256) % 256 : Nat) : Int) (by omega) (by omega)
      rw [V, atGo_V i _ _ hs (by rw [List.length_set]; omega), atGo_far i _ _ i (Nat.le_refl _), V_set _ _ _ _ (Nat.le_refl _), getD_set_eq _ _ _ (by omega), Int.toNat_natCast, mod_step _ _ _ (Nat.mod_lt _ (by decide)), ← Nat.pow_succ, V, ← hli]
      congr 1
      omega
theorem incGo_far : ∀ i l j, i ≤ j → (Octet.incGo i l).getD j 0 = l.getD j 0
  | 0, _, _, _ => rfl
  | i + 1, l, j, h => by
    unfold Octet.incGo; split
    · rw [incGo_far i _ j (by omega), getD_set_gt l i j _ (by omega)]
    · rw [getD_set_gt l i j _ (by omega)]
theorem incGo_V : ∀ i l, Bytes l → i ≤ l.length → V (Octet.incGo i l) i = (V l i + 1) % 256 ^ i
  | 0, _, _, _ => by simp [Octet.incGo, V, Nat.mod_one]
  | i + 1, l, h, hi => by
    have hb := h.rd i
    have hs := h.set i ((l.getD i 0 + 1) % 256) (by omega) (by omega)
    unfold Octet.incGo; split
    · rename_i e
      rw [V, incGo_V i _ hs (by rw [List.length_set]; omega), incGo_far i _ i (Nat.le_refl _), V_set _ _ _ _ (Nat.le_refl _), getD_set_eq _ _ _ (by omega), e, V]
      have := mod_step (V l i + 1) 0 (256 ^ i) (by decide)
      rw [Nat.pow_succ, show (0 : Int).toNat = 0 from rfl, this]
      congr 1
      omega
    · rename_i e
      have h1 := V_lt h i
      rw [V, V_set _ _ _ _ (Nat.le_refl _), getD_set_eq _ _ _ (by omega), V, Nat.pow_succ, Nat.mod_eq_of_lt (by omega)]
      omega
theorem ctrB_V (b : List B) : ∀ k, V (ib (ctrB b k)) b.length = (V (ib b) b.length + k) % 256 ^ b.length
  | 0 => by rw [ctrB, Nat.add_zero, Nat.mod_eq_of_lt (V_lt (bytes_ib b) _)]
  | k + 1 => by
    rw [ctrB, ib_incB, ctrB_length]
    rw [incGo_V _ _ (bytes_ib _) (by rw [ib_length, ctrB_length]; exact Nat.le_refl _), ctrB_V b k, Nat.mod_add_mod, Nat.add_assoc]
theorem at_ctr (b : List B) (k : Nat) : atGo b.length (ib b) k = ib (ctrB b k) := by
  refine V_ext (atGo_bytes _ _ _ (bytes_ib b)) (bytes_ib _) (by rw [atGo_length, ib_length, ib_length, ctrB_length]) ?_
  rw [atGo_length, ib_length, atGo_V _ _ _ (bytes_ib b) (by rw [ib_length]; exact Nat.le_refl _), ctrB_V]
theorem and_i64_255 (x : Int) (h0 : 0 ≤ x) (h1 : x < 9223372036854775808) : Go.bits .and .i64 x 255 = x % 256 := by
  obtain ⟨n, rfl⟩ := Int.eq_ofNat_of_zero_le h0
  show IntKind.i64.wrap ((BitVec.ofInt 64 (n : Int) &&& BitVec.ofInt 64 255).toNat : Int) = _
  rw [BitVec.toNat_and, BitVec.ofInt_natCast, BitVec.toNat_ofNat, Nat.mod_eq_of_lt (by omega), show (BitVec.ofInt 64 255).toNat = 2 ^ 8 - 1 from rfl, Nat.and_two_pow_sub_one_eq_mod, IntKind.wrap_i64]
  omega
theorem w64v (n : Nat) (h : n < 9223372036854775808) : wrap64 (n : Int) = n := by unfold wrap64; omega
theorem c1 (a b : Nat) : (a : Int) + ((b : Int) % 256) = ((a + b % 256 : Nat) : Int) := by omega
theorem c2 (a b : Nat) : (a : Int) / 256 + ((b : Int) / 256) = ((a / 256 + b / 256 : Nat) : Int) := by omega
theorem c3 (a : Nat) : (a : Int) % 256 = ((a % 256 : Nat) : Int) := by omega
theorem n1 (a b : Nat) (h : a < 256) : a + b % 256 < 9223372036854775808 := by omega
theorem n2 (a b : Nat) (h : a < 256) (hb : b < 9223372036854775808) : b / 256 + (a + b % 256) / 256 < 9223372036854775808 := by omega
theorem step_v (li k : Nat) (h : li < 256) : wrap64 (wrap64 (li : Int) + (k : Int) % 256) = ((li + k % 256 : Nat) : Int) := by
  rw [w64v li (Nat.lt_trans h (by decide)), c1, w64v _ (n1 _ _ h)]
theorem step_k (li k : Nat) (h : li < 256) (hk : k < 9223372036854775808) : wrap64 ((k : Int) / 256 + (wrap64 (wrap64 (li : Int) + (k : Int) % 256)) / 256) = ((k / 256 + (li + k % 256) / 256 : Nat) : Int) := by
  rw [step_v li k h, c2, w64v _ (n2 _ _ h hk)]
theorem step_i (i : Nat) (h : i < 1000) : wrap64 ((i : Int) - 1) = (i : Int) - 1 := by unfold wrap64; omega
theorem e_i (i : Nat) : ((i + 1 : Nat) : Int) - 1 = (i : Int) := by omega
theorem i_lt (i n : Nat) (h : i + 1 ≤ n) : (i : Int) < (n : Int) := by omega
theorem k_pos (k : Nat) (h : ¬ k = 0) : (k : Int) > 0 := by omega
theorem kb (k : Nat) (h : k < 9223372036854775808) : (k : Int) < 9223372036854775808 := by omega
theorem mb (a : Nat) : ((a % 256 : Nat) : Int) < 256 := by omega
theorem at_l0 : ∀ (i kk : Nat) (l : List Int) (k : Nat), Bytes l → i ≤ l.length → l.length ≤ 1000 → k < 9223372036854775808 → i < kk → ctr_At.l0 kk (k : Int) l ((i : Int) - 1) = some (atGo i l k, 0) := by
  intro i
  induction i with
  | zero =>
    intro kk l k hb hi hl hk hkk
    obtain ⟨kk, rfl⟩ : ∃ m, kk = m + 1 := ⟨kk - 1, by omega⟩
    simp only [ctr_At.l0]
    rw [if_neg (by omega)]; rfl
  | succ i ih =>
    intro kk l k hb hi hl hk hkk
    obtain ⟨kk, rfl⟩ : ∃ m, kk = m + 1 := ⟨kk - 1, by omega⟩
    have hi1 : i < 1000 := Nat.lt_of_lt_of_le hi hl
    have hr := hb.rd i
    obtain ⟨li, hli, hl2⟩ : ∃ z : Nat, l.getD i 0 = (z : Int) ∧ z < 256 := ⟨(l.getD i 0).toNat, (Int.toNat_of_nonneg hr.1).symm, by clear hk hkk; omega⟩
    have er : rd l (i : Int) = (li : Int) := by unfold rd; rw [Int.toNat_natCast, hli]
    have hn2 := n2 li k hl2 hk
    simp only [ctr_At.l0, atGo]
    rw [e_i, if_pos (Int.natCast_nonneg i)]
    by_cases h0 : k = 0
    · subst h0; rw [if_neg (by decide), if_pos rfl]
    · rw [if_pos (k_pos k h0), if_pos (Int.natCast_nonneg i), if_pos (i_lt i _ hi), if_neg h0, er, and_i64_255 _ (Int.natCast_nonneg k) (kb k hk), Int.toNat_natCast, step_k li k hl2 hk, step_v li k hl2, c3, step_i i hi1, hli, Int.toNat_natCast]
      exact ih kk _ _ (hb.set _ _ (Int.natCast_nonneg _) (mb _)) (by rw [List.length_set]; exact Nat.le_of_succ_le hi) (by rw [List.length_set]; exact hl) hn2 (Nat.lt_of_succ_lt_succ hkk)
theorem at_f (b : List B) (hb : b.length = 16) (k : Nat) (hk : k < 9223372036854775808) : ctr_At.f 17 (ib b) (k : Int) = some (ib (ctrB b k), 0) := by
  unfold ctr_At.f
  have hl : (ib b).length = 16 := by rw [ib_length, hb]
  have h16 : ((ib b).length : Int) = 16 := by rw [hl]; rfl
  rw [if_pos h16, if_neg (by omega)]
  simp only [Option.bind_some, List.nil_append, List.length_nil]
  rw [if_pos (by rw [hl]; decide)]
  have := at_l0 16 17 (ib b) k (bytes_ib b) (by rw [hl]; exact Nat.le_refl _) (by rw [hl]; decide) hk (by decide)
  rw [show (((16 : Nat) : Int) - 1) = 15 from rfl] at this
  rw [this, ← at_ctr, hb]
theorem awake_f : visorlaw10_awake.f 100 = some true := by
  have h : visorlaw10_awake.f 100 = ((ctr_At.f 83 (List.replicate 16 255) 1).bind fun bt198 => (if bt198.2 = 0 then (if 16 ≤ 281474976710656 then ((visorref01_Same.f bt198.1 (List.replicate 16 0)).bind fun t205 => (some t205)) else (none)) else (some false))) := by
    unfold visorlaw10_awake.f
    simp [visorlaw10_awake.l0, wrap64]
  rw [h]
  have h2 : ctr_At.f 83 (List.replicate 16 255) 1 = some (List.replicate 16 0, 0) := by decide +kernel
  rw [h2]
  simp [visorref01_Same.f]
end Go.Proofs.Ytpdikfmdnlhllaa.Aes
namespace Go.Proofs.Ytpdikfmdnlhllaa.Aes
open Go Go.RowKit Go.Proofs.Ytpdikfmdnlhllaa.PNib Go.Proofs.YtpdikfmdnlhllaaW.PrintWords Go.Proofs.YtpdikfmdnlhllaaW.PrintLast Go.Proofs.YtpdikfmdnlhllaaW.PrintMore Byte Sl Arr Mem Gives ArrEq Mat AesMath AesMov AesLin HandKit Copy
set_option linter.unusedVariables false
set_option linter.unusedSimpArgs false
theorem blocksN_add (a n : Nat) : blocksN (16 * a + n) = a + blocksN n := by unfold blocksN; omega
theorem str_part (E : List B → List B) (b : List B) (hE : ∀ y, (E y).length = 16) (a n : Nat) : (streamB E b (16 * a + n)).drop (16 * a) = streamB E (ctrB b a) n := by
  unfold streamB
  rw [blocksN_add, strB_drop E b hE a (blocksN n), List.take_append, List.drop_append, strB_length E b hE a, List.length_take, strB_length E b hE a]
  rw [List.drop_eq_nil_of_le (by rw [List.length_take, strB_length E b hE a]; omega), List.nil_append]
  rw [show 16 * a + n - 16 * a = n by omega, show 16 * a - min (16 * a + n) (16 * a) = 0 by omega, List.drop_zero]
theorem On.take {W : World} {bx : Nat} {A : Option Addr} {n m : Nat} {l : List B} (h : On W bx A n l) (hm : m ≤ n) : On W bx A m (l.take m) := by
  have e := Kd.F_len h
  subst e
  have := Kd.F_take h hm
  rw [List.length_take, Nat.min_eq_left hm] at this
  show Kd.F (Kd.int .u8) W _ _ _ (ib (l.take m))
  rw [ib_take]
  exact this
theorem OR.take {W : World} {b : Nat} {A : Option Addr} {n m : Nat} {l : List B} (h : OR b W A n l) (hm : m ≤ n) : OR b W A m (l.take m) := by
  have e := Kd.F_len h
  subst e
  have := Kd.F_take h hm
  rw [List.length_take, Nat.min_eq_left hm] at this
  show Kd.F (Kd.int .u8) W _ _ _ (ib (l.take m))
  rw [ib_take]
  exact this
theorem On.cut {W : World} {bx : Nat} {ad : Addr} {n c m : Nat} {l : List B} (h : On W bx (some ad) n l) (hm : m < n) (hc : n ≤ c) : On W bx (some (ad.add m)) (n - m) (l.drop m) := by
  have e := Kd.F_len h
  subst e
  have := Kd.F_cut h (Nat.le_of_lt hm) hc
  rw [if_neg (by omega)] at this
  rw [show (Kd.int .u8).sz = 1 from rfl, Nat.mul_one] at this
  rw [List.length_drop] at this
  show Kd.F (Kd.int .u8) W _ _ _ (ib (l.drop m))
  rw [ib_drop]
  exact this
theorem addr_add (N a : Nat) : (⟨N, 0, none⟩ : Addr).add a = ⟨N, a, none⟩ := by
  unfold Addr.add
  split
  · rename_i e; rw [e]
  · rw [Nat.zero_add]
theorem at_c (b : List B) (hb : b.length = 16) (k : Nat) (hk : k < 9223372036854775808) (A : Option Addr) (c : Nat) (hc : 16 ≤ c) (W : World) (h : Kd.C (Kd.int .u8) W A 16 (ib b)) : Calls Try.prog 52 #[.slice A 16 c, .int .i64 (k : Int)] W fun e w' => ∃ ad c2, e = .returned (.tuple #[.slice (some ad) 16 c2, .int .i64 0]) ∧ 16 ≤ c2 ∧ NR W.heap.size w' (some ad) 16 (ctrB b k) ∧ Below W.heap.size W w' := by
  have hl : (ib b).length = 16 := by rw [ib_length, hb]
  have := ctr_At.calls 17 A c (ib b) k (ib (ctrB b k)) 0 W (by rw [hl]; exact h) (by rw [hl]; exact hc) (at_f b hb k hk)
  rw [hl] at this
  refine this.mono ?_
  rintro e w' ⟨v, rfl, hv, hB⟩
  obtain ⟨A2, c2, rfl, hc2, hn⟩ := row_new hv (n := 16) (by rw [ctrB_length, hb])
  obtain ⟨ad, rfl⟩ : ∃ ad, A2 = some ad := by
    obtain ⟨ad, h, _⟩ := (Kd.F_now hn).2.2 (by decide)
    exact ⟨ad, h⟩
  exact ⟨ad, c2, rfl, hc2, hn, hB⟩
theorem tawake_c (W : World) : Calls Try.prog 49 #[] W fun e w' => e = .returned (.bool true) ∧ Below W.heap.size W w' := visorlaw10_awake.calls 100 true W awake_f
set_option maxHeartbeats 4000000 in
set_option maxRecDepth 100000 in
theorem cover_c (g bx : Nat) (ks : List (List B)) (nr : Nat) (K : KN ks nr) (b : List B) (hb : b.length = 16) (ad : Addr) (c : Nat) (hc : 16 ≤ c) (m : List B) (L : Nat) (hn : L ≤ 65536) (A1 : Option Addr) (c1 : Nat) (hc1 : L ≤ c1) (w : World) (hF : On w bx (some ad) 16 b) (hM : On w bx A1 L m) (hX : Cph w g bx ks) : Calls Try.prog 51 #[.pointer (some ⟨g, 0, none⟩), .slice (some ad) 16 c, .slice A1 L c1] w fun e w' => ∃ A2 c2, e = .returned (.tuple #[.slice A2 L c2, .int .i64 0]) ∧ L ≤ c2 ∧ NR w.heap.size w' A2 L (zipX (streamB (encB ks nr) b L) m) ∧ Cph w' g bx ks ∧ Ch bx w w' := by
  have hE : ∀ y, (encB ks nr y).length = 16 := fun y => encB_length ks nr y
  have hmL := hM.len
  have CS := Aside0.mk (stream_c g bx ks nr K b hb ad c hc L hn w hF hX)
  have hSL : (streamB (encB ks nr) b L).length = L := streamB_length _ _ hE L
  have CX := Aside0.mk (fun N W h1 h2 => pxor_c (streamB (encB ks nr) b L) m L L L hSL hmL (by rw [zipX_length, hSL, hmL]; exact Nat.min_self L) (by omega) N A1 L c1 (Nat.le_refl L) hc1 W h1 h2)
  have HM := Aside0.mk hM
  have HX := Aside0.mk hX
  clear K hb hc hn hF hM hX hSL hE hmL
  generalize streamB (encB ks nr) b L = s at *
  have HC1 := Aside0.mk hc1
  clear hc1
  go_enter Try.func51, Try.ntmps51
  go_wp2_with (first
    | (go_at_call 50; go_loud ((with_reducible refine CS.out.mono ?_); rintro e w1 ⟨N, rfl, hN, hnr, hx, hch⟩; have HS := Aside0.mk hnr; have HX := Aside0.mk hx; have HC := Aside0.mk hch; have HM := Aside0.mk (HM.out.ch hch); clear hN hnr hx hch))
    | (go_at_call 81; go_loud ((with_reducible refine (CX.out _ _ HS.out.C HM.out.C).mono ?_); rintro e w2 ⟨A2, c2, rfl, hc2, hnr, hbl⟩; have HR := Aside0.mk (NR.low hnr HC.out.size); have HC2 := Aside0.mk hc2; have HX := Aside0.mk (HX.out.below hbl); have HC := Aside0.mk (Ch.step HC.out hbl); clear hc2 hnr hbl)))
  go_ret2
  exact ⟨A2, c2, rfl, HC2.out, HR.out, HX.out, HC.out⟩
set_option maxHeartbeats 4000000 in
set_option maxRecDepth 100000 in
theorem ctwice_c (key b m0 : List B) (hk : key.length = 16) (hb : b.length = 16) (L0 : Nat) (A0 : Option Addr) (c0 : Nat) (hc0 : L0 ≤ c0) (k : Nat) (hk8 : k < 256) (w : World) (hC : Kd.C (Kd.int .u8) w A0 L0 (ib m0)) : Calls Try.prog 10 #[.agg (cellsOf .u8 (ib key)), .agg (cellsOf .u8 (ib b)), .slice A0 L0 c0, .int .u8 (k : Int)] w fun e w' => e = .returned (.bool true) ∧ Below w.heap.size w w' := by
  have hr0 : roundsN key.length ≠ 0 := by rw [hk]; decide
  obtain ⟨n, K⟩ := kn_of key hr0
  have hE : ∀ y, (encB (roundKeys key) n y).length = 16 := fun y => encB_length (roundKeys key) n y
  have HKL := Aside0.mk (show (ib key).length = 16 by rw [ib_length, hk])
  have HBL := Aside0.mk (show (ib b).length = 16 by rw [ib_length, hb])
  have M1 := Aside0.mk (Mem.alloc (Mem.new .u8 w 31 (ib key)) (.cells (cellsOf .u8 (ib b)) 31))
  have M2 := Aside0.mk (Mem.new2 .u8 w (.cells (cellsOf .u8 (ib key)) 31) 31 (ib b))
  have HB := Aside0.mk (below_alloc (below_alloc (Below.refl w.heap.size w) (.cells (cellsOf .u8 (ib key)) 31)) (.cells (cellsOf .u8 (ib b)) 31))
  have O0 := Aside0.mk (show OR (w.heap.size + 2) ((w.alloc (.cells (cellsOf .u8 (ib key)) 31)).alloc (.cells (cellsOf .u8 (ib b)) 31)) A0 L0 m0 from Kd.F_mono ((OR.of_C hC).below (below_alloc (below_alloc (Below.refl _ _) (.cells (cellsOf .u8 (ib key)) 31)) (.cells (cellsOf .u8 (ib b)) 31))) (fun k hk => by omega))
  have OB := Aside0.mk (show OR (w.heap.size + 2) ((w.alloc (.cells (cellsOf .u8 (ib key)) 31)).alloc (.cells (cellsOf .u8 (ib b)) 31)) (some ⟨(w.heap.size + 1), 0, none⟩) 16 b from OR.of_mem M2.out hb (by omega))
  have CN := Aside0.mk (fun A c (hc : 16 ≤ c) W h => new_n key hr0 16 hk A c hc W h)
  have CA := Aside0.mk (fun W => tawake_c W)
  have CAT := Aside0.mk (fun k hk A c (hc : 16 ≤ c) W h => at_c b hb k hk A c hc W h)
  have CC := Aside0.mk (fun g bx m L hn A1 c1 hc1 W hF hM hX => cover_c g bx (roundKeys key) n K b hb ⟨(w.heap.size + 1), 0, none⟩ 16 (by decide) m L hn A1 c1 hc1 W hF hM hX)
  have CS := Aside0.mk (fun g bx n1 hn W hF hX => stream_c g bx (roundKeys key) n K b hb ⟨(w.heap.size + 1), 0, none⟩ 16 (by decide) n1 hn W hF hX)
  have CS2 := Aside0.mk (fun g bx a (ad : Addr) c (hc : 16 ≤ c) n1 hn W hF hX => stream_c g bx (roundKeys key) n K (ctrB b a) (by rw [ctrB_length, hb]) ad c hc n1 hn W hF hX)
  have HSL := Aside0.mk (fun b n1 => streamB_length (encB (roundKeys key) n) b hE n1)
  have HPT := Aside0.mk (fun a n1 => str_part (encB (roundKeys key) n) b hE a n1)
  have HL0 := Aside0.mk (show m0.length = L0 ∧ L0 ≤ c0 from ⟨by have := hC.1; rwa [ib_length] at this, hc0⟩)
  generalize encB (roundKeys key) n = E at *
  clear hC hk hb hr0 K hc0 hE
  obtain ⟨ck, hck⟩ : ∃ z, z = cellsOf .u8 (ib key) := ⟨_, rfl⟩
  obtain ⟨cb, hcb⟩ : ∃ z, z = cellsOf .u8 (ib b) := ⟨_, rfl⟩
  rw [← hck, ← hcb] at M1 M2 HB O0 OB ⊢
  clear hck hcb
  obtain ⟨at_, hat⟩ : ∃ z, z = k % 40 := ⟨_, rfl⟩
  have hat2 : at_ < 40 := by rw [hat]; exact Nat.mod_lt _ (by decide)
  have hcase : 500 < L0 ∨ L0 ≤ 500 := by omega
  rcases hcase with h1 | h1
  case' inl =>
    have t1 : (500 : Int) < (L0 : Int) := by omega
    have t2 : (500 : Int) ≤ (c0 : Int) := by have := HL0.out.2; omega
    have O0 := Aside0.mk (O0.out.take (Nat.le_of_lt h1))
    have HL := Aside0.mk (show 500 ≤ c0 ∧ 500 ≤ 500 from ⟨by have := HL0.out.2; omega, by decide⟩)
    clear h1
    have HKT := Aside0.mk (And.intro hk8 (And.intro hat hat2))
    clear hk8 hat hat2
    go_enter Try.func10, Try.ntmps10
    go_upto_region 3 with (fail)
    obtain ⟨L, mm, hL, hmm⟩ : ∃ L mm, L = 500 ∧ mm = m0.take 500 := ⟨_, _, rfl, rfl⟩
    rw [← hmm] at O0
    rw [show Value.slice A0 500 c0 = Value.slice A0 L c0 by rw [hL]]
    rw [← hL] at O0 HL
    have HL := Aside0.mk (show L ≤ c0 ∧ L ≤ 500 from ⟨HL.out.1, Nat.le_of_eq hL⟩)
    clear hL hmm t2
  case' inr =>
    have t1 : ¬ (500 : Int) < (L0 : Int) := by omega
    have HL := Aside0.mk (show L0 ≤ c0 ∧ L0 ≤ 500 from ⟨HL0.out.2, h1⟩)
    clear h1
    have HKT := Aside0.mk (And.intro hk8 (And.intro hat hat2))
    clear hk8 hat hat2
    go_enter Try.func10, Try.ntmps10
    go_upto_region 3 with (fail)
    obtain ⟨L, mm, rfl, rfl⟩ : ∃ L mm, L = L0 ∧ mm = m0 := ⟨_, _, rfl, rfl⟩
  all_goals
    clear HL0 t1
    have OM := O0
    clear O0
    go_upto_region 6 with (first
      | (go_at_call 30; go_loud ((with_reducible refine (CN.out _ _ (by decide) _ (mem_row16 M1.out HKL.out)).mono ?_); rintro e w1 ⟨g, bx, rfl, hx, hbx, hb⟩; have HX := Aside0.mk hx; have HBX := Aside0.mk (show w.heap.size + 2 ≤ bx by have h_ := hbx; rw [World.size_alloc, World.size_alloc] at h_; exact h_); have OB := Aside0.mk ((OB.out.below hb).on HBX.out); have OM := Aside0.mk ((OM.out.below hb).on HBX.out); have HB := Aside0.mk (below_step HB.out hb); have HC := Aside0.mk (Ch.refl (g := bx) w1); clear hx hbx hb)))
    clear M1 M2 CN
    have H655 := Aside0.mk (show L ≤ 65536 from Nat.le_trans HL.out.2 (by decide))
    have CC1 := Aside0.mk (fun W hF hM hX => CC.out g bx mm L H655.out A0 c0 HL.out.1 W hF hM hX)
    have HBK := Aside0.mk (zipX_self (streamB E b L) mm (by rw [HSL.out, OM.out.len]; exact Nat.le_refl L))
    have CC2 := Aside0.mk (fun A c hc W hF hM hX => CC.out g bx (zipX (streamB E b L) mm) L H655.out A c hc W hF hM hX)
    rw [HBK.out] at CC2
    obtain ⟨on1, hon⟩ : ∃ z, z = zipX (streamB E b L) mm := ⟨_, rfl⟩
    rw [← hon] at CC1 CC2
    have HON := Aside0.mk hon.symm
    clear hon HBK CC
    go_upto_region 8 with (first
      | (go_at_call 51; go_loud ((with_reducible refine (CC1.out _ OB.out OM.out HX.out).mono ?_); rintro e w2 ⟨A3, c3, rfl, hc3, hnr, hx, hc⟩; have hbx_ := HX.out.bound.2.2.2; have OB := Aside0.mk (OB.out.ch hc); have OM := Aside0.mk (OM.out.ch hc); have HX := Aside0.mk hx; have HC := Aside0.mk (HC.out.trans hc); have ON := Aside0.mk (hnr.on hbx_); have HC3 := Aside0.mk hc3; clear CC1 hc3 hnr hx hc hbx_))
      | (go_at_call 51; go_loud ((with_reducible refine (CC2.out _ _ HC3.out _ OB.out ON.out HX.out).mono ?_); rintro e w3 ⟨A4, c4, rfl, hc4, hnr, hx, hc⟩; have hbx_ := HX.out.bound.2.2.2; have OB := Aside0.mk (OB.out.ch hc); have OM := Aside0.mk (OM.out.ch hc); have ON := Aside0.mk (ON.out.ch hc); have HX := Aside0.mk hx; have HC := Aside0.mk (HC.out.trans hc); have OT := Aside0.mk (hnr.on hbx_); have HC4 := Aside0.mk hc4; clear CC2 hc4 hnr hx hc hbx_)))
    have i1 : wrap64 (k : Int) = (k : Int) := w64v k (Nat.lt_trans HKT.out.1 (by decide))
    have i2 : Int.tmod (k : Int) 40 = (at_ : Int) := by rw [HKT.out.2.1]; exact (Int.ofNat_tmod k 40).symm
    have i3 : wrap64 (at_ : Int) = (at_ : Int) := w64v at_ (Nat.lt_trans HKT.out.2.2 (by decide))
    go_upto_region 9 with (fail)
    clear i1 i2
    obtain ⟨a16, ha16⟩ : ∃ z, z = 16 * at_ := ⟨_, rfl⟩
    obtain ⟨nn, hnn⟩ : ∃ z, z = a16 + L := ⟨_, rfl⟩
    have HA16 := Aside0.mk (show a16 ≤ 640 by have := HKT.out.2.2; clear i3; omega)
    have HNN := Aside0.mk hnn
    have i4 : wrap64 (16 * (at_ : Int)) = (a16 : Int) := by
      rw [show (16 : Int) * (at_ : Int) = ((16 * at_ : Nat) : Int) from rfl, ← ha16]
      exact w64v a16 (Nat.lt_of_le_of_lt HA16.out (by decide))
    have i5 : wrap64 ((a16 : Int) + (L : Int)) = (nn : Int) := by
      rw [show (a16 : Int) + (L : Int) = ((a16 + L : Nat) : Int) from rfl, ← hnn]
      exact w64v nn (by rw [hnn]; exact Nat.lt_of_le_of_lt (Nat.add_le_add HA16.out HL.out.2) (by decide))
    have HN65 := Aside0.mk (show nn ≤ 65536 by rw [hnn]; exact Nat.le_trans (Nat.add_le_add HA16.out HL.out.2) (by decide))
    have CSN := Aside0.mk (fun W hF hX => CS.out g bx nn HN65.out W hF hX)
    have CATK := Aside0.mk (fun W h => CAT.out at_ (Nat.lt_trans HKT.out.2.2 (by decide)) (some ⟨(w.heap.size + 1), 0, none⟩) 16 (by decide) W h)
    have CS2K := Aside0.mk (fun ad c hc W hF hX => CS2.out g bx at_ ad c hc L H655.out W hF hX)
    have HDR := Aside0.mk (show (streamB E b nn).drop a16 = streamB E (ctrB b at_) L by rw [hnn, ha16]; exact HPT.out at_ L)
    have HNL := Aside0.mk (fun (h : at_ = 0) => show nn = L by rw [hnn, ha16, h, Nat.mul_zero, Nat.zero_add])
    have HSAME := Aside0.mk (fun (h : at_ = 0) => show streamB E b nn = streamB E b L by rw [hnn, ha16, h, Nat.mul_zero, Nat.zero_add])
    clear CS CAT CS2 HPT HSL H655 ha16 hnn
    obtain ⟨s0_, hs0⟩ : ∃ z, z = streamB E b L := ⟨_, rfl⟩
    rw [← hs0] at HSAME HON
    clear hs0
    obtain ⟨sa, hsa⟩ : ∃ z, z = streamB E b nn := ⟨_, rfl⟩
    obtain ⟨sp, hsp⟩ : ∃ z, z = streamB E (ctrB b at_) L := ⟨_, rfl⟩
    rw [← hsa] at HDR HSAME CSN
    rw [← hsp] at HDR CS2K
    obtain ⟨bk, hbk⟩ : ∃ z, z = ctrB b at_ := ⟨_, rfl⟩
    rw [← hbk] at CATK CS2K
    clear hsa hsp hbk
    go_upto_region 12 with (first
      | (go_at_call 50; go_loud ((with_reducible refine (CSN.out _ OB.out HX.out).mono ?_); rintro e w4 ⟨N4, rfl, _, hnr, hx, hc⟩; have hbx_ := HX.out.bound.2.2.2; have OB := Aside0.mk (OB.out.ch hc); have OM := Aside0.mk (OM.out.ch hc); have ON := Aside0.mk (ON.out.ch hc); have OT := Aside0.mk (OT.out.ch hc); have HX := Aside0.mk hx; have HC := Aside0.mk (HC.out.trans hc); have OA := Aside0.mk (hnr.on hbx_); clear CSN hnr hx hc hbx_))
      | (go_at_call 52; go_loud ((with_reducible refine (CATK.out _ OB.out.C).mono ?_); rintro e w5 ⟨ad5, c5, rfl, hc5, hnr, hb⟩; have hbx_ := HX.out.bound.2.2.2; have OB := Aside0.mk (OB.out.below hb); have OM := Aside0.mk (OM.out.below hb); have ON := Aside0.mk (ON.out.below hb); have OT := Aside0.mk (OT.out.below hb); have OA := Aside0.mk (OA.out.below hb); have HX := Aside0.mk (HX.out.below hb); have HC := Aside0.mk (Ch.step HC.out hb); have OK := Aside0.mk (hnr.on hbx_); have HC5 := Aside0.mk hc5; clear CATK hnr hb hbx_ hc5))
      | (go_at_call 50; go_loud ((with_reducible refine (CS2K.out _ _ HC5.out _ OK.out HX.out).mono ?_); rintro e w6 ⟨N6, rfl, _, hnr, hx, hc⟩; have hbx_ := HX.out.bound.2.2.2; have OM := Aside0.mk (OM.out.ch hc); have ON := Aside0.mk (ON.out.ch hc); have OT := Aside0.mk (OT.out.ch hc); have OA := Aside0.mk (OA.out.ch hc); have HX := Aside0.mk hx; have HC := Aside0.mk (HC.out.trans hc); have OP := Aside0.mk (hnr.on hbx_); clear CS2K hnr hx hc hbx_)))
    clear i3 OB OK HC5
    go_upto_region 14 with (fail)
    have S1 := Aside0.mk (fun A1 A2 c1 c2 (hc1 : L ≤ c1) (hc2 : L ≤ c2) W h1 h2 => rsame_c mm mm true (decide_eq_true rfl) L L A1 A2 c1 c2 hc1 hc2 W h1 h2)
    have S2 := Aside0.mk (fun A1 A2 c1 c2 (hc1 : L ≤ c1) (hc2 : L ≤ c2) W h1 h2 => rsame_c sp sp true (decide_eq_true rfl) L L A1 A2 c1 c2 hc1 hc2 W h1 h2)
    have S3 := Aside0.mk (fun A1 A2 c1 c2 (hc1 : L ≤ c1) (hc2 : L ≤ c2) W h1 h2 => rsame_c on1 on1 true (decide_eq_true rfl) L L A1 A2 c1 c2 hc1 hc2 W h1 h2)
    have hL : L = 0 ∨ 0 < L := Nat.eq_zero_or_pos L
    rcases hL with hL | hL
    case' inl =>
      have OD := Aside0.mk (show On w6 bx (some ⟨N4, 0, none⟩) L sp by
        have h1 := (OA.out.take (m := 0) (Nat.zero_le _))
        have h2 := OP.out.len
        rw [hL] at h2 ⊢
        rw [List.eq_nil_of_length_eq_zero h2]
        exact h1)
      have s8 : (nn = a16) = True := eq_true (by rw [HNN.out, hL, Nat.add_zero])
    case' inr =>
      have OD := Aside0.mk (show On w6 bx (some ⟨N4, a16, none⟩) L sp by
        have := (OA.out.cut (m := a16) (c := nn) (by rw [HNN.out]; exact Nat.lt_add_of_pos_right hL) (Nat.le_refl _))
        rw [HDR.out, show nn - a16 = L by rw [HNN.out]; exact Nat.add_sub_cancel_left a16 L, show (⟨N4, 0, none⟩ : Addr).add a16 = ⟨N4, a16, none⟩ from addr_add N4 a16] at this
        exact this)
      have s8 : (nn = a16) = False := eq_false (by rw [HNN.out]; exact Nat.ne_of_gt (Nat.lt_add_of_pos_right hL))
    all_goals
      have s0 : (0 : Int) ≤ (a16 : Int) := Int.natCast_nonneg a16
      have s1 : (a16 : Int) ≤ (nn : Int) := Int.ofNat_le.2 (by rw [HNN.out]; exact Nat.le_add_right _ _)
      have s7 : nn - a16 = L := by rw [HNN.out]; exact Nat.add_sub_cancel_left a16 L
      have hat3 : at_ = 0 ∨ 0 < at_ := Nat.eq_zero_or_pos at_
      rcases hat3 with h3 | h3
      case' inl =>
        have t3 : decide ((0 : Int) < (at_ : Int)) = false := decide_eq_false (by rw [h3]; decide)
        have t4 : (at_ = 0) = True := eq_true h3
        have t5 : (0 < at_) = False := eq_false (by rw [h3]; decide)
        have hz : zipX sa mm = on1 := by rw [HSAME.out h3]; exact HON.out
        have HX3 := Aside0.mk (fun W h1 h2 => rxor_c sa mm nn L L OA.out.len OM.out.len (by rw [hz]; exact ON.out.len) (Nat.le_trans HN65.out (by decide)) (some ⟨N4, 0, none⟩) A0 nn c0 (Nat.le_refl _) HL.out.1 W h1 h2)
        rw [hz] at HX3
        clear hz h3
      case' inr =>
        have t3 : decide ((0 : Int) < (at_ : Int)) = true := decide_eq_true (Int.ofNat_lt.2 h3)
        have t4 : (at_ = 0) = False := eq_false (Nat.ne_of_gt h3)
        have t5 : (0 < at_) = True := eq_true h3
        clear h3
      all_goals
        clear HSAME HON HNL HDR HNN HA16 HKT hL
        go_wp2_with (first
          | (go_at_call 41; (try (refine gate_guard (by rfl) ?_; dsimp only)); go_loud ((with_reducible refine (S1.out _ _ _ _ HC4.out HL.out.1 _ OT.out.C OM.out.C).mono ?_); rintro e w7 ⟨rfl, hb⟩; have OM := Aside0.mk (OM.out.below hb); have ON := Aside0.mk (ON.out.below hb); have OA := Aside0.mk (OA.out.below hb); have OP := Aside0.mk (OP.out.below hb); have OD := Aside0.mk (OD.out.below hb); have HX := Aside0.mk (HX.out.below hb); have HC := Aside0.mk (Ch.step HC.out hb); clear hb S1))
          | (go_at_call 41; (try (refine gate_guard (by rfl) ?_; dsimp only)); go_loud ((with_reducible refine (S2.out _ _ _ _ (Nat.le_refl _) (Nat.le_refl _) _ OD.out.C OP.out.C).mono ?_); rintro e w8 ⟨rfl, hb⟩; have OM := Aside0.mk (OM.out.below hb); have ON := Aside0.mk (ON.out.below hb); have OA := Aside0.mk (OA.out.below hb); have HX := Aside0.mk (HX.out.below hb); have HC := Aside0.mk (Ch.step HC.out hb); clear hb S2))
          | (go_at_call 39; (try (refine gate_guard (by rfl) ?_; dsimp only)); go_loud ((with_reducible refine (HX3.out _ OA.out.C OM.out.C).mono ?_); rintro e w9 ⟨A9, c9, rfl, hc9, hnr, hb⟩; have hbx_ := HX.out.bound.2.2.2; have ON := Aside0.mk (ON.out.below hb); have HX := Aside0.mk (HX.out.below hb); have HC := Aside0.mk (Ch.step HC.out hb); have OX := Aside0.mk (hnr.on hbx_); have HC9 := Aside0.mk hc9; clear HX3 hc9 hnr hb hbx_))
          | (go_at_call 41; (try (refine gate_guard (by rfl) ?_; dsimp only)); go_loud ((with_reducible refine (S3.out _ _ _ _ HC9.out HC3.out _ OX.out.C ON.out.C).mono ?_); rintro e w10 ⟨rfl, hb⟩; have HX := Aside0.mk (HX.out.below hb); have HC := Aside0.mk (Ch.step HC.out hb); clear hb S3))
          | (go_at_call 49; (try (refine gate_guard (by rfl) ?_; dsimp only)); go_loud ((with_reducible refine (CA.out _).mono ?_); rintro e w11 ⟨rfl, hb⟩; have HX := Aside0.mk (HX.out.below hb); have HC := Aside0.mk (Ch.step HC.out hb); clear hb)))
        go_ret
        exact ⟨rfl, HC.out.below HB.out HB.out.size (by have := HBX.out; omega)⟩
end Go.Proofs.Ytpdikfmdnlhllaa.Aes
namespace Go.Proofs.Ytpdikfmdnlhllaa.Aes
open Go Go.RowKit Go.Proofs.Ytpdikfmdnlhllaa.PNib Go.Proofs.YtpdikfmdnlhllaaW.PrintWords Go.Proofs.YtpdikfmdnlhllaaW.PrintLast Go.Proofs.YtpdikfmdnlhllaaW.PrintMore Byte Sl Arr Mem Gives ArrEq Mat AesMath AesMov AesLin HandKit Copy
set_option linter.unusedVariables false
set_option linter.unusedSimpArgs false
theorem set_self (l : List Int) (i : Nat) (h : i < l.length) : l.set i (l.getD i 0) = l := by
  refine List.ext_getElem (by rw [List.length_set]) fun j h1 h2 => ?_
  rw [List.getElem_set]
  split
  · rename_i e; subst e; rw [List.getD_eq_getElem?_getD, List.getElem?_eq_getElem h2]; rfl
  · rfl
theorem lt_k (k : Nat) : Int.tdiv (k : Int) 256 = ((k / 256 : Nat) : Int) := (Int.ofNat_tdiv k 256).symm
theorem lt_m (k : Nat) : Int.tmod (k : Int) 256 = ((k % 256 : Nat) : Int) := (Int.ofNat_tmod k 256).symm
theorem c1' (a b : Nat) : (a : Int) + (b : Int) = ((a + b : Nat) : Int) := rfl
theorem later_v (li k : Nat) (h : li < 256) : wrap64 (wrap64 (li : Int) + Int.tmod (k : Int) 256) = ((li + k % 256 : Nat) : Int) := by
  rw [w64v li (Nat.lt_trans h (by decide)), lt_m, c1', w64v _ (n1 _ _ h)]
theorem n3 (a : Nat) (h : a < 9223372036854775808) : a / 256 < 9223372036854775808 := by omega
theorem later_k (li k : Nat) (h : li < 256) (hk : k < 9223372036854775808) : wrap64 (wrap64 (Int.tdiv (k : Int) 256) + wrap64 (Int.tdiv ((li + k % 256 : Nat) : Int) 256)) = ((k / 256 + (li + k % 256) / 256 : Nat) : Int) := by
  rw [lt_k, lt_k, w64v _ (n3 _ hk), w64v _ (n3 _ (n1 _ _ h)), c1', w64v _ (n2 _ _ h hk)]
theorem mm' (a : Nat) : Int.tmod (a : Int) 256 % 256 = ((a % 256 : Nat) : Int) := by
  rw [lt_m, c3, Nat.mod_mod]
theorem later_l0 : ∀ (i kk : Nat) (l : List Int) (k : Nat), Bytes l → i ≤ l.length → l.length ≤ 1000 → k < 9223372036854775808 → i < kk → visorref10_Later.l0 kk (k : Int) l ((i : Int) - 1) = some (atGo i l k) := by
  intro i
  induction i with
  | zero =>
    intro kk l k hb hi hl hk hkk
    obtain ⟨kk, rfl⟩ : ∃ m, kk = m + 1 := ⟨kk - 1, by omega⟩
    simp only [visorref10_Later.l0]
    rw [if_neg (by omega)]; rfl
  | succ i ih =>
    intro kk l k hb hi hl hk hkk
    obtain ⟨kk, rfl⟩ : ∃ m, kk = m + 1 := ⟨kk - 1, by omega⟩
    have hi1 : i < 1000 := Nat.lt_of_lt_of_le hi hl
    have hr := hb.rd i
    obtain ⟨li, hli, hl2⟩ : ∃ z : Nat, l.getD i 0 = (z : Int) ∧ z < 256 := ⟨(l.getD i 0).toNat, (Int.toNat_of_nonneg hr.1).symm, by clear hk hkk; omega⟩
    have er : rd l (i : Int) = (li : Int) := by unfold rd; rw [Int.toNat_natCast, hli]
    have hn2 := n2 li k hl2 hk
    have hstep : visorref10_Later.l0 (kk + 1) (k : Int) l (((i + 1 : Nat) : Int) - 1) = some (atGo i (l.set i (((li + k % 256) % 256 : Nat) : Int)) (k / 256 + (li + k % 256) / 256)) := by
      simp only [visorref10_Later.l0]
      rw [e_i, if_pos (Int.natCast_nonneg i), if_pos (Int.natCast_nonneg i), if_pos (i_lt i _ hi), er, Int.toNat_natCast, later_v li k hl2, later_k li k hl2 hk, mm', step_i i hi1]
      exact ih kk _ _ (hb.set _ _ (Int.natCast_nonneg _) (mb _)) (by rw [List.length_set]; exact Nat.le_of_succ_le hi) (by rw [List.length_set]; exact hl) hn2 (Nat.lt_of_succ_lt_succ hkk)
    rw [hstep]
    simp only [atGo]
    by_cases h0 : k = 0
    · subst h0
      rw [if_pos rfl, Nat.zero_mod, Nat.add_zero, Nat.mod_eq_of_lt hl2, Nat.zero_div, Nat.div_eq_of_lt hl2, ← hli, set_self l i hi, Nat.add_zero, atGo_zero]
    · rw [if_neg h0, hli, Int.toNat_natCast]
theorem later_f (b : List B) (hb : b.length = 16) (k : Nat) (hk : k < 9223372036854775808) : visorref10_Later.f 17 (ib b) (k : Int) = some (ib (ctrB b k)) := by
  unfold visorref10_Later.f
  have hl : (ib b).length = 16 := by rw [ib_length, hb]
  simp only [Option.bind_some, List.nil_append, List.length_nil]
  rw [if_pos (by rw [hl]; decide)]
  have := later_l0 16 17 (ib b) k (bytes_ib b) (by rw [hl]; exact Nat.le_refl _) (by rw [hl]; decide) hk (by decide)
  rw [show (((16 : Nat) : Int) - 1) = 15 from rfl] at this
  rw [this, ← at_ctr, hb]
theorem later_c (b : List B) (hb : b.length = 16) (k : Nat) (hk : k < 9223372036854775808) (A : Option Addr) (c : Nat) (hc : 16 ≤ c) (W : World) (h : Kd.C (Kd.int .u8) W A 16 (ib b)) : Calls Try.prog 55 #[.slice A 16 c, .int .i64 (k : Int)] W fun e w' => ∃ A2 c2, e = .returned (.slice A2 16 c2) ∧ 16 ≤ c2 ∧ NR W.heap.size w' A2 16 (ctrB b k) ∧ Below W.heap.size W w' := by
  have hl : (ib b).length = 16 := by rw [ib_length, hb]
  have := visorref10_Later.calls 17 A c (ib b) k (ib (ctrB b k)) W (by rw [hl]; exact h) (by rw [hl]; exact hc) (later_f b hb k hk)
  rw [hl] at this
  refine this.mono ?_
  rintro e w' ⟨v, rfl, hv, hB⟩
  obtain ⟨A2, c2, rfl, hc2, hn⟩ := row_new hv (n := 16) (by rw [ctrB_length, hb])
  exact ⟨A2, c2, rfl, hc2, hn, hB⟩
theorem rinc_c (b : List B) (hb : b.length = 16) (A : Option Addr) (c : Nat) (hc : 16 ≤ c) (W : World) (h : Kd.C (Kd.int .u8) W A 16 (ib b)) : Calls Try.prog 88 #[.slice A 16 c] W fun e w' => ∃ A2 c2, e = .returned (.slice A2 16 c2) ∧ 16 ≤ c2 ∧ NR W.heap.size w' A2 16 (incB b) ∧ Below W.heap.size W w' := by
  have hl : (ib b).length = 16 := by rw [ib_length, hb]
  have := visorref01_Inc.calls 17 A c (ib b) (ib (incB b)) W (by rw [hl]; exact h) (by rw [hl]; exact hc) (by rw [CmEval.RInc_eq _ (bytes_ib b) (by rw [hl]; decide) 17 (by rw [hl]; decide), ib_incB, ib_length])
  rw [hl] at this
  refine this.mono ?_
  rintro e w' ⟨v, rfl, hv, hB⟩
  obtain ⟨A2, c2, rfl, hc2, hn⟩ := row_new hv (n := 16) (by rw [incB_length, hb])
  exact ⟨A2, c2, rfl, hc2, hn, hB⟩
theorem rcheck_c (A : Option Addr) (Lb c : Nat) (n r : Int) (b : List B) (hb : b.length = Lb) (hc : Lb ≤ c) (hr : (if (Lb : Int) = 16 then (if n < 0 then (1 : Int) else if n > 65536 then 1 else 0) else 5) = r) (W : World) (h : Kd.C (Kd.int .u8) W A Lb (ib b)) : Calls Try.prog 53 #[.slice A Lb c, .int .i64 n] W fun e w' => e = .returned (.int .i64 r) ∧ Below W.heap.size W w' := by
  subst hb
  have := visorref10_Check.calls A c (ib b) n r W (by rw [ib_length]; exact h) (by rw [ib_length]; exact hc) (by
    unfold visorref10_Check.f
    rw [ib_length, ← hr]
    split
    · split
      · rfl
      · split <;> rfl
    · rfl)
  rw [ib_length] at this
  refine this.mono ?_
  rintro e w' ⟨rfl, ⟨m, rfl⟩⟩
  exact ⟨rfl, pw_below_drewN (Below.refl _ _) m⟩
theorem FB_take {W : World} {ok : Nat → Prop} {A : Option Addr} {n m : Nat} {l : List B} (h : Kd.F (Kd.int .u8) W ok A n (ib l)) (hm : m ≤ n) : Kd.F (Kd.int .u8) W ok A m (ib (l.take m)) := by
  have e := Kd.F_len h
  subst e
  have := Kd.F_take h hm
  rw [List.length_take, Nat.min_eq_left hm] at this
  rw [ib_take]
  exact this
theorem blkA (n j : Nat) (h : j + 0 = blocksN n) : n ≤ 16 * j := by unfold blocksN at h; omega
theorem blkB (n j k : Nat) (h : j + (k + 1) = blocksN n) : 16 * j < n ∧ j + 1 + k = blocksN n := by unfold blocksN at *; omega
set_option maxHeartbeats 4000000 in
set_option maxRecDepth 100000 in
theorem rstream_c (key : List B) (Lk : Nat) (hLk : key.length = Lk) (hr : roundsN key.length ≠ 0) (nr : Nat) (K : KN (roundKeys key) nr) (A : Option Addr) (c : Nat) (hc : Lk ≤ c) (b : List B) (hb : b.length = 16) (A2 : Option Addr) (c2 : Nat) (n : Nat) (hn : n ≤ 65536) (w : World) (hC : Kd.C (Kd.int .u8) w A Lk (ib key)) (hC2 : Kd.C (Kd.int .u8) w A2 16 (ib b)) : Calls Try.prog 54 #[.slice A Lk c, .slice A2 16 c2, .int .i64 (n : Int)] w fun e w' => ∃ A3 c3, e = .returned (.slice A3 n c3) ∧ n ≤ c3 ∧ NR w.heap.size w' A3 n (streamB (encB (roundKeys key) nr) b n) ∧ Below w.heap.size w w' := by
  subst hLk
  have CR := Aside0.mk (fun x (hx : x.length = 16) W (h : Kd.C (Kd.int .u8) W A key.length (ib key)) => rblock_c key x hx hr nr K.len K.each K.few A c hc W h)
  have HE := Aside0.mk (fun y => encB_length (roundKeys key) nr y)
  have HBL := Aside0.mk hb
  have HK := Aside0.mk hC
  have HX0 := Aside0.mk hC2
  have HNN := Aside0.mk hn
  generalize encB (roundKeys key) nr = E at *
  have HSL := Aside0.mk (fun j => strB_length E b HE.out j)
  have HSO := Aside0.mk (fun n j h => streamB_of E b HE.out n j h)
  have HBQ := Aside0.mk (Below.refl w.heap.size w)
  clear hC hC2 K hr hc hb hn
  go_enter Try.func54, Try.ntmps54
  go_upto_region 2 with (first
    | ((with_reducible refine gate_dst (N := 10) rfl ?_); go_loud (refine Kd.R_lit (Kd.int .u8) w.heap.size 5 ?hg (N := 10) ?hd (w0 := w) (xs := ([] : List Int)) (inner := []) (ok := fun k => w.heap.size ≤ k) (okp := fun _ => False) ?hr ?hp (fun _ hk => hk.elim) HBQ.out.size HBQ.out HBQ.out.size (by simp) ?_; (case hd => rfl); (case hg => rfl); (case hr => first | (go_simp; done) | (go_simp; rfl)); (case hp => exact (Reps.none _ _)); intro v5 w5 ho4 hb hg_ hnew_; have HBQ := Aside0.mk hb; have HO := Aside0.mk (show Kd.R (Kd.int .u8) 5 w5 w.heap.size (fun k => w.heap.size ≤ k) v5 (ib []) from ho4); clear hb ho4 hg_ hnew_)))
  obtain ⟨wa, rfl⟩ : ∃ z, z = w5 := ⟨_, rfl⟩
  have HB := HBQ
  obtain ⟨Ao, co, rfl, hco, _⟩ := row_new HO.out (n := 0) rfl
  have HO1 := HO
  clear HO HBQ
  have HBQ := Aside0.mk (Below.refl wa.heap.size wa)
  have LIM := Aside0.mk (show ((ib ([] : List B)).length + 16) * 1 ≤ 140737488355328 by decide)
  go_wp2_with (first
    | ((with_reducible refine gate_dst (N := 11) rfl ?_); go_loud (refine Kd.R_lit (Kd.int .u8) wa.heap.size 5 ?hg (N := 11) ?hd (w0 := wa) (xs := ([] : List Int)) (inner := []) (ok := fun k => wa.heap.size ≤ k) (okp := fun _ => False) ?hr ?hp (fun _ hk => hk.elim) HBQ.out.size HBQ.out HBQ.out.size (by simp) ?_; (case hd => rfl); (case hg => rfl); (case hr => first | (go_simp; done) | (go_simp; rfl)); (case hp => exact (Reps.none _ _)); intro v5 w5 ho4 hb hg_ hnew_; have HBQ := Aside0.mk hb; have HO := Aside0.mk (show Kd.R (Kd.int .u8) 5 w5 wa.heap.size (fun k => wa.heap.size ≤ k) v5 (ib []) from ho4); clear hb ho4 hg_ hnew_))
    | ((with_reducible refine gate_builtin (b := .append) (xs := #[.tmp 11, .tmp 12]) rfl ?_); go_loud (refine Kd.R_append_rows (Kd.int .u8) (w0 := wa) wa.heap.size rfl (.tmp 11) (.tmp 12) 22 5 (.int .u8 0) 1 rfl Try.underlying22 info_u8 rfl (by decide) (by decide) _ (ib []) (ib b) A2 16 c2 (fun k => wa.heap.size ≤ k) (fun _ => False) rfl rfl HO.out ((Kd.C_below HX0.out (below_step HB.out HBQ.out))) (fun _ _ h => h) (fun _ h => h.elim) (fun k hk => Nat.le_trans HBQ.out.size hk) HBQ.out HBQ.out.size ?aL ?_; (case aL => exact LIM.out); intro v6 w6 ho hb hg hat; have HBQ := Aside0.mk hb; have HO := Aside0.mk (show Kd.R (Kd.int .u8) 5 w6 wa.heap.size (fun k => wa.heap.size ≤ k) v6 (ib ([] ++ b)) by rw [ib_append]; exact ho); clear ho hb hg hat)))
  clear LIM
  rw [List.nil_append] at HO
  obtain ⟨An, cn, rfl, hcn, hnn⟩ := row_new HO.out (n := 16) HBL.out
  have HNX := Aside0.mk hnn
  have HCN := Aside0.mk hcn
  have HO2 := Aside0.mk (Kd.R_below (Kd.R_mono (ok' := fun k => w.heap.size ≤ k ∧ k < wa.heap.size) (Kd.R_bound HO1.out) (fun k hk => ⟨hk.1, hk.2.2.1⟩)) HBQ.out)
  have HB := Aside0.mk (below_step HB.out HBQ.out)
  have HWA := Aside0.mk HBQ.out.size
  clear HO HO1 HBQ hcn hnn hco
  go_loopg [7, 8] (blocksN n) (fun kq ov nv w' => ∃ (j p bN : Nat) (Ao : Option Addr) (co : Nat) (An : Option Addr) (cn : Nat), ov = .slice Ao p co ∧ nv = .slice An 16 cn ∧ Aside0 (p = 16 * j ∧ j + kq = blocksN n ∧ 16 ≤ cn ∧ bN ≤ w'.heap.size) ∧ Aside0 (Kd.R (Kd.int .u8) 5 w' w.heap.size (fun k => w.heap.size ≤ k ∧ k < bN) (.slice Ao p co) (ib (strB E b j))) ∧ Aside0 (NR bN w' An 16 (ctrB b j)) ∧ Aside0 (Below w.heap.size w w'))
  case atStart => exact ⟨0, 0, _, _, _, _, _, rfl, rfl, ⟨⟨rfl, by rw [Nat.zero_add], HCN.out, HWA.out⟩⟩, HO2, HNX, HB⟩
  case round =>
    clear HO2 HNX HB HCN HWA HX0
    obtain ⟨j, p, bN, Ao, co, An, cn, rfl, rfl, HN, HO, HNX, HB⟩ := hrel
    have HPL := Aside0.mk (show (strB E b j).length = p by rw [HSL.out, HN.out.1])
    cases gk with
    | zero =>
      have HLE := Aside0.mk (show n ≤ p by rw [HN.out.1]; exact blkA n j HN.out.2.1)
      obtain ⟨A', c', he, hc', hn'⟩ := row_new HO.out HPL.out
      injection he with e1 e2 e3
      subst e1 e3
      clear e2
      have HF := Aside0.mk (FB_take hn' HLE.out)
      rw [HSO.out n j (by rw [← HN.out.1]; exact HLE.out)] at HF
      have HCO := Aside0.mk (Nat.le_trans HLE.out hc')
      have t3 : ¬ (p : Int) < (n : Int) := Int.not_lt.2 (Int.ofNat_le.2 HLE.out)
      have s0 : (0 : Int) ≤ (n : Int) := Int.natCast_nonneg n
      have s1 : (n : Int) ≤ (co : Int) := Int.ofNat_le.2 HCO.out
      clear hc' hn' HLE HSL HSO
      go_wp2
      go_ret
      exact ⟨_, _, rfl, HCO.out, HF.out, HB.out⟩
    | succ k2 =>
      have hN2 := blkB n j k2 HN.out.2.1
      have HJ := Aside0.mk hN2.2
      have t3 : (p : Int) < (n : Int) := Int.ofNat_lt.2 (by rw [HN.out.1]; exact hN2.1)
      have M9 := Aside0.mk (Mem.new .u8 wr 31 z16)
      have LIM := Aside0.mk (show ((ib (strB E b j)).length + 16) * 1 ≤ 140737488355328 by
        rw [ib_length, HSL.out]
        have h1 := hN2.1
        have h2 := HNN.out
        omega)
      clear hN2
      have B16 := Aside0.mk (show (ib (ctrB b j)).length = 16 by rw [ib_length, ctrB_length]; exact HBL.out)
      have CR1 := Aside0.mk (CR.out (ctrB b j) (by rw [ctrB_length]; exact HBL.out))
      have CI := Aside0.mk (fun W h => rinc_c (ctrB b j) (by rw [ctrB_length]; exact HBL.out) An cn HN.out.2.2.1 W h)
      have E16 := Aside0.mk (show (ib (E (ctrB b j))).length = 16 by rw [ib_length]; exact HE.out _)
      obtain ⟨eb, heb⟩ : ∃ z, z = E (ctrB b j) := ⟨_, rfl⟩
      rw [← heb] at E16 CR1
      have HEB := Aside0.mk heb
      clear heb
      go_upto_region 5 with (first
        | ((with_reducible refine gate_dst (N := 18) rfl ?_); refine wpList_build_zero rfl 31 rfl (cellsOf .u8 z16) built16 ?_)
        | ((with_reducible refine gate_store (t := 31) (p := 9) rfl ?_); refine Mem.store (l' := z16) M9.out rfl 31 (.tmp 9) (.tmp 18) rfl rfl rfl (by first | exact info16 | (rw [z16_length]; exact info16)) (by first | rfl | (rw [z16_length]; rfl) | rw [z16_length, z16_length]) ?_))
      generalize hw1 : World.setRow (World.alloc wr _) _ _ = w1
      have M9 := Aside0.mk (show Mem .u8 w1 wr.heap.size 31 z16 by rw [← hw1]; exact Mem.put M9.out z16)
      have HBR := Aside0.mk (show Below wr.heap.size wr w1 by rw [← hw1]; exact below_setRow (below_alloc (Below.refl wr.heap.size wr) (.cells (cellsOf .u8 z16) 31)) (Nat.le_refl _) _)
      clear hw1
      go_upto_region 6 with (first
        | ((with_reducible refine gate_builtin (b := .copy) (xs := #[.tmp 19, .tmp 20]) rfl ?_); go_loud (refine list_copy16 rfl (.tmp 19) (.tmp 20) 22 (by rfl) 5 Try.underlying22 size_u8 (by rfl) (by rfl) M9.out z16_length ((NR.below HNX.out HBR.out).C) (by decide) (by decide) ?_)))
      rw [show over z16 (ib (ctrB b j)) = ib (ctrB b j) from over_all (by rw [B16.out]; rfl)]
      generalize hw2 : World.setRow w1 _ _ = w2
      have M9 := Aside0.mk (show Mem .u8 w2 wr.heap.size 31 (ib (ctrB b j)) by rw [← hw2]; exact Mem.put M9.out (ib (ctrB b j)))
      have HBR := Aside0.mk (show Below wr.heap.size wr w2 by rw [← hw2]; exact below_setRow HBR.out (Nat.le_refl _) _)
      clear hw2
      go_upto_region 7 with (first
        | ((with_reducible refine gate_dst (N := 23) rfl ?_); refine Mem.load M9.out rfl 31 (.tmp 9) rfl rfl Try.underlying31 (by rw [B16.out]; exact info16) ?_)
        | (go_at_call 34; go_loud ((with_reducible refine (CR1.out _ (Kd.C_below HK.out (below_step HB.out HBR.out))).mono ?_); rintro e w3 ⟨rfl, hb⟩; have M9 := Aside0.mk (Mem.below M9.out hb); have HBR := Aside0.mk (below_step HBR.out hb); clear hb))
        | ((with_reducible refine gate_store (t := 31) (p := 9) rfl ?_); refine Mem.store (l' := ib eb) M9.out rfl 31 (.tmp 9) (.tmp 24) rfl rfl rfl (by first | exact info16 | (rw [E16.out]; exact info16)) (by first | rfl | (rw [E16.out]; rfl) | rw [B16.out, E16.out]) ?_))
      generalize hw4 : World.setRow w3 _ _ = w4
      have M9 := Aside0.mk (show Mem .u8 w4 wr.heap.size 31 (ib eb) by rw [← hw4]; exact Mem.put M9.out (ib eb))
      have HBR := Aside0.mk (show Below wr.heap.size wr w4 by rw [← hw4]; exact below_setRow HBR.out (Nat.le_refl _) _)
      clear hw4 CR1
      have M9C := Aside0.mk (mem_row16 M9.out E16.out)
      have HOW := HO
      have HO := Aside0.mk (Kd.R_mono (ok' := fun k => w.heap.size ≤ k) (Kd.R_below HO.out HBR.out) (fun k hk => hk.1))
      have HBQ := Aside0.mk (below_step HB.out HBR.out)
      have HNX := Aside0.mk (NR.below HNX.out HBR.out)
      go_upto_region 8 with (first
        | ((with_reducible refine gate_builtin (b := .append) (xs := #[.tmp 25, .tmp 26]) rfl ?_); go_loud (refine Kd.R_append_rows (Kd.int .u8) (w0 := w) w.heap.size rfl (.tmp 25) (.tmp 26) 22 5 (.int .u8 0) 1 rfl Try.underlying22 info_u8 rfl (by decide) (by decide) _ (ib (strB E b j)) (ib eb) (some ⟨wr.heap.size, 0, none⟩) 16 16 (fun k => w.heap.size ≤ k) (fun _ => False) rfl rfl HO.out (M9C.out) (fun _ _ h => h) (fun _ h => h.elim) (fun k hk => Nat.le_trans HBQ.out.size hk) HBQ.out HBQ.out.size ?aL ?_; (case aL => exact LIM.out); intro v6 w6 ho hb hg hat; have HBQ := Aside0.mk hb; have HO := Aside0.mk (show Kd.R (Kd.int .u8) 5 w6 w.heap.size (fun k => w.heap.size ≤ k) v6 (ib ((strB E b j) ++ eb)) by rw [ib_append]; exact ho); have HG := Aside0.mk hg; clear ho hb hat hg)))
      have HNX := Aside0.mk (show NR bN w6 An 16 (ctrB b j) from Kd.F_grown HNX.out HG.out (fun k hk e => by have := (HOW.out.1 k e.symm).2; omega))
      obtain ⟨Ap, cp, rfl, hcp, _⟩ := row_new HO.out (n := p + 16) (by rw [List.length_append, HPL.out, ← ib_length, E16.out])
      have HO := Aside0.mk (Kd.R_mono (ok' := fun k => w.heap.size ≤ k ∧ k < w6.heap.size) (Kd.R_bound HO.out) (fun k hk => ⟨hk.1, hk.2.2.1⟩))
      clear M9 M9C LIM HOW HG HBR hcp HPL
      go_wp2_with (first
        | (go_at_call 88; go_loud ((with_reducible refine (CI.out _ HNX.out.C).mono ?_); rintro e w7 ⟨A8, c8, rfl, hc8, hn8, hb⟩; have HO := Aside0.mk (Kd.R_below HO.out hb); have HB := Aside0.mk (below_step HBQ.out hb); have HN8 := Aside0.mk hn8; have HC8 := Aside0.mk (And.intro hc8 hb.size); clear hc8 hn8 hb)))
      go_roundg k2
      case measure => omega
      case rel => exact ⟨j + 1, p + 16, _, _, _, _, _, rfl, rfl, ⟨⟨by rw [HN.out.1, Nat.mul_succ], HJ.out, HC8.out.1, HC8.out.2⟩⟩, ⟨by have := HO.out; rw [HEB.out] at this; exact this⟩, ⟨HN8.out⟩, HB⟩
end Go.Proofs.Ytpdikfmdnlhllaa.Aes
namespace Go.Proofs.Ytpdikfmdnlhllaa.Aes
open Go Go.RowKit Go.Proofs.Ytpdikfmdnlhllaa.PNib Go.Proofs.YtpdikfmdnlhllaaW.PrintWords Go.Proofs.YtpdikfmdnlhllaaW.PrintLast Go.Proofs.YtpdikfmdnlhllaaW.PrintMore Byte Sl Arr Mem Gives ArrEq Mat AesMath AesMov AesLin HandKit Copy
set_option linter.unusedVariables false
set_option linter.unusedSimpArgs false
theorem at_bad (A : Option Addr) (Lb c : Nat) (n r : Int) (b : List B) (hb : b.length = Lb) (hc : Lb ≤ c) (hr : (Lb ≠ 16 ∧ r = 5) ∨ (Lb = 16 ∧ n < 0 ∧ r = 1)) (W : World) (h : Kd.C (Kd.int .u8) W A Lb (ib b)) : Calls Try.prog 52 #[.slice A Lb c, .int .i64 n] W fun e w' => ∃ A2 c2, e = .returned (.tuple #[.slice A2 0 c2, .int .i64 r]) ∧ Below W.heap.size W w' := by
  subst hb
  have := ctr_At.calls 17 A c (ib b) n [] r W (by rw [ib_length]; exact h) (by rw [ib_length]; exact hc) (by
    unfold ctr_At.f
    rw [ib_length]
    rcases hr with ⟨h1, h2⟩ | ⟨h1, h2, h3⟩
    · rw [if_neg (by omega), h2]
    · rw [if_pos (by omega), if_pos h2, h3])
  rw [ib_length] at this
  refine this.mono ?_
  rintro e w' ⟨v, rfl, hv, hB⟩
  obtain ⟨A2, c2, rfl, _, _⟩ := row_new (l := []) hv (n := 0) rfl
  exact ⟨A2, c2, rfl, hB⟩
set_option maxHeartbeats 4000000 in
set_option maxRecDepth 100000 in
theorem cover_bad (g : Nat) (A : Option Addr) (Lb c : Nat) (b : List B) (hb : b.length = Lb) (hc : Lb ≤ c) (h16 : Lb ≠ 16) (A1 : Option Addr) (L c1 : Nat) (w : World) (h : Kd.C (Kd.int .u8) w A Lb (ib b)) : Calls Try.prog 51 #[.pointer (some ⟨g, 0, none⟩), .slice A Lb c, .slice A1 L c1] w fun e w' => e = .returned (.tuple #[.slice none 0 0, .int .i64 5]) ∧ Below w.heap.size w w' := by
  have CS := Aside0.mk (stream_bad g A Lb c (L : Int) 5 b hb hc (by rw [if_neg (by omega)]) (by decide) w h)
  clear h hb hc h16
  go_enter Try.func51, Try.ntmps51
  go_wp2_with (first
    | (go_at_call 50; go_loud ((with_reducible refine CS.out.mono ?_); rintro e w1 ⟨rfl, hb⟩; have HB := Aside0.mk hb; clear hb)))
  go_ret2
  exact ⟨rfl, HB.out⟩
set_option maxHeartbeats 4000000 in
set_option maxRecDepth 100000 in
theorem trt_skip (L0 L : Nat) (n r : Int) (hr : roundsI (L0 : Int) = r) (h : r = 0 ∨ (r ≠ 0 ∧ 2000 < L) ∨ (r ≠ 0 ∧ L ≤ 2000 ∧ 2000 < n ∧ n ≤ 65536)) (A0 A1 A2 : Option Addr) (c0 Lb c1 c2 : Nat) (w : World) : Calls Try.prog 9 #[.slice A0 L0 c0, .slice A1 Lb c1, .slice A2 L c2, .int .i64 n] w fun e w' => e = .returned (.bool true) ∧ Below w.heap.size w w' := by
  have CR := Aside0.mk (rrounds_c (L0 : Int) r hr)
  have CA := Aside0.mk (fun W => tawake_c W)
  clear hr
  rcases h with h | ⟨h1, h2⟩ | ⟨h1, h2, h3, h4⟩
  case' inl =>
    subst h
  case' inr.inl =>
    have t1 : (r == 0) = false := by rw [beq_eq_false_iff_ne]; exact h1
    have t2 : (2000 : Int) < (L : Int) := by omega
    have H1 := Aside0.mk h1
    clear h1 h2
  case' inr.inr =>
    have t1 : (r == 0) = false := by rw [beq_eq_false_iff_ne]; exact h1
    have t2 : ¬ (2000 : Int) < (L : Int) := by omega
    have H1 := Aside0.mk h1
    clear h1 h2
  all_goals
    go_enter Try.func9, Try.ntmps9
    go_wp2_with (first
      | (go_at_call 15; go_loud ((with_reducible refine (CR.out.q _).mono ?_); rintro e w1 ⟨rfl, hb⟩; have HB := Aside0.mk hb; clear hb))
      | (go_at_call 49; go_loud ((with_reducible refine (CA.out _).mono ?_); rintro e w2 ⟨rfl, hb⟩; have HB := Aside0.mk (below_step HB.out hb); clear hb)))
    go_ret
    exact ⟨rfl, HB.out⟩
set_option maxHeartbeats 4000000 in
set_option maxRecDepth 100000 in
theorem trt_A (key b m : List B) (L0 Lb L : Nat) (h0 : key.length = L0) (hr : roundsN key.length ≠ 0) (hm : L ≤ 2000) (A0 A1 A2 : Option Addr) (c0 c1 c2 : Nat) (hc0 : L0 ≤ c0) (hc1 : Lb ≤ c1) (hc2 : L ≤ c2) (hb16 : Lb ≠ 16) (n : Int) (hn : n ≤ 2000 ∨ 65536 < n) (w : World) (hC0 : Kd.C (Kd.int .u8) w A0 L0 (ib key)) (hC1 : Kd.C (Kd.int .u8) w A1 Lb (ib b)) (hC2 : Kd.C (Kd.int .u8) w A2 L (ib m)) : Calls Try.prog 9 #[.slice A0 L0 c0, .slice A1 Lb c1, .slice A2 L c2, .int .i64 n] w fun e w' => e = .returned (.bool true) ∧ Below w.heap.size w w' := by
  obtain ⟨nr, K⟩ := kn_of key hr
  have hlm : m.length = L := by have := hC2.1; rwa [ib_length] at this
  have hlb : b.length = Lb := by have := hC1.1; rwa [ib_length] at this
  obtain ⟨ri, hri⟩ : ∃ z, z = roundsI (L0 : Int) := ⟨_, rfl⟩
  have CR := Aside0.mk (rrounds_c (L0 : Int) ri hri.symm)
  have CA := Aside0.mk (fun W => tawake_c W)
  have hri0 : ri ≠ 0 := by rw [hri, roundsI_nat, ← h0]; intro h; exact hr (by omega)
  have t1 : (ri == 0) = false := by rw [beq_eq_false_iff_ne]; exact hri0
  have t2 : ¬ (2000 : Int) < (L : Int) := by omega
  have CN := Aside0.mk (fun W h => new_n key hr L0 h0 A0 c0 hc0 W h)
  have HCK : (if (Lb : Int) = 16 then (if n < 0 then (1 : Int) else if n > 65536 then 1 else 0) else 5) = 5 := by rw [if_neg (by omega)]
  have HCK2 : (if (Lb : Int) = 16 then (if (L : Int) < 0 then (1 : Int) else if (L : Int) > 65536 then 1 else 0) else 5) = 5 := by rw [if_neg (by omega)]
  have CST := Aside0.mk (fun g W h => stream_bad g A1 Lb c1 n 5 b hlb hc1 HCK (by decide) W h)
  have CCV := Aside0.mk (fun g W h => cover_bad g A1 Lb c1 b hlb hc1 hb16 A2 L c2 W h)
  have CAT := Aside0.mk (fun W h => at_bad A1 Lb c1 n 5 b hlb hc1 (.inl ⟨hb16, rfl⟩) W h)
  have CK1 := Aside0.mk (fun W h => rcheck_c A1 Lb c1 n 5 b hlb hc1 HCK W h)
  have CK2 := Aside0.mk (fun W h => rcheck_c A1 Lb c1 (L : Int) 5 b hlb hc1 HCK2 W h)
  have t5 : ((Lb : Int) != 16) = true := by rw [bne_iff_ne]; omega
  clear HCK HCK2
  have HCS := Aside0.mk (And.intro hc0 (And.intro hc1 hc2))
  have OK := Aside0.mk (OR.of_C hC0)
  have OG := Aside0.mk (OR.of_C hC1)
  have OM := Aside0.mk (OR.of_C hC2)
  have t3 : (¬ (2000 : Int) < n) ∨ ((2000 : Int) < n ∧ ¬ n ≤ 65536) := by omega
  clear hlm hlb hri hri0 hC0 hC1 hC2 hc0 hc1 hc2 K hr h0 hm hn hb16
  rcases t3 with t3 | ⟨t3, t4⟩
  all_goals
    go_enter Try.func9, Try.ntmps9
    go_upto_region 6 with (first
      | (go_at_call 15; go_loud ((with_reducible refine (CR.out.q _).mono ?_); rintro e w1 ⟨rfl, hb⟩; (try have OK := Aside0.mk (OK.out.below hb)); (try have OG := Aside0.mk (OG.out.below hb)); (try have OM := Aside0.mk (OM.out.below hb)); (try have OS := Aside0.mk (OS.out.below hb)); (try have OC := Aside0.mk (OC.out.below hb)); (try have OAT := Aside0.mk (OAT.out.below hb)); (try have ORS := Aside0.mk (ORS.out.below hb)); (try have OX := Aside0.mk (OX.out.below hb)); (try have OL := Aside0.mk (OL.out.below hb)); have HB := Aside0.mk hb; clear hb))
      | (go_at_call 30; go_loud ((with_reducible refine (CN.out _ OK.out.C).mono ?_); rintro e w2 ⟨g, bx, rfl, hx, hbx, hb⟩; have HX := Aside0.mk hx; have HBX := Aside0.mk (show w.heap.size ≤ bx from Nat.le_trans HB.out.size hbx); have OK := Aside0.mk ((OK.out.below hb).on HBX.out); have OG := Aside0.mk ((OG.out.below hb).on HBX.out); have OM := Aside0.mk ((OM.out.below hb).on HBX.out); have HB := Aside0.mk (below_step HB.out hb); have HC := Aside0.mk (Ch.refl (g := bx) w2); clear hx hbx hb)))
    clear t1 t2 CR CN
    go_upto_region 11 with (first
      | (go_at_call 50; go_loud ((with_reducible refine (CST.out _ _ OG.out.C).mono ?_); rintro e w3 ⟨rfl, hb⟩; (try have OK := Aside0.mk (OK.out.below hb)); (try have OG := Aside0.mk (OG.out.below hb)); (try have OM := Aside0.mk (OM.out.below hb)); (try have OS := Aside0.mk (OS.out.below hb)); (try have OC := Aside0.mk (OC.out.below hb)); (try have OAT := Aside0.mk (OAT.out.below hb)); (try have ORS := Aside0.mk (ORS.out.below hb)); (try have OX := Aside0.mk (OX.out.below hb)); (try have OL := Aside0.mk (OL.out.below hb)); have HX := Aside0.mk (HX.out.below hb); have HC := Aside0.mk (Ch.step HC.out hb); clear hb))
      | (go_at_call 51; go_loud ((with_reducible refine (CCV.out _ _ OG.out.C).mono ?_); rintro e w4 ⟨rfl, hb⟩; (try have OK := Aside0.mk (OK.out.below hb)); (try have OG := Aside0.mk (OG.out.below hb)); (try have OM := Aside0.mk (OM.out.below hb)); (try have OS := Aside0.mk (OS.out.below hb)); (try have OC := Aside0.mk (OC.out.below hb)); (try have OAT := Aside0.mk (OAT.out.below hb)); (try have ORS := Aside0.mk (ORS.out.below hb)); (try have OX := Aside0.mk (OX.out.below hb)); (try have OL := Aside0.mk (OL.out.below hb)); have HX := Aside0.mk (HX.out.below hb); have HC := Aside0.mk (Ch.step HC.out hb); clear hb))
      | (go_at_call 52; go_loud ((with_reducible refine (CAT.out _ OG.out.C).mono ?_); rintro e w5 ⟨A5, c5, rfl, hb⟩; (try have OK := Aside0.mk (OK.out.below hb)); (try have OG := Aside0.mk (OG.out.below hb)); (try have OM := Aside0.mk (OM.out.below hb)); (try have OS := Aside0.mk (OS.out.below hb)); (try have OC := Aside0.mk (OC.out.below hb)); (try have OAT := Aside0.mk (OAT.out.below hb)); (try have ORS := Aside0.mk (ORS.out.below hb)); (try have OX := Aside0.mk (OX.out.below hb)); (try have OL := Aside0.mk (OL.out.below hb)); have HX := Aside0.mk (HX.out.below hb); have HC := Aside0.mk (Ch.step HC.out hb); clear hb))
      | (go_at_call 53; (try (refine gate_guard (by rfl) ?_; dsimp only)); go_loud ((with_reducible refine (CK1.out _ OG.out.C).mono ?_); rintro e w6 ⟨rfl, hb⟩; (try have OK := Aside0.mk (OK.out.below hb)); (try have OG := Aside0.mk (OG.out.below hb)); (try have OM := Aside0.mk (OM.out.below hb)); (try have OS := Aside0.mk (OS.out.below hb)); (try have OC := Aside0.mk (OC.out.below hb)); (try have OAT := Aside0.mk (OAT.out.below hb)); (try have ORS := Aside0.mk (ORS.out.below hb)); (try have OX := Aside0.mk (OX.out.below hb)); (try have OL := Aside0.mk (OL.out.below hb)); have HX := Aside0.mk (HX.out.below hb); have HC := Aside0.mk (Ch.step HC.out hb); clear hb CK1))
      | (go_at_call 53; (try (refine gate_guard (by rfl) ?_; dsimp only)); go_loud ((with_reducible refine (CK2.out _ OG.out.C).mono ?_); rintro e w7 ⟨rfl, hb⟩; (try have OK := Aside0.mk (OK.out.below hb)); (try have OG := Aside0.mk (OG.out.below hb)); (try have OM := Aside0.mk (OM.out.below hb)); (try have OS := Aside0.mk (OS.out.below hb)); (try have OC := Aside0.mk (OC.out.below hb)); (try have OAT := Aside0.mk (OAT.out.below hb)); (try have ORS := Aside0.mk (ORS.out.below hb)); (try have OX := Aside0.mk (OX.out.below hb)); (try have OL := Aside0.mk (OL.out.below hb)); have HX := Aside0.mk (HX.out.below hb); have HC := Aside0.mk (Ch.step HC.out hb); clear hb CK2)))
    clear CST CCV CAT
    go_wp2_with (first
      | (go_at_call 49; (try (refine gate_guard (by rfl) ?_; dsimp only)); go_loud ((with_reducible refine (CA.out _).mono ?_); rintro e wA ⟨rfl, hb⟩; (try have OK := Aside0.mk (OK.out.below hb)); (try have OG := Aside0.mk (OG.out.below hb)); (try have OM := Aside0.mk (OM.out.below hb)); (try have OS := Aside0.mk (OS.out.below hb)); (try have OC := Aside0.mk (OC.out.below hb)); (try have OAT := Aside0.mk (OAT.out.below hb)); (try have ORS := Aside0.mk (ORS.out.below hb)); (try have OX := Aside0.mk (OX.out.below hb)); (try have OL := Aside0.mk (OL.out.below hb)); have HX := Aside0.mk (HX.out.below hb); have HC := Aside0.mk (Ch.step HC.out hb); clear hb)))
    go_ret
    exact ⟨rfl, HC.out.below HB.out HB.out.size HBX.out⟩
set_option maxHeartbeats 4000000 in
set_option maxRecDepth 100000 in
theorem trt_B (key b m : List B) (L0 L : Nat) (h0 : key.length = L0) (hr : roundsN key.length ≠ 0) (hm : L ≤ 2000) (A0 A1 A2 : Option Addr) (c0 c1 c2 : Nat) (hc0 : L0 ≤ c0) (hc1 : 16 ≤ c1) (hc2 : L ≤ c2) (n : Int) (hn : n < 0) (w : World) (hC0 : Kd.C (Kd.int .u8) w A0 L0 (ib key)) (hC1 : Kd.C (Kd.int .u8) w A1 16 (ib b)) (hC2 : Kd.C (Kd.int .u8) w A2 L (ib m)) : Calls Try.prog 9 #[.slice A0 L0 c0, .slice A1 16 c1, .slice A2 L c2, .int .i64 n] w fun e w' => e = .returned (.bool true) ∧ Below w.heap.size w w' := by
  obtain ⟨nr, K⟩ := kn_of key hr
  have hlm : m.length = L := by have := hC2.1; rwa [ib_length] at this
  have hlb : b.length = 16 := by have := hC1.1; rwa [ib_length] at this
  obtain ⟨ri, hri⟩ : ∃ z, z = roundsI (L0 : Int) := ⟨_, rfl⟩
  have CR := Aside0.mk (rrounds_c (L0 : Int) ri hri.symm)
  have CA := Aside0.mk (fun W => tawake_c W)
  have hri0 : ri ≠ 0 := by rw [hri, roundsI_nat, ← h0]; intro h; exact hr (by omega)
  have t1 : (ri == 0) = false := by rw [beq_eq_false_iff_ne]; exact hri0
  have t2 : ¬ (2000 : Int) < (L : Int) := by omega
  have CN := Aside0.mk (fun W h => new_n key hr L0 h0 A0 c0 hc0 W h)
  have h16 : ((16 : Nat) : Int) = 16 := rfl
  have HCK : (if ((16 : Nat) : Int) = 16 then (if n < 0 then (1 : Int) else if n > 65536 then 1 else 0) else 5) = 1 := by rw [if_pos h16, if_pos hn]
  have HCK2 : (if ((16 : Nat) : Int) = 16 then (if (L : Int) < 0 then (1 : Int) else if (L : Int) > 65536 then 1 else 0) else 5) = 0 := by rw [if_pos h16, if_neg (by omega), if_neg (by omega)]
  obtain ⟨ad, rfl⟩ : ∃ ad, A1 = some ad := by
    obtain ⟨ad, h, _⟩ := hC1.2.2 (by decide)
    exact ⟨ad, h⟩
  have CCV := Aside0.mk (fun g bx W hF hM hX => cover_c g bx (roundKeys key) nr K b hlb ad c1 hc1 m L (Nat.le_trans hm (by decide)) A2 c2 hc2 W hF hM hX)
  have CK1 := Aside0.mk (fun W h => rcheck_c (some ad) 16 c1 n 1 b hlb hc1 HCK W h)
  have CK2 := Aside0.mk (fun W h => rcheck_c (some ad) 16 c1 (L : Int) 0 b hlb hc1 HCK2 W h)
  have RST := Aside0.mk (fun W h1 h2 => rstream_c key L0 h0 hr nr K A0 c0 hc0 b hlb (some ad) c1 L (Nat.le_trans hm (by decide)) W h1 h2)
  have hE : ∀ y, (encB (roundKeys key) nr y).length = 16 := fun y => encB_length (roundKeys key) nr y
  have hsl := streamB_length (encB (roundKeys key) nr) b hE L
  have CX := Aside0.mk (fun A c hc W h1 h2 => rxor_c m (streamB (encB (roundKeys key) nr) b L) L L L hlm hsl (by rw [zipX_length, hsl, hlm]; exact Nat.min_self L) (Nat.le_trans hm (by decide)) A2 A c2 c hc2 hc W h1 h2)
  have HXS := Aside0.mk (show decide (zipX (streamB (encB (roundKeys key) nr) b L) m = zipX m (streamB (encB (roundKeys key) nr) b L)) = true from decide_eq_true (zipX_comm _ _))
  have CST := Aside0.mk (fun g W h => stream_bad g (some ad) 16 c1 n 1 b hlb hc1 HCK (by decide) W h)
  generalize streamB (encB (roundKeys key) nr) b L = sL at *
  obtain ⟨xa, hxa⟩ : ∃ z, z = zipX sL m := ⟨_, rfl⟩
  obtain ⟨xb, hxb⟩ : ∃ z, z = zipX m sL := ⟨_, rfl⟩
  rw [← hxa] at CCV HXS
  rw [← hxb] at CX HXS
  have SX := Aside0.mk (fun A1 A2 c1 c2 (h1 : L ≤ c1) (h2 : L ≤ c2) W hc1 hc2 => rsame_c xa xb true HXS.out L L A1 A2 c1 c2 h1 h2 W hc1 hc2)
  clear hxa hxb HXS hsl hE h16 HCK HCK2
  have CAT := Aside0.mk (fun W h => at_bad (some ad) 16 c1 n 1 b hlb hc1 (.inr ⟨rfl, hn, rfl⟩) W h)
  have HCS := Aside0.mk (And.intro hc0 (And.intro hc1 hc2))
  have OK := Aside0.mk (OR.of_C hC0)
  have OG := Aside0.mk (OR.of_C hC1)
  have OM := Aside0.mk (OR.of_C hC2)
  have t3 : ¬ (2000 : Int) < n := by omega
  have u1 := Aside0.mk hn
  clear hlm hlb hri hri0 hC0 hC1 hC2 hc0 hc1 hc2 K hr h0 hm hn
  go_enter Try.func9, Try.ntmps9
  go_upto_region 6 with (first
    | (go_at_call 15; go_loud ((with_reducible refine (CR.out.q _).mono ?_); rintro e w1 ⟨rfl, hb⟩; (try have OK := Aside0.mk (OK.out.below hb)); (try have OG := Aside0.mk (OG.out.below hb)); (try have OM := Aside0.mk (OM.out.below hb)); (try have OS := Aside0.mk (OS.out.below hb)); (try have OC := Aside0.mk (OC.out.below hb)); (try have OAT := Aside0.mk (OAT.out.below hb)); (try have ORS := Aside0.mk (ORS.out.below hb)); (try have OX := Aside0.mk (OX.out.below hb)); (try have OL := Aside0.mk (OL.out.below hb)); have HB := Aside0.mk hb; clear hb))
    | (go_at_call 30; go_loud ((with_reducible refine (CN.out _ OK.out.C).mono ?_); rintro e w2 ⟨g, bx, rfl, hx, hbx, hb⟩; have HX := Aside0.mk hx; have HBX := Aside0.mk (show w.heap.size ≤ bx from Nat.le_trans HB.out.size hbx); have OK := Aside0.mk ((OK.out.below hb).on HBX.out); have OG := Aside0.mk ((OG.out.below hb).on HBX.out); have OM := Aside0.mk ((OM.out.below hb).on HBX.out); have HB := Aside0.mk (below_step HB.out hb); have HC := Aside0.mk (Ch.refl (g := bx) w2); clear hx hbx hb)))
  clear t1 t2 CR CN
  clear t3
  go_upto_region 11 with (first
    | (go_at_call 50; go_loud ((with_reducible refine (CST.out _ _ OG.out.C).mono ?_); rintro e w3 ⟨rfl, hb⟩; (try have OK := Aside0.mk (OK.out.below hb)); (try have OG := Aside0.mk (OG.out.below hb)); (try have OM := Aside0.mk (OM.out.below hb)); (try have OS := Aside0.mk (OS.out.below hb)); (try have OC := Aside0.mk (OC.out.below hb)); (try have OAT := Aside0.mk (OAT.out.below hb)); (try have ORS := Aside0.mk (ORS.out.below hb)); (try have OX := Aside0.mk (OX.out.below hb)); (try have OL := Aside0.mk (OL.out.below hb)); have HX := Aside0.mk (HX.out.below hb); have HC := Aside0.mk (Ch.step HC.out hb); clear hb))
    | (go_at_call 51; go_loud ((with_reducible refine (CCV.out _ _ _ OG.out OM.out HX.out).mono ?_); rintro e w4 ⟨A4, c4, rfl, hc4, hnr, hx, hc⟩; have hs_ := HX.out.bound.2.2.2;  (try have OK := Aside0.mk (OK.out.ch hc)); (try have OG := Aside0.mk (OG.out.ch hc)); (try have OM := Aside0.mk (OM.out.ch hc)); (try have OS := Aside0.mk (OS.out.ch hc)); (try have OC := Aside0.mk (OC.out.ch hc)); (try have OAT := Aside0.mk (OAT.out.ch hc)); (try have ORS := Aside0.mk (ORS.out.ch hc)); (try have OX := Aside0.mk (OX.out.ch hc)); (try have OL := Aside0.mk (OL.out.ch hc)); have HX := Aside0.mk hx; have HC := Aside0.mk (HC.out.trans hc); have OC := Aside0.mk (hnr.on hs_); have HC4 := Aside0.mk hc4; clear hnr hx hc hs_ hc4))
    | (go_at_call 52; go_loud ((with_reducible refine (CAT.out _ OG.out.C).mono ?_); rintro e w5 ⟨A5, c5, rfl, hb⟩; (try have OK := Aside0.mk (OK.out.below hb)); (try have OG := Aside0.mk (OG.out.below hb)); (try have OM := Aside0.mk (OM.out.below hb)); (try have OS := Aside0.mk (OS.out.below hb)); (try have OC := Aside0.mk (OC.out.below hb)); (try have OAT := Aside0.mk (OAT.out.below hb)); (try have ORS := Aside0.mk (ORS.out.below hb)); (try have OX := Aside0.mk (OX.out.below hb)); (try have OL := Aside0.mk (OL.out.below hb)); have HX := Aside0.mk (HX.out.below hb); have HC := Aside0.mk (Ch.step HC.out hb); clear hb))
    | (go_at_call 53; (try (refine gate_guard (by rfl) ?_; dsimp only)); go_loud ((with_reducible refine (CK1.out _ OG.out.C).mono ?_); rintro e w6 ⟨rfl, hb⟩; (try have OK := Aside0.mk (OK.out.below hb)); (try have OG := Aside0.mk (OG.out.below hb)); (try have OM := Aside0.mk (OM.out.below hb)); (try have OS := Aside0.mk (OS.out.below hb)); (try have OC := Aside0.mk (OC.out.below hb)); (try have OAT := Aside0.mk (OAT.out.below hb)); (try have ORS := Aside0.mk (ORS.out.below hb)); (try have OX := Aside0.mk (OX.out.below hb)); (try have OL := Aside0.mk (OL.out.below hb)); have HX := Aside0.mk (HX.out.below hb); have HC := Aside0.mk (Ch.step HC.out hb); clear hb CK1))
    | (go_at_call 53; (try (refine gate_guard (by rfl) ?_; dsimp only)); go_loud ((with_reducible refine (CK2.out _ OG.out.C).mono ?_); rintro e w7 ⟨rfl, hb⟩; (try have OK := Aside0.mk (OK.out.below hb)); (try have OG := Aside0.mk (OG.out.below hb)); (try have OM := Aside0.mk (OM.out.below hb)); (try have OS := Aside0.mk (OS.out.below hb)); (try have OC := Aside0.mk (OC.out.below hb)); (try have OAT := Aside0.mk (OAT.out.below hb)); (try have ORS := Aside0.mk (ORS.out.below hb)); (try have OX := Aside0.mk (OX.out.below hb)); (try have OL := Aside0.mk (OL.out.below hb)); have HX := Aside0.mk (HX.out.below hb); have HC := Aside0.mk (Ch.step HC.out hb); clear hb CK2)))
  clear CST CCV CAT
  have u1 := u1.out
  go_upto_region 15 with (first
    | (go_at_call 54; go_loud ((with_reducible refine (RST.out _ OK.out.C OG.out.C).mono ?_); rintro e w8 ⟨A8, c8, rfl, hc8, hnr, hb⟩; have hs_ := HX.out.bound.2.2.2;  (try have OK := Aside0.mk (OK.out.below hb)); (try have OG := Aside0.mk (OG.out.below hb)); (try have OM := Aside0.mk (OM.out.below hb)); (try have OS := Aside0.mk (OS.out.below hb)); (try have OC := Aside0.mk (OC.out.below hb)); (try have OAT := Aside0.mk (OAT.out.below hb)); (try have ORS := Aside0.mk (ORS.out.below hb)); (try have OX := Aside0.mk (OX.out.below hb)); (try have OL := Aside0.mk (OL.out.below hb)); have HX := Aside0.mk (HX.out.below hb); have HC := Aside0.mk (Ch.step HC.out hb); have ORS := Aside0.mk (hnr.on hs_); have HC8 := Aside0.mk hc8; clear hnr hb hs_ hc8))
    | (go_at_call 39; go_loud ((with_reducible refine (CX.out _ _ HC8.out _ OM.out.C ORS.out.C).mono ?_); rintro e w9 ⟨A9, c9, rfl, hc9, hnr, hb⟩; have hs_ := HX.out.bound.2.2.2;  (try have OK := Aside0.mk (OK.out.below hb)); (try have OG := Aside0.mk (OG.out.below hb)); (try have OM := Aside0.mk (OM.out.below hb)); (try have OS := Aside0.mk (OS.out.below hb)); (try have OC := Aside0.mk (OC.out.below hb)); (try have OAT := Aside0.mk (OAT.out.below hb)); (try have ORS := Aside0.mk (ORS.out.below hb)); (try have OX := Aside0.mk (OX.out.below hb)); (try have OL := Aside0.mk (OL.out.below hb)); have HX := Aside0.mk (HX.out.below hb); have HC := Aside0.mk (Ch.step HC.out hb); have OX := Aside0.mk (hnr.on hs_); have HC9 := Aside0.mk hc9; clear hnr hb hs_ hc9))
    | (go_at_call 41; go_loud ((with_reducible refine (SX.out _ _ _ _ HC4.out HC9.out _ OC.out.C OX.out.C).mono ?_); rintro e w10 ⟨rfl, hb⟩; (try have OK := Aside0.mk (OK.out.below hb)); (try have OG := Aside0.mk (OG.out.below hb)); (try have OM := Aside0.mk (OM.out.below hb)); (try have OS := Aside0.mk (OS.out.below hb)); (try have OC := Aside0.mk (OC.out.below hb)); (try have OAT := Aside0.mk (OAT.out.below hb)); (try have ORS := Aside0.mk (ORS.out.below hb)); (try have OX := Aside0.mk (OX.out.below hb)); (try have OL := Aside0.mk (OL.out.below hb)); have HX := Aside0.mk (HX.out.below hb); have HC := Aside0.mk (Ch.step HC.out hb); clear hb)))
  clear RST CX SX OC OX ORS HC4 HC8 HC9
  go_wp2_with (first
    | (go_at_call 49; (try (refine gate_guard (by rfl) ?_; dsimp only)); go_loud ((with_reducible refine (CA.out _).mono ?_); rintro e wA ⟨rfl, hb⟩; (try have OK := Aside0.mk (OK.out.below hb)); (try have OG := Aside0.mk (OG.out.below hb)); (try have OM := Aside0.mk (OM.out.below hb)); (try have OS := Aside0.mk (OS.out.below hb)); (try have OC := Aside0.mk (OC.out.below hb)); (try have OAT := Aside0.mk (OAT.out.below hb)); (try have ORS := Aside0.mk (ORS.out.below hb)); (try have OX := Aside0.mk (OX.out.below hb)); (try have OL := Aside0.mk (OL.out.below hb)); have HX := Aside0.mk (HX.out.below hb); have HC := Aside0.mk (Ch.step HC.out hb); clear hb)))
  go_ret
  exact ⟨rfl, HC.out.below HB.out HB.out.size HBX.out⟩
set_option maxHeartbeats 4000000 in
set_option maxRecDepth 100000 in
theorem trt_C (key b m : List B) (L0 L : Nat) (h0 : key.length = L0) (hr : roundsN key.length ≠ 0) (hm : L ≤ 2000) (A0 A1 A2 : Option Addr) (c0 c1 c2 : Nat) (hc0 : L0 ≤ c0) (hc1 : 16 ≤ c1) (hc2 : L ≤ c2) (k : Nat) (hn : k ≤ 2000) (w : World) (hC0 : Kd.C (Kd.int .u8) w A0 L0 (ib key)) (hC1 : Kd.C (Kd.int .u8) w A1 16 (ib b)) (hC2 : Kd.C (Kd.int .u8) w A2 L (ib m)) : Calls Try.prog 9 #[.slice A0 L0 c0, .slice A1 16 c1, .slice A2 L c2, .int .i64 (k : Int)] w fun e w' => e = .returned (.bool true) ∧ Below w.heap.size w w' := by
  obtain ⟨nr, K⟩ := kn_of key hr
  have hlm : m.length = L := by have := hC2.1; rwa [ib_length] at this
  have hlb : b.length = 16 := by have := hC1.1; rwa [ib_length] at this
  obtain ⟨ri, hri⟩ : ∃ z, z = roundsI (L0 : Int) := ⟨_, rfl⟩
  have CR := Aside0.mk (rrounds_c (L0 : Int) ri hri.symm)
  have CA := Aside0.mk (fun W => tawake_c W)
  have hri0 : ri ≠ 0 := by rw [hri, roundsI_nat, ← h0]; intro h; exact hr (by omega)
  have t1 : (ri == 0) = false := by rw [beq_eq_false_iff_ne]; exact hri0
  have t2 : ¬ (2000 : Int) < (L : Int) := by omega
  have CN := Aside0.mk (fun W h => new_n key hr L0 h0 A0 c0 hc0 W h)
  have h16 : ((16 : Nat) : Int) = 16 := rfl
  have HCK : (if ((16 : Nat) : Int) = 16 then (if (k : Int) < 0 then (1 : Int) else if (k : Int) > 65536 then 1 else 0) else 5) = 0 := by rw [if_pos h16, if_neg (by omega), if_neg (by omega)]
  have HCK2 : (if ((16 : Nat) : Int) = 16 then (if (L : Int) < 0 then (1 : Int) else if (L : Int) > 65536 then 1 else 0) else 5) = 0 := by rw [if_pos h16, if_neg (by omega), if_neg (by omega)]
  obtain ⟨ad, rfl⟩ : ∃ ad, A1 = some ad := by
    obtain ⟨ad, h, _⟩ := hC1.2.2 (by decide)
    exact ⟨ad, h⟩
  have CCV := Aside0.mk (fun g bx W hF hM hX => cover_c g bx (roundKeys key) nr K b hlb ad c1 hc1 m L (Nat.le_trans hm (by decide)) A2 c2 hc2 W hF hM hX)
  have CK1 := Aside0.mk (fun W h => rcheck_c (some ad) 16 c1 (k : Int) 0 b hlb hc1 HCK W h)
  have CK2 := Aside0.mk (fun W h => rcheck_c (some ad) 16 c1 (L : Int) 0 b hlb hc1 HCK2 W h)
  have RST := Aside0.mk (fun W h1 h2 => rstream_c key L0 h0 hr nr K A0 c0 hc0 b hlb (some ad) c1 L (Nat.le_trans hm (by decide)) W h1 h2)
  have hE : ∀ y, (encB (roundKeys key) nr y).length = 16 := fun y => encB_length (roundKeys key) nr y
  have hsl := streamB_length (encB (roundKeys key) nr) b hE L
  have CX := Aside0.mk (fun A c hc W h1 h2 => rxor_c m (streamB (encB (roundKeys key) nr) b L) L L L hlm hsl (by rw [zipX_length, hsl, hlm]; exact Nat.min_self L) (Nat.le_trans hm (by decide)) A2 A c2 c hc2 hc W h1 h2)
  have HXS := Aside0.mk (show decide (zipX (streamB (encB (roundKeys key) nr) b L) m = zipX m (streamB (encB (roundKeys key) nr) b L)) = true from decide_eq_true (zipX_comm _ _))
  have CST := Aside0.mk (fun g bx W hF hX => stream_c g bx (roundKeys key) nr K b hlb ad c1 hc1 k (Nat.le_trans hn (by decide)) W hF hX)
  have RS2 := Aside0.mk (fun W h1 h2 => rstream_c key L0 h0 hr nr K A0 c0 hc0 b hlb (some ad) c1 k (Nat.le_trans hn (by decide)) W h1 h2)
  generalize streamB (encB (roundKeys key) nr) b k = sk at *
  have SSK := Aside0.mk (fun A1 A2 c1 c2 (h1 : k ≤ c1) (h2 : k ≤ c2) W hc1 hc2 => rsame_c sk sk true (decide_eq_true rfl) k k A1 A2 c1 c2 h1 h2 W hc1 hc2)
  generalize streamB (encB (roundKeys key) nr) b L = sL at *
  obtain ⟨xa, hxa⟩ : ∃ z, z = zipX sL m := ⟨_, rfl⟩
  obtain ⟨xb, hxb⟩ : ∃ z, z = zipX m sL := ⟨_, rfl⟩
  rw [← hxa] at CCV HXS
  rw [← hxb] at CX HXS
  have SX := Aside0.mk (fun A1 A2 c1 c2 (h1 : L ≤ c1) (h2 : L ≤ c2) W hc1 hc2 => rsame_c xa xb true HXS.out L L A1 A2 c1 c2 h1 h2 W hc1 hc2)
  clear hxa hxb HXS hsl hE h16 HCK HCK2
  have hk63 : k < 9223372036854775808 := Nat.lt_of_le_of_lt hn (by decide)
  have CAT := Aside0.mk (fun W h => at_c b hlb k hk63 (some ad) c1 hc1 W h)
  have RL := Aside0.mk (fun W h => later_c b hlb k hk63 (some ad) c1 hc1 W h)
  obtain ⟨bk, hbk⟩ : ∃ z, z = ctrB b k := ⟨_, rfl⟩
  rw [← hbk] at CAT RL
  have SB := Aside0.mk (fun A1 A2 c1 c2 (h1 : 16 ≤ c1) (h2 : 16 ≤ c2) W hc1 hc2 => rsame_c bk bk true (decide_eq_true rfl) 16 16 A1 A2 c1 c2 h1 h2 W hc1 hc2)
  clear hbk
  have HCS := Aside0.mk (And.intro hc0 (And.intro hc1 hc2))
  have OK := Aside0.mk (OR.of_C hC0)
  have OG := Aside0.mk (OR.of_C hC1)
  have OM := Aside0.mk (OR.of_C hC2)
  have t3 : ¬ (2000 : Int) < (k : Int) := by omega
  have u1 := Aside0.mk (show ¬ (k : Int) < 0 by omega)
  clear hlm hlb hri hri0 hC0 hC1 hC2 hc0 hc1 hc2 K hr h0 hm hn hk63
  go_enter Try.func9, Try.ntmps9
  go_upto_region 6 with (first
    | (go_at_call 15; go_loud ((with_reducible refine (CR.out.q _).mono ?_); rintro e w1 ⟨rfl, hb⟩; (try have OK := Aside0.mk (OK.out.below hb)); (try have OG := Aside0.mk (OG.out.below hb)); (try have OM := Aside0.mk (OM.out.below hb)); (try have OS := Aside0.mk (OS.out.below hb)); (try have OC := Aside0.mk (OC.out.below hb)); (try have OAT := Aside0.mk (OAT.out.below hb)); (try have ORS := Aside0.mk (ORS.out.below hb)); (try have OX := Aside0.mk (OX.out.below hb)); (try have OL := Aside0.mk (OL.out.below hb)); have HB := Aside0.mk hb; clear hb))
    | (go_at_call 30; go_loud ((with_reducible refine (CN.out _ OK.out.C).mono ?_); rintro e w2 ⟨g, bx, rfl, hx, hbx, hb⟩; have HX := Aside0.mk hx; have HBX := Aside0.mk (show w.heap.size ≤ bx from Nat.le_trans HB.out.size hbx); have OK := Aside0.mk ((OK.out.below hb).on HBX.out); have OG := Aside0.mk ((OG.out.below hb).on HBX.out); have OM := Aside0.mk ((OM.out.below hb).on HBX.out); have HB := Aside0.mk (below_step HB.out hb); have HC := Aside0.mk (Ch.refl (g := bx) w2); clear hx hbx hb)))
  clear t1 t2 CR CN
  clear t3
  go_upto_region 11 with (first
    | (go_at_call 50; go_loud ((with_reducible refine (CST.out _ _ _ OG.out HX.out).mono ?_); rintro e w3 ⟨N3, rfl, _, hnr, hx, hc⟩; have hs_ := HX.out.bound.2.2.2;  (try have OK := Aside0.mk (OK.out.ch hc)); (try have OG := Aside0.mk (OG.out.ch hc)); (try have OM := Aside0.mk (OM.out.ch hc)); (try have OS := Aside0.mk (OS.out.ch hc)); (try have OC := Aside0.mk (OC.out.ch hc)); (try have OAT := Aside0.mk (OAT.out.ch hc)); (try have ORS := Aside0.mk (ORS.out.ch hc)); (try have OX := Aside0.mk (OX.out.ch hc)); (try have OL := Aside0.mk (OL.out.ch hc)); have HX := Aside0.mk hx; have HC := Aside0.mk (HC.out.trans hc); have OS := Aside0.mk (hnr.on hs_); clear hnr hx hc hs_))
    | (go_at_call 51; go_loud ((with_reducible refine (CCV.out _ _ _ OG.out OM.out HX.out).mono ?_); rintro e w4 ⟨A4, c4, rfl, hc4, hnr, hx, hc⟩; have hs_ := HX.out.bound.2.2.2;  (try have OK := Aside0.mk (OK.out.ch hc)); (try have OG := Aside0.mk (OG.out.ch hc)); (try have OM := Aside0.mk (OM.out.ch hc)); (try have OS := Aside0.mk (OS.out.ch hc)); (try have OC := Aside0.mk (OC.out.ch hc)); (try have OAT := Aside0.mk (OAT.out.ch hc)); (try have ORS := Aside0.mk (ORS.out.ch hc)); (try have OX := Aside0.mk (OX.out.ch hc)); (try have OL := Aside0.mk (OL.out.ch hc)); have HX := Aside0.mk hx; have HC := Aside0.mk (HC.out.trans hc); have OC := Aside0.mk (hnr.on hs_); have HC4 := Aside0.mk hc4; clear hnr hx hc hs_ hc4))
    | (go_at_call 52; go_loud ((with_reducible refine (CAT.out _ OG.out.C).mono ?_); rintro e w5 ⟨ad5, c5, rfl, hc5, hnr, hb⟩; have hs_ := HX.out.bound.2.2.2;  (try have OK := Aside0.mk (OK.out.below hb)); (try have OG := Aside0.mk (OG.out.below hb)); (try have OM := Aside0.mk (OM.out.below hb)); (try have OS := Aside0.mk (OS.out.below hb)); (try have OC := Aside0.mk (OC.out.below hb)); (try have OAT := Aside0.mk (OAT.out.below hb)); (try have ORS := Aside0.mk (ORS.out.below hb)); (try have OX := Aside0.mk (OX.out.below hb)); (try have OL := Aside0.mk (OL.out.below hb)); have HX := Aside0.mk (HX.out.below hb); have HC := Aside0.mk (Ch.step HC.out hb); have OAT := Aside0.mk (hnr.on hs_); have HC5 := Aside0.mk hc5; clear hnr hb hs_ hc5))
    | (go_at_call 53; (try (refine gate_guard (by rfl) ?_; dsimp only)); go_loud ((with_reducible refine (CK1.out _ OG.out.C).mono ?_); rintro e w6 ⟨rfl, hb⟩; (try have OK := Aside0.mk (OK.out.below hb)); (try have OG := Aside0.mk (OG.out.below hb)); (try have OM := Aside0.mk (OM.out.below hb)); (try have OS := Aside0.mk (OS.out.below hb)); (try have OC := Aside0.mk (OC.out.below hb)); (try have OAT := Aside0.mk (OAT.out.below hb)); (try have ORS := Aside0.mk (ORS.out.below hb)); (try have OX := Aside0.mk (OX.out.below hb)); (try have OL := Aside0.mk (OL.out.below hb)); have HX := Aside0.mk (HX.out.below hb); have HC := Aside0.mk (Ch.step HC.out hb); clear hb CK1))
    | (go_at_call 53; (try (refine gate_guard (by rfl) ?_; dsimp only)); go_loud ((with_reducible refine (CK2.out _ OG.out.C).mono ?_); rintro e w7 ⟨rfl, hb⟩; (try have OK := Aside0.mk (OK.out.below hb)); (try have OG := Aside0.mk (OG.out.below hb)); (try have OM := Aside0.mk (OM.out.below hb)); (try have OS := Aside0.mk (OS.out.below hb)); (try have OC := Aside0.mk (OC.out.below hb)); (try have OAT := Aside0.mk (OAT.out.below hb)); (try have ORS := Aside0.mk (ORS.out.below hb)); (try have OX := Aside0.mk (OX.out.below hb)); (try have OL := Aside0.mk (OL.out.below hb)); have HX := Aside0.mk (HX.out.below hb); have HC := Aside0.mk (Ch.step HC.out hb); clear hb CK2)))
  clear CST CCV CAT
  have u1 := u1.out
  go_upto_region 15 with (first
    | (go_at_call 54; go_loud ((with_reducible refine (RST.out _ OK.out.C OG.out.C).mono ?_); rintro e w8 ⟨A8, c8, rfl, hc8, hnr, hb⟩; have hs_ := HX.out.bound.2.2.2;  (try have OK := Aside0.mk (OK.out.below hb)); (try have OG := Aside0.mk (OG.out.below hb)); (try have OM := Aside0.mk (OM.out.below hb)); (try have OS := Aside0.mk (OS.out.below hb)); (try have OC := Aside0.mk (OC.out.below hb)); (try have OAT := Aside0.mk (OAT.out.below hb)); (try have ORS := Aside0.mk (ORS.out.below hb)); (try have OX := Aside0.mk (OX.out.below hb)); (try have OL := Aside0.mk (OL.out.below hb)); have HX := Aside0.mk (HX.out.below hb); have HC := Aside0.mk (Ch.step HC.out hb); have ORS := Aside0.mk (hnr.on hs_); have HC8 := Aside0.mk hc8; clear hnr hb hs_ hc8))
    | (go_at_call 39; go_loud ((with_reducible refine (CX.out _ _ HC8.out _ OM.out.C ORS.out.C).mono ?_); rintro e w9 ⟨A9, c9, rfl, hc9, hnr, hb⟩; have hs_ := HX.out.bound.2.2.2;  (try have OK := Aside0.mk (OK.out.below hb)); (try have OG := Aside0.mk (OG.out.below hb)); (try have OM := Aside0.mk (OM.out.below hb)); (try have OS := Aside0.mk (OS.out.below hb)); (try have OC := Aside0.mk (OC.out.below hb)); (try have OAT := Aside0.mk (OAT.out.below hb)); (try have ORS := Aside0.mk (ORS.out.below hb)); (try have OX := Aside0.mk (OX.out.below hb)); (try have OL := Aside0.mk (OL.out.below hb)); have HX := Aside0.mk (HX.out.below hb); have HC := Aside0.mk (Ch.step HC.out hb); have OX := Aside0.mk (hnr.on hs_); have HC9 := Aside0.mk hc9; clear hnr hb hs_ hc9))
    | (go_at_call 41; go_loud ((with_reducible refine (SX.out _ _ _ _ HC4.out HC9.out _ OC.out.C OX.out.C).mono ?_); rintro e w10 ⟨rfl, hb⟩; (try have OK := Aside0.mk (OK.out.below hb)); (try have OG := Aside0.mk (OG.out.below hb)); (try have OM := Aside0.mk (OM.out.below hb)); (try have OS := Aside0.mk (OS.out.below hb)); (try have OC := Aside0.mk (OC.out.below hb)); (try have OAT := Aside0.mk (OAT.out.below hb)); (try have ORS := Aside0.mk (ORS.out.below hb)); (try have OX := Aside0.mk (OX.out.below hb)); (try have OL := Aside0.mk (OL.out.below hb)); have HX := Aside0.mk (HX.out.below hb); have HC := Aside0.mk (Ch.step HC.out hb); clear hb)))
  clear RST CX SX OC OX ORS HC4 HC8 HC9
  go_wp2_with (first
    | (go_at_call 54; (try (refine gate_guard (by rfl) ?_; dsimp only)); go_loud ((with_reducible refine (RS2.out _ OK.out.C OG.out.C).mono ?_); rintro e w8 ⟨A8, c8, rfl, hc8, hnr, hb⟩; have hs_ := HX.out.bound.2.2.2;  (try have OK := Aside0.mk (OK.out.below hb)); (try have OG := Aside0.mk (OG.out.below hb)); (try have OM := Aside0.mk (OM.out.below hb)); (try have OS := Aside0.mk (OS.out.below hb)); (try have OC := Aside0.mk (OC.out.below hb)); (try have OAT := Aside0.mk (OAT.out.below hb)); (try have ORS := Aside0.mk (ORS.out.below hb)); (try have OX := Aside0.mk (OX.out.below hb)); (try have OL := Aside0.mk (OL.out.below hb)); have HX := Aside0.mk (HX.out.below hb); have HC := Aside0.mk (Ch.step HC.out hb); have ORS := Aside0.mk (hnr.on hs_); have HC8 := Aside0.mk hc8; clear hnr hb hs_ hc8))
    | (go_at_call 41; (try (refine gate_guard (by rfl) ?_; dsimp only)); go_loud ((with_reducible refine (SSK.out _ _ _ _ (Nat.le_refl _) HC8.out _ OS.out.C ORS.out.C).mono ?_); rintro e w11 ⟨rfl, hb⟩; (try have OK := Aside0.mk (OK.out.below hb)); (try have OG := Aside0.mk (OG.out.below hb)); (try have OM := Aside0.mk (OM.out.below hb)); (try have OS := Aside0.mk (OS.out.below hb)); (try have OC := Aside0.mk (OC.out.below hb)); (try have OAT := Aside0.mk (OAT.out.below hb)); (try have ORS := Aside0.mk (ORS.out.below hb)); (try have OX := Aside0.mk (OX.out.below hb)); (try have OL := Aside0.mk (OL.out.below hb)); have HX := Aside0.mk (HX.out.below hb); have HC := Aside0.mk (Ch.step HC.out hb); clear hb SSK))
    | (go_at_call 55; (try (refine gate_guard (by rfl) ?_; dsimp only)); go_loud ((with_reducible refine (RL.out _ OG.out.C).mono ?_); rintro e w12 ⟨A12, c12, rfl, hc12, hnr, hb⟩; have hs_ := HX.out.bound.2.2.2;  (try have OK := Aside0.mk (OK.out.below hb)); (try have OG := Aside0.mk (OG.out.below hb)); (try have OM := Aside0.mk (OM.out.below hb)); (try have OS := Aside0.mk (OS.out.below hb)); (try have OC := Aside0.mk (OC.out.below hb)); (try have OAT := Aside0.mk (OAT.out.below hb)); (try have ORS := Aside0.mk (ORS.out.below hb)); (try have OX := Aside0.mk (OX.out.below hb)); (try have OL := Aside0.mk (OL.out.below hb)); have HX := Aside0.mk (HX.out.below hb); have HC := Aside0.mk (Ch.step HC.out hb); have OL := Aside0.mk (hnr.on hs_); have HC12 := Aside0.mk hc12; clear hnr hb hs_ hc12))
    | (go_at_call 41; (try (refine gate_guard (by rfl) ?_; dsimp only)); go_loud ((with_reducible refine (SB.out _ _ _ _ HC5.out HC12.out _ OAT.out.C OL.out.C).mono ?_); rintro e w13 ⟨rfl, hb⟩; (try have OK := Aside0.mk (OK.out.below hb)); (try have OG := Aside0.mk (OG.out.below hb)); (try have OM := Aside0.mk (OM.out.below hb)); (try have OS := Aside0.mk (OS.out.below hb)); (try have OC := Aside0.mk (OC.out.below hb)); (try have OAT := Aside0.mk (OAT.out.below hb)); (try have ORS := Aside0.mk (ORS.out.below hb)); (try have OX := Aside0.mk (OX.out.below hb)); (try have OL := Aside0.mk (OL.out.below hb)); have HX := Aside0.mk (HX.out.below hb); have HC := Aside0.mk (Ch.step HC.out hb); clear hb))
    | (go_at_call 49; (try (refine gate_guard (by rfl) ?_; dsimp only)); go_loud ((with_reducible refine (CA.out _).mono ?_); rintro e wA ⟨rfl, hb⟩; (try have OK := Aside0.mk (OK.out.below hb)); (try have OG := Aside0.mk (OG.out.below hb)); (try have OM := Aside0.mk (OM.out.below hb)); (try have OS := Aside0.mk (OS.out.below hb)); (try have OC := Aside0.mk (OC.out.below hb)); (try have OAT := Aside0.mk (OAT.out.below hb)); (try have ORS := Aside0.mk (ORS.out.below hb)); (try have OX := Aside0.mk (OX.out.below hb)); (try have OL := Aside0.mk (OL.out.below hb)); have HX := Aside0.mk (HX.out.below hb); have HC := Aside0.mk (Ch.step HC.out hb); clear hb)))
  go_ret
  exact ⟨rfl, HC.out.below HB.out HB.out.size HBX.out⟩
set_option maxHeartbeats 4000000 in
set_option maxRecDepth 100000 in
theorem trt_D (key b m : List B) (L0 L : Nat) (h0 : key.length = L0) (hr : roundsN key.length ≠ 0) (hm : L ≤ 2000) (A0 A1 A2 : Option Addr) (c0 c1 c2 : Nat) (hc0 : L0 ≤ c0) (hc1 : 16 ≤ c1) (hc2 : L ≤ c2) (k : Nat) (hn : 65536 < k) (hn2 : k < 9223372036854775808) (w : World) (hC0 : Kd.C (Kd.int .u8) w A0 L0 (ib key)) (hC1 : Kd.C (Kd.int .u8) w A1 16 (ib b)) (hC2 : Kd.C (Kd.int .u8) w A2 L (ib m)) : Calls Try.prog 9 #[.slice A0 L0 c0, .slice A1 16 c1, .slice A2 L c2, .int .i64 (k : Int)] w fun e w' => e = .returned (.bool true) ∧ Below w.heap.size w w' := by
  obtain ⟨nr, K⟩ := kn_of key hr
  have hlm : m.length = L := by have := hC2.1; rwa [ib_length] at this
  have hlb : b.length = 16 := by have := hC1.1; rwa [ib_length] at this
  obtain ⟨ri, hri⟩ : ∃ z, z = roundsI (L0 : Int) := ⟨_, rfl⟩
  have CR := Aside0.mk (rrounds_c (L0 : Int) ri hri.symm)
  have CA := Aside0.mk (fun W => tawake_c W)
  have hri0 : ri ≠ 0 := by rw [hri, roundsI_nat, ← h0]; intro h; exact hr (by omega)
  have t1 : (ri == 0) = false := by rw [beq_eq_false_iff_ne]; exact hri0
  have t2 : ¬ (2000 : Int) < (L : Int) := by omega
  have CN := Aside0.mk (fun W h => new_n key hr L0 h0 A0 c0 hc0 W h)
  have h16 : ((16 : Nat) : Int) = 16 := rfl
  have HCK : (if ((16 : Nat) : Int) = 16 then (if (k : Int) < 0 then (1 : Int) else if (k : Int) > 65536 then 1 else 0) else 5) = 1 := by rw [if_pos h16, if_neg (by omega), if_pos (by omega)]
  have HCK2 : (if ((16 : Nat) : Int) = 16 then (if (L : Int) < 0 then (1 : Int) else if (L : Int) > 65536 then 1 else 0) else 5) = 0 := by rw [if_pos h16, if_neg (by omega), if_neg (by omega)]
  obtain ⟨ad, rfl⟩ : ∃ ad, A1 = some ad := by
    obtain ⟨ad, h, _⟩ := hC1.2.2 (by decide)
    exact ⟨ad, h⟩
  have CCV := Aside0.mk (fun g bx W hF hM hX => cover_c g bx (roundKeys key) nr K b hlb ad c1 hc1 m L (Nat.le_trans hm (by decide)) A2 c2 hc2 W hF hM hX)
  have CK1 := Aside0.mk (fun W h => rcheck_c (some ad) 16 c1 (k : Int) 1 b hlb hc1 HCK W h)
  have CK2 := Aside0.mk (fun W h => rcheck_c (some ad) 16 c1 (L : Int) 0 b hlb hc1 HCK2 W h)
  have RST := Aside0.mk (fun W h1 h2 => rstream_c key L0 h0 hr nr K A0 c0 hc0 b hlb (some ad) c1 L (Nat.le_trans hm (by decide)) W h1 h2)
  have hE : ∀ y, (encB (roundKeys key) nr y).length = 16 := fun y => encB_length (roundKeys key) nr y
  have hsl := streamB_length (encB (roundKeys key) nr) b hE L
  have CX := Aside0.mk (fun A c hc W h1 h2 => rxor_c m (streamB (encB (roundKeys key) nr) b L) L L L hlm hsl (by rw [zipX_length, hsl, hlm]; exact Nat.min_self L) (Nat.le_trans hm (by decide)) A2 A c2 c hc2 hc W h1 h2)
  have HXS := Aside0.mk (show decide (zipX (streamB (encB (roundKeys key) nr) b L) m = zipX m (streamB (encB (roundKeys key) nr) b L)) = true from decide_eq_true (zipX_comm _ _))
  have CST := Aside0.mk (fun g W h => stream_bad g (some ad) 16 c1 (k : Int) 1 b hlb hc1 HCK (by decide) W h)
  generalize streamB (encB (roundKeys key) nr) b L = sL at *
  obtain ⟨xa, hxa⟩ : ∃ z, z = zipX sL m := ⟨_, rfl⟩
  obtain ⟨xb, hxb⟩ : ∃ z, z = zipX m sL := ⟨_, rfl⟩
  rw [← hxa] at CCV HXS
  rw [← hxb] at CX HXS
  have SX := Aside0.mk (fun A1 A2 c1 c2 (h1 : L ≤ c1) (h2 : L ≤ c2) W hc1 hc2 => rsame_c xa xb true HXS.out L L A1 A2 c1 c2 h1 h2 W hc1 hc2)
  clear hxa hxb HXS hsl hE h16 HCK HCK2
  have hk63 : k < 9223372036854775808 := hn2
  have CAT := Aside0.mk (fun W h => at_c b hlb k hk63 (some ad) c1 hc1 W h)
  have RL := Aside0.mk (fun W h => later_c b hlb k hk63 (some ad) c1 hc1 W h)
  obtain ⟨bk, hbk⟩ : ∃ z, z = ctrB b k := ⟨_, rfl⟩
  rw [← hbk] at CAT RL
  have SB := Aside0.mk (fun A1 A2 c1 c2 (h1 : 16 ≤ c1) (h2 : 16 ≤ c2) W hc1 hc2 => rsame_c bk bk true (decide_eq_true rfl) 16 16 A1 A2 c1 c2 h1 h2 W hc1 hc2)
  clear hbk
  have HCS := Aside0.mk (And.intro hc0 (And.intro hc1 hc2))
  have OK := Aside0.mk (OR.of_C hC0)
  have OG := Aside0.mk (OR.of_C hC1)
  have OM := Aside0.mk (OR.of_C hC2)
  have t3 : (2000 : Int) < (k : Int) := by omega
  have t4 : ¬ (k : Int) ≤ 65536 := by omega
  have u1 := Aside0.mk (show ¬ (k : Int) < 0 by omega)
  clear hlm hlb hri hri0 hC0 hC1 hC2 hc0 hc1 hc2 K hr h0 hm hn hn2 hk63
  go_enter Try.func9, Try.ntmps9
  go_upto_region 6 with (first
    | (go_at_call 15; go_loud ((with_reducible refine (CR.out.q _).mono ?_); rintro e w1 ⟨rfl, hb⟩; (try have OK := Aside0.mk (OK.out.below hb)); (try have OG := Aside0.mk (OG.out.below hb)); (try have OM := Aside0.mk (OM.out.below hb)); (try have OS := Aside0.mk (OS.out.below hb)); (try have OC := Aside0.mk (OC.out.below hb)); (try have OAT := Aside0.mk (OAT.out.below hb)); (try have ORS := Aside0.mk (ORS.out.below hb)); (try have OX := Aside0.mk (OX.out.below hb)); (try have OL := Aside0.mk (OL.out.below hb)); have HB := Aside0.mk hb; clear hb))
    | (go_at_call 30; go_loud ((with_reducible refine (CN.out _ OK.out.C).mono ?_); rintro e w2 ⟨g, bx, rfl, hx, hbx, hb⟩; have HX := Aside0.mk hx; have HBX := Aside0.mk (show w.heap.size ≤ bx from Nat.le_trans HB.out.size hbx); have OK := Aside0.mk ((OK.out.below hb).on HBX.out); have OG := Aside0.mk ((OG.out.below hb).on HBX.out); have OM := Aside0.mk ((OM.out.below hb).on HBX.out); have HB := Aside0.mk (below_step HB.out hb); have HC := Aside0.mk (Ch.refl (g := bx) w2); clear hx hbx hb)))
  clear t1 t2 CR CN
  clear t3 t4
  go_upto_region 11 with (first
    | (go_at_call 50; go_loud ((with_reducible refine (CST.out _ _ OG.out.C).mono ?_); rintro e w3 ⟨rfl, hb⟩; (try have OK := Aside0.mk (OK.out.below hb)); (try have OG := Aside0.mk (OG.out.below hb)); (try have OM := Aside0.mk (OM.out.below hb)); (try have OS := Aside0.mk (OS.out.below hb)); (try have OC := Aside0.mk (OC.out.below hb)); (try have OAT := Aside0.mk (OAT.out.below hb)); (try have ORS := Aside0.mk (ORS.out.below hb)); (try have OX := Aside0.mk (OX.out.below hb)); (try have OL := Aside0.mk (OL.out.below hb)); have HX := Aside0.mk (HX.out.below hb); have HC := Aside0.mk (Ch.step HC.out hb); clear hb))
    | (go_at_call 51; go_loud ((with_reducible refine (CCV.out _ _ _ OG.out OM.out HX.out).mono ?_); rintro e w4 ⟨A4, c4, rfl, hc4, hnr, hx, hc⟩; have hs_ := HX.out.bound.2.2.2;  (try have OK := Aside0.mk (OK.out.ch hc)); (try have OG := Aside0.mk (OG.out.ch hc)); (try have OM := Aside0.mk (OM.out.ch hc)); (try have OS := Aside0.mk (OS.out.ch hc)); (try have OC := Aside0.mk (OC.out.ch hc)); (try have OAT := Aside0.mk (OAT.out.ch hc)); (try have ORS := Aside0.mk (ORS.out.ch hc)); (try have OX := Aside0.mk (OX.out.ch hc)); (try have OL := Aside0.mk (OL.out.ch hc)); have HX := Aside0.mk hx; have HC := Aside0.mk (HC.out.trans hc); have OC := Aside0.mk (hnr.on hs_); have HC4 := Aside0.mk hc4; clear hnr hx hc hs_ hc4))
    | (go_at_call 52; go_loud ((with_reducible refine (CAT.out _ OG.out.C).mono ?_); rintro e w5 ⟨ad5, c5, rfl, hc5, hnr, hb⟩; have hs_ := HX.out.bound.2.2.2;  (try have OK := Aside0.mk (OK.out.below hb)); (try have OG := Aside0.mk (OG.out.below hb)); (try have OM := Aside0.mk (OM.out.below hb)); (try have OS := Aside0.mk (OS.out.below hb)); (try have OC := Aside0.mk (OC.out.below hb)); (try have OAT := Aside0.mk (OAT.out.below hb)); (try have ORS := Aside0.mk (ORS.out.below hb)); (try have OX := Aside0.mk (OX.out.below hb)); (try have OL := Aside0.mk (OL.out.below hb)); have HX := Aside0.mk (HX.out.below hb); have HC := Aside0.mk (Ch.step HC.out hb); have OAT := Aside0.mk (hnr.on hs_); have HC5 := Aside0.mk hc5; clear hnr hb hs_ hc5))
    | (go_at_call 53; (try (refine gate_guard (by rfl) ?_; dsimp only)); go_loud ((with_reducible refine (CK1.out _ OG.out.C).mono ?_); rintro e w6 ⟨rfl, hb⟩; (try have OK := Aside0.mk (OK.out.below hb)); (try have OG := Aside0.mk (OG.out.below hb)); (try have OM := Aside0.mk (OM.out.below hb)); (try have OS := Aside0.mk (OS.out.below hb)); (try have OC := Aside0.mk (OC.out.below hb)); (try have OAT := Aside0.mk (OAT.out.below hb)); (try have ORS := Aside0.mk (ORS.out.below hb)); (try have OX := Aside0.mk (OX.out.below hb)); (try have OL := Aside0.mk (OL.out.below hb)); have HX := Aside0.mk (HX.out.below hb); have HC := Aside0.mk (Ch.step HC.out hb); clear hb CK1))
    | (go_at_call 53; (try (refine gate_guard (by rfl) ?_; dsimp only)); go_loud ((with_reducible refine (CK2.out _ OG.out.C).mono ?_); rintro e w7 ⟨rfl, hb⟩; (try have OK := Aside0.mk (OK.out.below hb)); (try have OG := Aside0.mk (OG.out.below hb)); (try have OM := Aside0.mk (OM.out.below hb)); (try have OS := Aside0.mk (OS.out.below hb)); (try have OC := Aside0.mk (OC.out.below hb)); (try have OAT := Aside0.mk (OAT.out.below hb)); (try have ORS := Aside0.mk (ORS.out.below hb)); (try have OX := Aside0.mk (OX.out.below hb)); (try have OL := Aside0.mk (OL.out.below hb)); have HX := Aside0.mk (HX.out.below hb); have HC := Aside0.mk (Ch.step HC.out hb); clear hb CK2)))
  clear CST CCV CAT
  have u1 := u1.out
  go_upto_region 15 with (first
    | (go_at_call 54; go_loud ((with_reducible refine (RST.out _ OK.out.C OG.out.C).mono ?_); rintro e w8 ⟨A8, c8, rfl, hc8, hnr, hb⟩; have hs_ := HX.out.bound.2.2.2;  (try have OK := Aside0.mk (OK.out.below hb)); (try have OG := Aside0.mk (OG.out.below hb)); (try have OM := Aside0.mk (OM.out.below hb)); (try have OS := Aside0.mk (OS.out.below hb)); (try have OC := Aside0.mk (OC.out.below hb)); (try have OAT := Aside0.mk (OAT.out.below hb)); (try have ORS := Aside0.mk (ORS.out.below hb)); (try have OX := Aside0.mk (OX.out.below hb)); (try have OL := Aside0.mk (OL.out.below hb)); have HX := Aside0.mk (HX.out.below hb); have HC := Aside0.mk (Ch.step HC.out hb); have ORS := Aside0.mk (hnr.on hs_); have HC8 := Aside0.mk hc8; clear hnr hb hs_ hc8))
    | (go_at_call 39; go_loud ((with_reducible refine (CX.out _ _ HC8.out _ OM.out.C ORS.out.C).mono ?_); rintro e w9 ⟨A9, c9, rfl, hc9, hnr, hb⟩; have hs_ := HX.out.bound.2.2.2;  (try have OK := Aside0.mk (OK.out.below hb)); (try have OG := Aside0.mk (OG.out.below hb)); (try have OM := Aside0.mk (OM.out.below hb)); (try have OS := Aside0.mk (OS.out.below hb)); (try have OC := Aside0.mk (OC.out.below hb)); (try have OAT := Aside0.mk (OAT.out.below hb)); (try have ORS := Aside0.mk (ORS.out.below hb)); (try have OX := Aside0.mk (OX.out.below hb)); (try have OL := Aside0.mk (OL.out.below hb)); have HX := Aside0.mk (HX.out.below hb); have HC := Aside0.mk (Ch.step HC.out hb); have OX := Aside0.mk (hnr.on hs_); have HC9 := Aside0.mk hc9; clear hnr hb hs_ hc9))
    | (go_at_call 41; go_loud ((with_reducible refine (SX.out _ _ _ _ HC4.out HC9.out _ OC.out.C OX.out.C).mono ?_); rintro e w10 ⟨rfl, hb⟩; (try have OK := Aside0.mk (OK.out.below hb)); (try have OG := Aside0.mk (OG.out.below hb)); (try have OM := Aside0.mk (OM.out.below hb)); (try have OS := Aside0.mk (OS.out.below hb)); (try have OC := Aside0.mk (OC.out.below hb)); (try have OAT := Aside0.mk (OAT.out.below hb)); (try have ORS := Aside0.mk (ORS.out.below hb)); (try have OX := Aside0.mk (OX.out.below hb)); (try have OL := Aside0.mk (OL.out.below hb)); have HX := Aside0.mk (HX.out.below hb); have HC := Aside0.mk (Ch.step HC.out hb); clear hb)))
  clear RST CX SX OC OX ORS HC4 HC8 HC9
  go_wp2_with (first
    | (go_at_call 55; (try (refine gate_guard (by rfl) ?_; dsimp only)); go_loud ((with_reducible refine (RL.out _ OG.out.C).mono ?_); rintro e w12 ⟨A12, c12, rfl, hc12, hnr, hb⟩; have hs_ := HX.out.bound.2.2.2;  (try have OK := Aside0.mk (OK.out.below hb)); (try have OG := Aside0.mk (OG.out.below hb)); (try have OM := Aside0.mk (OM.out.below hb)); (try have OS := Aside0.mk (OS.out.below hb)); (try have OC := Aside0.mk (OC.out.below hb)); (try have OAT := Aside0.mk (OAT.out.below hb)); (try have ORS := Aside0.mk (ORS.out.below hb)); (try have OX := Aside0.mk (OX.out.below hb)); (try have OL := Aside0.mk (OL.out.below hb)); have HX := Aside0.mk (HX.out.below hb); have HC := Aside0.mk (Ch.step HC.out hb); have OL := Aside0.mk (hnr.on hs_); have HC12 := Aside0.mk hc12; clear hnr hb hs_ hc12))
    | (go_at_call 41; (try (refine gate_guard (by rfl) ?_; dsimp only)); go_loud ((with_reducible refine (SB.out _ _ _ _ HC5.out HC12.out _ OAT.out.C OL.out.C).mono ?_); rintro e w13 ⟨rfl, hb⟩; (try have OK := Aside0.mk (OK.out.below hb)); (try have OG := Aside0.mk (OG.out.below hb)); (try have OM := Aside0.mk (OM.out.below hb)); (try have OS := Aside0.mk (OS.out.below hb)); (try have OC := Aside0.mk (OC.out.below hb)); (try have OAT := Aside0.mk (OAT.out.below hb)); (try have ORS := Aside0.mk (ORS.out.below hb)); (try have OX := Aside0.mk (OX.out.below hb)); (try have OL := Aside0.mk (OL.out.below hb)); have HX := Aside0.mk (HX.out.below hb); have HC := Aside0.mk (Ch.step HC.out hb); clear hb))
    | (go_at_call 49; (try (refine gate_guard (by rfl) ?_; dsimp only)); go_loud ((with_reducible refine (CA.out _).mono ?_); rintro e wA ⟨rfl, hb⟩; (try have OK := Aside0.mk (OK.out.below hb)); (try have OG := Aside0.mk (OG.out.below hb)); (try have OM := Aside0.mk (OM.out.below hb)); (try have OS := Aside0.mk (OS.out.below hb)); (try have OC := Aside0.mk (OC.out.below hb)); (try have OAT := Aside0.mk (OAT.out.below hb)); (try have ORS := Aside0.mk (ORS.out.below hb)); (try have OX := Aside0.mk (OX.out.below hb)); (try have OL := Aside0.mk (OL.out.below hb)); have HX := Aside0.mk (HX.out.below hb); have HC := Aside0.mk (Ch.step HC.out hb); clear hb)))
  go_ret
  exact ⟨rfl, HC.out.below HB.out HB.out.size HBX.out⟩
end Go.Proofs.Ytpdikfmdnlhllaa.Aes
namespace Go.Proofs.Ytpdikfmdnlhllaa.Aes
open Go Go.RowKit Go.Proofs.YtpdikfmdnlhllaaW.PrintWords Byte Sl Arr Mem AesMath
set_option linter.unusedVariables false
theorem trtells_walk (a0 : Option Addr) (len0 cap0 : Nat) (z0 : List Int) (a1 : Option Addr) (len1 cap1 : Nat) (z1 : List Int) (a2 : Option Addr) (len2 cap2 : Nat) (z2 : List Int) (a3 : Int) (w : World) (w0 : Slices.IsRow .u8 w a0 len0 cap0 z0) (y0 : len0 * 1 ≤ 140737488351232) (w1 : Slices.IsRow .u8 w a1 len1 cap1 z1) (y1 : len1 * 1 ≤ 140737488351232) (w2 : Slices.IsRow .u8 w a2 len2 cap2 z2) (y2 : len2 * 1 ≤ 140737488351232) (w3 : (Lit.int .i64 a3).wf = true) :
    Calls Try.prog 9 #[.slice a0 len0 cap0, .slice a1 len1 cap1, .slice a2 len2 cap2, .int .i64 a3] w fun e w' => e = .returned (.bool true) ∧ Below w.heap.size w w' := by
  obtain ⟨key, h0, hc0, hC0⟩ := row_at (k := .u8) w0
  obtain ⟨b, h1, hc1, hC1⟩ := row_at (k := .u8) w1
  obtain ⟨m, h2, hc2, hC2⟩ := row_at (k := .u8) w2
  have hw := wf_i64 w3
  clear w0 w1 w2 w3 y0 y1 y2
  by_cases hr : roundsN key.length = 0
  · exact trt_skip len0 len2 a3 0 (by rw [roundsI_nat, ← h0, hr]; rfl) (.inl rfl) a0 a1 a2 cap0 len1 cap1 cap2 w
  have hri : roundsI (len0 : Int) ≠ 0 := by rw [roundsI_nat, ← h0]; intro h; exact hr (by omega)
  by_cases hm : len2 ≤ 2000
  · by_cases hn : 2000 < a3 ∧ a3 ≤ 65536
    · exact trt_skip len0 len2 a3 _ rfl (.inr (.inr ⟨hri, hm, hn.1, hn.2⟩)) a0 a1 a2 cap0 len1 cap1 cap2 w
    · by_cases h16 : len1 = 16
      · subst h16
        by_cases hneg : a3 < 0
        · exact trt_B key b m len0 len2 h0 hr hm a0 a1 a2 cap0 cap1 cap2 hc0 hc1 hc2 a3 hneg w hC0 hC1 hC2
        · obtain ⟨k, rfl⟩ := Int.eq_ofNat_of_zero_le (Int.not_lt.1 hneg)
          by_cases hk : k ≤ 2000
          · exact trt_C key b m len0 len2 h0 hr hm a0 a1 a2 cap0 cap1 cap2 hc0 hc1 hc2 k hk w hC0 hC1 hC2
          · exact trt_D key b m len0 len2 h0 hr hm a0 a1 a2 cap0 cap1 cap2 hc0 hc1 hc2 k (by omega) (by omega) w hC0 hC1 hC2
      · exact trt_A key b m len0 len1 len2 h0 hr hm a0 a1 a2 cap0 cap1 cap2 hc0 hc1 hc2 h16 a3 (by omega) w hC0 hC1 hC2
  · exact trt_skip len0 len2 a3 _ rfl (.inr (.inl ⟨hri, by omega⟩)) a0 a1 a2 cap0 len1 cap1 cap2 w
end Go.Proofs.Ytpdikfmdnlhllaa.Aes
namespace Go.Proofs.Ytpdikfmdnlhllaa.Aes
open Go.RowKit Go.Proofs.YtpdikfmdnlhllaaW.PrintWords Byte Sl Arr Mem AesMath
theorem ctwice_walk (l0 l1 : List Int) (a2 : Option Addr) (len2 cap2 : Nat) (z2 : List Int) (x3 : Int) (w : World) (n0 : l0.length = 16) (w0 : ∀ x ∈ l0, (Lit.int .u8 x).wf = true) (n1 : l1.length = 16) (w1 : ∀ x ∈ l1, (Lit.int .u8 x).wf = true) (w2 : Slices.IsRow .u8 w a2 len2 cap2 z2) (y2 : len2 * 1 ≤ 140737488351232) (w3 : (Lit.int .u8 x3).wf = true) :
    Calls Try.prog 10 #[Arr.arrV .u8 l0, Arr.arrV .u8 l1, .slice a2 len2 cap2, .int .u8 x3] w fun e w' => e = .returned (.bool true) ∧ Below w.heap.size w w' := by
  obtain ⟨hsl, hlen, hwf⟩ := w2.sl
  obtain ⟨A, c, hv, hc, hC⟩ := hsl
  injection hv with e1 e2 e3
  subst e1
  subst e3
  obtain ⟨m, hm⟩ := ib_of (fun x hx => wf_u8 (hwf x hx))
  obtain ⟨k, rfl⟩ := ib_of (fun x hx => wf_u8 (w0 x hx))
  obtain ⟨b, rfl⟩ := ib_of (fun x hx => wf_u8 (w1 x hx))
  rw [ib_length] at n0 n1
  rw [hm, ib_length] at hlen
  rw [hm, ib_length] at hC hc
  rw [arrV_eq, arrV_eq]
  subst hlen
  have h3 := wf_u8 w3
  obtain ⟨j, rfl⟩ := Int.eq_ofNat_of_zero_le h3.1
  exact ctwice_c k b m n0 n1 m.length a2 cap2 hc j (by have := h3.2; omega) w hC
end Go.Proofs.Ytpdikfmdnlhllaa.Aes
