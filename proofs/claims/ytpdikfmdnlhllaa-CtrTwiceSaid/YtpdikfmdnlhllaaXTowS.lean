/-
  Merged texts, what is reached of them: TowEval, Once, OnceDoField, TowF, TowG, TowH, TowI, TowL1, TowL2, OnceDoBox, SboxMath, SboxA, SboxB, SboxC, SboxD, SboxE: walks and plain lemmas; no condition.
-/
import Derived.Test.YtpdikfmdnlhllaaXNibS
import Derived.Test.YtpdikfmdnlhllaaXPNibx0
import Derived.Test.YtpdikfmdnlhllaaXPNibx1
import Derived.Test.YtpdikfmdnlhllaaXPNibx2
import Derived.Test.YtpdikfmdnlhllaaXKit
import Derived.Tactics
import Derived.Tactics2
import Derived.Defers
import Derived.Laws.Pointers
import Derived.Laws.LoneSync
import Derived.RegionTactic
import Derived.RegionCalls
import Derived.ChangeAlike
import Derived.Laws.NewBlocks
import Derived.Test.YtpdikfmdnlhllaaXMatS
import Derived.Deep.MidRow
namespace Go.Proofs.Ytpdikfmdnlhllaa.NibE
open Go.RowKit Go.Proofs.Ytpdikfmdnlhllaa.PNib Go.Proofs.YtpdikfmdnlhllaaW.PrintWords Go.Proofs.YtpdikfmdnlhllaaW.PrintLast Go.Proofs.YtpdikfmdnlhllaaW.PrintMore Byte NibMath NibSq
theorem twice_eq (a : BitVec 8) : nib_twice.f (I8 a) = some (I8 (Tn a)) := by
  unfold nib_twice.f Tn
  rw [show Go.bits .and .u8 (I8 a) 8 = I8 (a &&& 8#8) from and8 a 8#8, twice8]
  by_cases h : a &&& 8#8 = 0#8
  · rw [if_pos (I8_zero.2 h), if_pos h]
  · rw [if_neg (mt I8_zero.1 h), if_neg h, show Go.bits .xor .u8 (I8 (a <<< 1)) 3 = I8 ((a <<< 1) ^^^ 3#8) from xor8 _ 3#8, show Go.bits .and .u8 (I8 ((a <<< 1) ^^^ 3#8)) 15 = I8 (((a <<< 1) ^^^ 3#8) &&& 15#8) from and8 _ 15#8]
theorem Mul_l0 : ∀ n k (a b o : BitVec 8), n < k → b.toNat < 2 ^ n → nib_Mul.l0 k (I8 a) (I8 b) (I8 o) = some (I8 (o ^^^ Pn n a b)) := by
  intro n
  induction n with
  | zero =>
    intro k a b o hk hb
    obtain ⟨k, rfl⟩ : ∃ m, k = m + 1 := ⟨k - 1, by omega⟩
    obtain rfl : b = 0#8 := BitVec.eq_of_toNat_eq (by simp at hb ⊢; omega)
    simp only [nib_Mul.l0]
    rw [if_pos (by rfl)]
    simp [Pn]
  | succ n ih =>
    intro k a b o hk hb
    obtain ⟨k, rfl⟩ : ∃ m, k = m + 1 := ⟨k - 1, by omega⟩
    simp only [nib_Mul.l0]
    by_cases h0 : b = 0#8
    · subst h0
      rw [if_pos (by rfl), Pn_zero, BitVec.xor_zero]
    · rw [if_neg (mt I8_zero.1 h0)]
      have hb' : (b >>> 1).toNat < 2 ^ n := by rw [BitVec.toNat_ushiftRight, Nat.shiftRight_eq_div_pow]; rw [Nat.pow_succ] at hb; omega
      simp only [twice_eq, Option.bind_some, half8, xor8, Pn]
      by_cases h1 : b.getLsbD 0 = true
      · rw [if_pos ((odd8 b).2 h1), ih k _ _ _ (by omega) hb', if_pos h1, BitVec.xor_assoc]
      · rw [if_neg (mt (odd8 b).1 h1), ih k _ _ _ (by omega) hb', if_neg h1, BitVec.zero_xor]
theorem and15 (a : BitVec 8) : Go.bits .and .u8 (I8 a) 15 = I8 (a &&& 15#8) := and8 a 15#8
theorem nib_lt : ∀ a : BitVec 8, (a &&& 15#8).toNat < 2 ^ 4 := by decide +kernel
theorem Mul_eq (a b : BitVec 8) (k : Nat) (hk : 5 ≤ k) : nib_Mul.f k (I8 a) (I8 b) = some (I8 (mul a b)) := by
  unfold nib_Mul.f
  rw [zero8, and15, and15, Mul_l0 4 k _ _ 0#8 (by omega) (nib_lt b), BitVec.zero_xor]; rfl
end Go.Proofs.Ytpdikfmdnlhllaa.NibE
namespace Go.Proofs.Ytpdikfmdnlhllaa.GfE
open Go.RowKit Go.Proofs.Ytpdikfmdnlhllaa.PNib Go.Proofs.YtpdikfmdnlhllaaW.PrintWords Go.Proofs.YtpdikfmdnlhllaaW.PrintLast Go.Proofs.YtpdikfmdnlhllaaW.PrintMore Byte GfMath
theorem Twice_eq (a : BitVec 8) : gf_Twice.f (I8 a) = some (I8 (T a)) := by
  unfold gf_Twice.f T
  rw [show Go.bits .and .u8 (I8 a) 128 = I8 (a &&& 128#8) from and8 a 128#8, twice8]
  by_cases h : a &&& 128#8 = 0#8
  · rw [if_pos (I8_zero.2 h), if_pos h]
  · rw [if_neg (mt I8_zero.1 h), if_neg h, show Go.bits .xor .u8 (I8 (a <<< 1)) 27 = I8 ((a <<< 1) ^^^ 27#8) from xor8 _ 27#8]
theorem Mul_l0 : ∀ n k (a b o : BitVec 8), n < k → b.toNat < 2 ^ n → gf_Mul.l0 k (I8 a) (I8 b) (I8 o) = some (I8 (o ^^^ P n a b)) := by
  intro n
  induction n with
  | zero =>
    intro k a b o hk hb
    obtain ⟨k, rfl⟩ : ∃ m, k = m + 1 := ⟨k - 1, by omega⟩
    obtain rfl : b = 0#8 := BitVec.eq_of_toNat_eq (by simp at hb ⊢; omega)
    simp only [gf_Mul.l0]
    rw [if_pos (by rfl)]
    simp [P]
  | succ n ih =>
    intro k a b o hk hb
    obtain ⟨k, rfl⟩ : ∃ m, k = m + 1 := ⟨k - 1, by omega⟩
    simp only [gf_Mul.l0]
    by_cases h0 : b = 0#8
    · subst h0
      rw [if_pos (by rfl), P_zero, BitVec.xor_zero]
    · rw [if_neg (mt I8_zero.1 h0)]
      have hb' : (b >>> 1).toNat < 2 ^ n := by rw [BitVec.toNat_ushiftRight, Nat.shiftRight_eq_div_pow]; rw [Nat.pow_succ] at hb; omega
      simp only [Twice_eq, Option.bind_some, half8, xor8, P]
      by_cases h1 : b.getLsbD 0 = true
      · rw [if_pos ((odd8 b).2 h1), ih k _ _ _ (by omega) hb', if_pos h1, BitVec.xor_assoc]
      · rw [if_neg (mt (odd8 b).1 h1), ih k _ _ _ (by omega) hb', if_neg h1, BitVec.zero_xor]
theorem Mul_eq (a b : BitVec 8) (k : Nat) (hk : 9 ≤ k) : gf_Mul.f k (I8 a) (I8 b) = some (I8 (mul a b)) := by
  unfold gf_Mul.f
  rw [zero8, Mul_l0 8 k a b 0#8 (by omega) b.isLt, BitVec.zero_xor]; rfl
theorem Pow_l0 : ∀ m k (a o : BitVec 8) (n : Nat), m + 10 ≤ k → n < 2 ^ m → n < 9223372036854775808 → gf_Pow.l0 k (I8 a) (n : Int) (I8 o) = some (I8 (mul o (pow a n))) := by
  intro m
  induction m with
  | zero =>
    intro k a o n hk hn _
    obtain ⟨k, rfl⟩ : ∃ m, k = m + 1 := ⟨k - 1, by omega⟩
    obtain rfl : n = 0 := by simp at hn; omega
    simp only [gf_Pow.l0]
    rw [if_neg (by omega)]
    simp [pow, mul_one]
  | succ m ih =>
    intro k a o n hk hn hn'
    obtain ⟨k, rfl⟩ : ∃ m, k = m + 1 := ⟨k - 1, by omega⟩
    simp only [gf_Pow.l0]
    by_cases h0 : n = 0
    · subst h0
      rw [if_neg (by omega)]; simp [pow, mul_one]
    · rw [if_pos (by omega), and_i64_one n hn']
      have h2 : ((n : Int) / 2) = ((n / 2 : Nat) : Int) := by omega
      have hlt : n / 2 < 2 ^ m := by rw [Nat.pow_succ] at hn; omega
      rw [Mul_eq a a k (by omega), Mul_eq o a k (by omega)]
      simp only [Option.bind_some, h2]
      by_cases h1 : n % 2 = 1
      · rw [if_pos (by omega), ih k _ _ _ (by omega) hlt (by omega), pow_sq, ← mul_assoc]
        congr 3
        conv => rhs; rw [show n = 1 + 2 * (n / 2) by omega, pow_add]
        simp [pow, one_mul]
      · rw [if_neg (by omega), ih k _ _ _ (by omega) hlt (by omega), pow_sq]
        congr 4
        omega
theorem Pow_eq (a : BitVec 8) (n : Nat) (hn : n < 9223372036854775808) (k : Nat) (hk : 80 ≤ k) : gf_Pow.f k (I8 a) (n : Int) = some (I8 (pow a n)) := by
  unfold gf_Pow.f
  rw [if_neg (by omega), one8, Pow_l0 63 k a 1#8 n (by omega) hn hn, one_mul]
theorem Inv_eq (a : BitVec 8) (k : Nat) (hk : 80 ≤ k) : gf_Inv.f k (I8 a) = some (I8 (pow a 254)) := by
  unfold gf_Inv.f
  rw [show (254 : Int) = ((254 : Nat) : Int) from rfl, Pow_eq a 254 (by decide) k hk]; rfl
theorem tmod2 (n : Nat) : Int.tmod (n : Int) 2 = ((n % 2 : Nat) : Int) := by
  rw [Int.tmod_eq_emod_of_nonneg (by omega)]; omega
theorem shr_nat (n i : Nat) (hi : i ≤ 64) : shr .i64 (n : Int) (i : Int) = ((n >>> i : Nat) : Int) := by
  unfold shr
  have : min ((i : Int).toNat) IntKind.i64.bits = i := by
    show min ((i : Int).toNat) 64 = i
    omega
  rw [this, Nat.shiftRight_eq_div_pow]
  rw [Int.natCast_ediv]
  simp
theorem bit_of (n i : Nat) (hi : i ≤ 64) : (Int.tmod (shr .i64 (n : Int) (i : Int)) 2 = 1) ↔ n.testBit i = true := by
  rw [shr_nat n i hi, tmod2, Nat.testBit_eq_decide_div_mod_eq, Nat.shiftRight_eq_div_pow, decide_eq_true_iff]
  generalize n / 2 ^ i = q
  omega
theorem wu (i : Nat) (hi : i < 18446744073709551616) : IntKind.u64.wrap (i : Int) = (i : Int) := wrap_u64_nat i hi
theorem RMul_l0 (b : BitVec 8) : ∀ m k i n x, i + m = 8 → n < 2 ^ 20 → x < 2 ^ (8 + i) →
    visorref03_Mul.l0 (m + 1 + k) (I8 b) ((n : Nat) : Int) ((x : Nat) : Int) ((i : Nat) : Int) = visorref03_Mul.l1 k ((n ^^^ S m b i x : Nat) : Int) 14 := by
  intro m
  induction m with
  | zero =>
    intro k i n x hi hn hx
    rw [show 0 + 1 + k = k + 1 by omega]
    simp only [visorref03_Mul.l0, S, Nat.xor_zero]
    rw [if_neg (by omega)]
  | succ m ih =>
    intro k i n x hi hn hx
    rw [show m + 1 + 1 + k = (m + 1 + k) + 1 by omega]
    simp only [visorref03_Mul.l0, S]
    have hp : (2 : Nat) ^ (8 + i) ≤ 2 ^ 15 := Nat.pow_le_pow_right (by decide) (by omega)
    rw [if_pos (by omega), wu i (by omega), if_pos (by omega)]
    have hb := b.isLt
    have e1 : wrap64 (I8 b) = ((b.toNat : Nat) : Int) := by unfold I8 wrap64; omega
    have e2 : wrap64 ((x : Int) * 2) = ((x * 2 : Nat) : Int) := by unfold wrap64; omega
    have e3 : wrap64 ((i : Int) + 1) = ((i + 1 : Nat) : Int) := by unfold wrap64; omega
    rw [e1, e2, e3, xor_i64 n x (by omega) (by omega)]
    have hi := bit_of b.toNat i (by omega)
    have hx2 : x * 2 < 2 ^ (8 + (i + 1)) := by rw [← Nat.add_assoc, Nat.pow_succ]; omega
    have hn2 : n ^^^ x < 2 ^ 20 := Nat.xor_lt_two_pow hn (by omega)
    by_cases h : b.getLsbD i = true
    · rw [if_pos (hi.2 h), if_pos h, ih k (i + 1) (n ^^^ x) (x * 2) (by omega) hn2 hx2, Nat.xor_assoc]
    · rw [if_neg (mt hi.1 h), if_neg h, ih k (i + 1) n (x * 2) (by omega) hn hx2, Nat.zero_xor]
theorem RMul_l1 : ∀ m k n, m ≤ 7 → n < 2 ^ 20 → visorref03_Mul.l1 (m + 1 + k) ((n : Nat) : Int) ((m + 7 : Nat) : Int) = some ((R2 m n % 256 : Nat) : Int) := by
  intro m
  induction m with
  | zero =>
    intro k n hm hn
    rw [show 0 + 1 + k = k + 1 by omega]
    simp only [visorref03_Mul.l1, R2]
    rw [if_neg (by omega)]
    congr 1
  | succ m ih =>
    intro k n hm hn
    rw [show m + 1 + 1 + k = (m + 1 + k) + 1 by omega]
    simp only [visorref03_Mul.l1, R2]
    have hp : (2 : Nat) ^ m ≤ 2 ^ 6 := Nat.pow_le_pow_right (by decide) (by omega)
    have e1 : wrap64 (((m + 1 + 7 : Nat) : Int) - 8) = ((m : Nat) : Int) := by unfold wrap64; omega
    have e2 : wrap64 (((m + 1 + 7 : Nat) : Int) - 1) = ((m + 7 : Nat) : Int) := by unfold wrap64; omega
    have e3 : shl .i64 283 ((m : Nat) : Int) = ((283 * 2 ^ m : Nat) : Int) := by
      unfold shl
      have : min ((m : Int).toNat) IntKind.i64.bits = m := by
        show min ((m : Int).toNat) 64 = m
        omega
      rw [this, show (283 : Int) * 2 ^ m = ((283 * 2 ^ m : Nat) : Int) by simp]
      exact wrap_i64_nat _ (by omega)
    rw [if_pos (by omega), e1, e2, wu (m + 1 + 7) (by omega), wu m (by omega), if_pos (by omega), if_pos (show (0 : Int) ≤ ((m : Nat) : Int) by omega), e3, xor_i64 n _ (by omega) (by omega)]
    have hi := bit_of n (m + 1 + 7) (by omega)
    by_cases h : n.testBit (m + 8) = true
    · rw [if_pos (hi.2 h), if_pos h, ih k _ (by omega) (Nat.xor_lt_two_pow hn (by omega))]
    · rw [if_neg (mt hi.1 h), if_neg h, ih k _ (by omega) hn]
theorem RMul_eq (a b : BitVec 8) (k : Nat) (hk : 17 ≤ k) : visorref03_Mul.f k (I8 a) (I8 b) = some (I8 (mul a b)) := by
  obtain ⟨k, rfl⟩ : ∃ m, k = 8 + 1 + (7 + 1 + m) := ⟨k - 17, by omega⟩
  unfold visorref03_Mul.f
  have ha := a.isLt
  have e1 : wrap64 (I8 a) = ((a.toNat : Nat) : Int) := by unfold I8 wrap64; omega
  have := RMul_l0 b 8 (7 + 1 + k) 0 0 a.toNat rfl (by decide) (by omega)
  rw [e1]
  refine this.trans ?_
  rw [Nat.zero_xor]
  have h2 := RMul_l1 7 k (S 8 b 0 a.toNat) (by decide) (Nat.lt_of_lt_of_le (S_lt 8 b 0 a.toNat 8 ha) (by decide))
  refine h2.trans ?_
  rw [show R2 7 (S 8 b 0 a.toNat) % 256 = rmul a b from rfl, rmul_eq]; rfl
end Go.Proofs.Ytpdikfmdnlhllaa.GfE
namespace Go.Proofs.Ytpdikfmdnlhllaa.TowE
open Go.RowKit Go.Proofs.Ytpdikfmdnlhllaa.PNib Go.Proofs.YtpdikfmdnlhllaaW.PrintWords Go.Proofs.YtpdikfmdnlhllaaW.PrintLast Go.Proofs.YtpdikfmdnlhllaaW.PrintMore Byte NibMath NibSq TowMath
theorem parts_all : ∀ a : BitVec 8, I8 a / 16 = I8 (hi a) ∧ Go.bits .and .u8 (I8 a) 15 = I8 (lw a) := by decide +kernel
theorem parts_eq (a : BitVec 8) : tower_parts.f (I8 a) = some (I8 (hi a), I8 (lw a)) := by
  unfold tower_parts.f
  rw [(parts_all a).1, (parts_all a).2]
theorem shl16 : ∀ a : BitVec 8, (I8 a * (16 : Int)) % (256 : Int) = I8 (a <<< 4) := by decide +kernel
theorem eight : (8 : Int) = I8 8#8 := rfl
theorem Mul_eq (a b : BitVec 8) (k : Nat) (hk : 5 ≤ k) : tower_Mul.f k (I8 a) (I8 b) = some (I8 (tmul a b)) := by
  unfold tower_Mul.f tmul
  simp only [parts_eq, Option.bind_some, xor8, NibE.Mul_eq _ _ k hk, eight, shl16, or8]
theorem Root_eq : tower_Root.f 400 = some 32 := by decide +kernel
/-- The powers of the root. -/
def cols : Nat → BitVec 8
  | 0 => 1#8 | 1 => 32#8 | 2 => 70#8 | 3 => 76#8 | 4 => 60#8 | 5 => 213#8 | 6 => 52#8 | 7 => 229#8 | _ => 0#8
end Go.Proofs.Ytpdikfmdnlhllaa.TowE
namespace Go.Proofs.Ytpdikfmdnlhllaa.Once
open Go.RowKit Go.Proofs.YtpdikfmdnlhllaaW.PrintWords Go.Proofs.YtpdikfmdnlhllaaW.PrintLast Go.Proofs.YtpdikfmdnlhllaaW.PrintMore
set_option linter.unusedVariables false
set_option linter.unusedSimpArgs false
set_option maxHeartbeats 4000000
set_option maxRecDepth 100000
theorem disable (w : World) : (callFunc 123 #[]).run Try.prog w = .ok (.value (.tuple #[])) w := run_call_mark0 Try.func123 (by kernel_rfl) (by kernel_rfl) (by kernel_rfl) .disable (by kernel_rfl) w
theorem enable (w : World) : (callFunc 125 #[]).run Try.prog w = .ok (.value (.tuple #[])) w := run_call_mark0 Try.func125 (by kernel_rfl) (by kernel_rfl) (by kernel_rfl) .enable (by kernel_rfl) w
theorem acquire (a : Addr) (w : World) : (callFunc 126 #[.pointer (some a)]).run Try.prog w = .ok (.value (.tuple #[])) w := run_call_marked Try.func126 (by kernel_rfl) (by kernel_rfl) (by kernel_rfl) .acquire (by kernel_rfl) a w
theorem releaseMerge (a : Addr) (w : World) : (callFunc 128 #[.pointer (some a)]).run Try.prog w = .ok (.value (.tuple #[])) w := run_call_marked Try.func128 (by kernel_rfl) (by kernel_rfl) (by kernel_rfl) .releaseMerge (by kernel_rfl) a w
/-- Store(true) of an atomic bool, entered as a deferred call. -/
theorem store_deferred (a : Addr) (x : Value) (u : FrameMode) (w : World) (hc : w.cell? a = some x) (hz : w.frozen? a = false) :
    CallsD Try.prog 112 #[.pointer (some a), .bool true] u w fun e u' w' => u' = u ∧ (e = .returned (.tuple #[]) ∧ w' = w.drew.setCell a (.int .u32 1)) := by
  have hc' : w.drew.cell? a = some x := by go_simp
  have hz' : w.drew.frozen? a = false := by go_simp
  have hst := run_call_store (P := Try.prog) Try.func119 (by kernel_rfl) (by kernel_rfl) (by kernel_rfl) (by kernel_rfl) (k := .u32) (y := 1) hc' hz'
  go_enter_d Try.func112, Try.ntmps112
  go_wp2
  go_region_calls
  all_goals (go_end0; exact ⟨rfl, rfl⟩)
/-- Unlock, entered as a deferred call, the lock held and nobody waiting. -/
theorem unlock_deferred (a : Addr) (u : FrameMode) (w : World) (hc : w.cell? a = some (.int .i32 1)) (hz : w.frozen? a = false) :
    CallsD Try.prog 111 #[.pointer (some a)] u w fun e u' w' => u' = u ∧ (e = .returned (.tuple #[]) ∧ w' = w.setCell a (.int .i32 0)) := by
  have hd := disable
  have he := enable
  have hr := releaseMerge
  have hadd := run_call_add (P := Try.prog) Try.func129 (by kernel_rfl) (by kernel_rfl) (by kernel_rfl) .i32 (by kernel_rfl) (y := -1) (s := 0) hc hz (by simp [go_sem]; rfl)
  have hcv := run_convert_to_unsafe (P := Try.prog) (src := 143) (dst := 147) Try.underlying143 Try.underlying147 (by kernel_rfl) hc
  go_enter_d Try.func111, Try.ntmps111
  go_wp2
  go_end0
  go_wp2
  go_end0
  exact ⟨rfl, rfl⟩
/-- Lock, the lock free. -/
theorem lock_free (a : Addr) (w : World) (hc : w.cell? a = some (.int .i32 0)) (hz : w.frozen? a = false) :
    Calls Try.prog 110 #[.pointer (some a)] w fun e w' => e = .returned (.tuple #[]) ∧ w' = w.setCell a (.int .i32 1) := by
  have hd := disable
  have he := enable
  have ha := acquire
  have hcas := run_call_cas_hit (P := Try.prog) Try.func124 (by kernel_rfl) (by kernel_rfl) (by kernel_rfl) .i32 (by kernel_rfl) (y := 1) hc hz
  have hc' : (w.setCell a (.int .i32 1)).cell? a = some (.int .i32 1) := World.cell?_setCell_same w a _ hc
  have hcv := run_convert_to_unsafe (P := Try.prog) (src := 143) (dst := 147) Try.underlying143 Try.underlying147 (by kernel_rfl) hc'
  go_enter Try.func110, Try.ntmps110
  go_wp2
  first | go_end0 | (simp only [Exit.inBlock, Exit.then]; refine bodyPost_ret (results_none rfl _ _ _) rfl ?_) | refine bodyPost_ret (results_none rfl _ _ _) rfl ?_
  go_wp2
  go_end0
  exact ⟨rfl, rfl⟩
end Go.Proofs.Ytpdikfmdnlhllaa.Once
namespace Go.Proofs.Ytpdikfmdnlhllaa.OnceField
open Go.RowKit Go.Proofs.YtpdikfmdnlhllaaW.PrintWords Go.Proofs.YtpdikfmdnlhllaaW.PrintLast Go.Proofs.YtpdikfmdnlhllaaW.PrintMore Once
set_option linter.unusedVariables false
set_option linter.unusedSimpArgs false
set_option maxHeartbeats 4000000
set_option maxRecDepth 100000
theorem slow_c (g off : Nat) (p : Value) (Post : World → Prop) (w : World) (h0 : w.cell? ⟨g, off, none⟩ = some (.int .u32 0)) (h1 : w.cell? ⟨g, off + 1, none⟩ = some (.int .i32 0))
    (f0 : w.frozen? ⟨g, off, none⟩ = false) (f1 : w.frozen? ⟨g, off + 1, none⟩ = false)
    (hcall : Calls Try.prog 122 #[p] (w.setCell ⟨g, off + 1, none⟩ (.int .i32 1)) fun e w' => e = .returned (.tuple #[]) ∧ Post w')
    (hP : ∀ w', Post w' → w'.cell? ⟨g, off, none⟩ = some (.int .u32 0) ∧ w'.cell? ⟨g, off + 1, none⟩ = some (.int .i32 1) ∧ w'.frozen? ⟨g, off, none⟩ = false ∧ w'.frozen? ⟨g, off + 1, none⟩ = false) :
    Calls Try.prog 100 #[.pointer (some ⟨g, off, none⟩), .func (.func 122) #[p] #[]] w fun e w' => e = .returned (.tuple #[]) ∧ ∃ w2, Post w2 ∧ w' = (w2.drew.setCell ⟨g, off, none⟩ (.int .u32 1)).setCell ⟨g, off + 1, none⟩ (.int .i32 0) := by
  have hl := run_call_load (P := Try.prog) Try.func109 (by kernel_rfl) (by kernel_rfl) (by kernel_rfl) .u32 (by kernel_rfl) (w := w.setCell ⟨g, off + 1, none⟩ (.int .i32 1)) (a := ⟨g, off, none⟩) (x := 0) ((World.cell?_setCell_other _ ⟨g, off + 1, none⟩ ⟨g, off, none⟩ _ (by simp)).trans h0)
  have hnot : ∀ (x : Bool) (w : World), (Op.unary .not (.bool x)).run Try.prog w = .ok (.bool (!x)) w := fun _ _ => rfl
  have HC := Aside0.mk hcall
  clear hcall
  go_enter_defers Try.func100, Try.ntmps100
  go_wp2_with (first
    | (go_at_call 110; refine (lock_free ⟨g, off + 1, none⟩ _ (by go_simp) (by go_simp)).mono ?_; rintro e w' ⟨rfl, rfl⟩)
    | (go_at_call 122; refine HC.out.mono ?_; rintro e w2 ⟨rfl, hw2⟩)
    | (go_at_call 99; go_in))
  have hp := hP w2 hw2
  refine leaves_cons (f := 112) (args := #[.pointer (some ⟨g, off, none⟩), .bool true]) (by simp) (by simp [go_sem]) ?_
  refine (store_deferred ⟨g, off, none⟩ (.int .u32 0) .returning _ hp.1 hp.2.2.1).mono ?_
  rintro e u' w'' ⟨rfl, rfl, rfl⟩
  refine leaves_cons (f := 111) (args := #[.pointer (some ⟨g, off + 1, none⟩)]) (by simp [settle]) (by simp [go_sem]) ?_
  refine (unlock_deferred ⟨g, off + 1, none⟩ _ _ ?_ (by simp [hp.2.2.2])).mono ?_
  · refine (World.cell?_setCell_other _ ⟨g, off, none⟩ ⟨g, off + 1, none⟩ _ (by simp)).trans ?_
    rw [World.cell?_drew]
    exact hp.2.1
  rintro e u' w'' ⟨rfl, rfl, rfl⟩
  simp [Leaves, settle, results, Try.results100]
  exact ⟨w2, hw2, rfl⟩
theorem do_first (g off : Nat) (p : Value) (Post : World → Prop) (w : World) (h0 : w.cell? ⟨g, off, none⟩ = some (.int .u32 0)) (h1 : w.cell? ⟨g, off + 1, none⟩ = some (.int .i32 0))
    (f0 : w.frozen? ⟨g, off, none⟩ = false) (f1 : w.frozen? ⟨g, off + 1, none⟩ = false)
    (hcall : Calls Try.prog 122 #[p] (w.setCell ⟨g, off + 1, none⟩ (.int .i32 1)) fun e w' => e = .returned (.tuple #[]) ∧ Post w')
    (hP : ∀ w', Post w' → w'.cell? ⟨g, off, none⟩ = some (.int .u32 0) ∧ w'.cell? ⟨g, off + 1, none⟩ = some (.int .i32 1) ∧ w'.frozen? ⟨g, off, none⟩ = false ∧ w'.frozen? ⟨g, off + 1, none⟩ = false) :
    Calls Try.prog 97 #[.pointer (some ⟨g, off, none⟩), .func (.func 122) #[p] #[]] w fun e w' => e = .returned (.tuple #[]) ∧ ∃ w2, Post w2 ∧ w' = (w2.drew.setCell ⟨g, off, none⟩ (.int .u32 1)).setCell ⟨g, off + 1, none⟩ (.int .i32 0) := by
  have hl := run_call_load (P := Try.prog) Try.func109 (by kernel_rfl) (by kernel_rfl) (by kernel_rfl) .u32 (by kernel_rfl) h0
  have hnot : ∀ (x : Bool) (w : World), (Op.unary .not (.bool x)).run Try.prog w = .ok (.bool (!x)) w := fun _ _ => rfl
  have HC := Aside0.mk (slow_c g off p Post w h0 h1 f0 f1 hcall hP)
  clear hcall hP
  go_enter Try.func97, Try.ntmps97
  go_wp2_with (first
    | (go_at_call 100; refine HC.out.mono ?_; rintro e w' ⟨rfl, w2, hw2, rfl⟩)
    | (go_at_call 99; go_in))
  go_end0
  exact ⟨rfl, w2, hw2, rfl⟩
/-- Done already: the function is not called. -/
theorem do_done (a : Addr) (fv : Value) (w : World) (h0 : w.cell? a = some (.int .u32 1)) :
    Calls Try.prog 97 #[.pointer (some a), fv] w fun e w' => e = .returned (.tuple #[]) ∧ w' = w := by
  have hl := run_call_load (P := Try.prog) Try.func109 (by kernel_rfl) (by kernel_rfl) (by kernel_rfl) .u32 (by kernel_rfl) h0
  have hnot : ∀ (x : Bool) (w : World), (Op.unary .not (.bool x)).run Try.prog w = .ok (.bool (!x)) w := fun _ _ => rfl
  go_enter Try.func97, Try.ntmps97
  go_wp2
  go_end0
  exact ⟨rfl, rfl⟩
end Go.Proofs.Ytpdikfmdnlhllaa.OnceField
namespace Go.Proofs.Ytpdikfmdnlhllaa.Mat
open Go.RowKit Go.Proofs.Ytpdikfmdnlhllaa.PNib Go.Proofs.YtpdikfmdnlhllaaW.PrintWords Go.Proofs.YtpdikfmdnlhllaaW.PrintLast Go.Proofs.YtpdikfmdnlhllaaW.PrintMore Byte Sl Arr Mem Gives ArrEq
set_option linter.unusedVariables false
set_option linter.unusedSimpArgs false
set_option maxHeartbeats 4000000
set_option maxRecDepth 100000
theorem tmul_c (a b : BitVec 8) : Gives 132 #[.int .u8 (I8 a), .int .u8 (I8 b)] (.int .u8 (I8 (TowMath.tmul a b))) := fun w => tower_Mul.calls 100 _ _ _ w (TowE.Mul_eq a b 100 (by decide))
theorem root_c : Gives 131 #[] (.int .u8 32) := fun w => tower_Root.calls 400 _ w TowE.Root_eq
def inF : Rows := flipF TowE.cols
/-- The matrix that turns out, row by row. -/
def outRows : List Nat := [129, 176, 2, 194, 202, 84, 142, 212]
def outF : Rows := fun i => BitVec.ofNat 8 (outRows.getD i 0)
def inR : Rows := fun i => BitVec.ofNat 8 ([161, 4, 252, 24, 112, 210, 172, 160].getD i 0)
theorem in_rows : ∀ i : Fin 8, inF i.val = inR i.val := by decide +kernel
theorem in_app (x : BitVec 8) : app inF x = app inR x := app_congr (fun i hi => in_rows ⟨i, hi⟩) x
theorem in_out_units : ∀ j : Fin 8, app inR (app outF (1#8 <<< j.val)) = 1#8 <<< j.val := by decide +kernel
theorem out_in_units : ∀ j : Fin 8, app outF (app inR (1#8 <<< j.val)) = 1#8 <<< j.val := by decide +kernel
theorem in_out (y : BitVec 8) : app inF (app outF y) = y := by
  rw [in_app]
  exact app_of_units (F := fun y => app inR (app outF y)) (fun x y => by simp only [app_xor]) (fun j hj => in_out_units ⟨j, hj⟩) y
theorem out_in (y : BitVec 8) : app outF (app inF y) = y := by
  rw [in_app]
  exact app_of_units (F := fun y => app outF (app inR y)) (fun x y => by simp only [app_xor]) (fun j hj => out_in_units ⟨j, hj⟩) y
theorem in_rank : rank inF = 8 := rank_full _ fun y => ⟨app outF y, in_out y⟩
theorem inv_out {g : Rows} {ok : Bool} (h : InvOf inF g ok) : ok = true ∧ cells8 g = cells8 outF := by
  have e : ok = true := h.full.2 in_rank
  refine ⟨e, cells8_congr (rows_of_app fun y => ?_)⟩
  have := (h.back e (app outF y)).1
  rwa [in_out] at this
def fcells (d s : Int) (i o : Rows) : Array Value := #[.int .u32 d, .int .i32 s, .int .u32 0] ++ cellsOf .u8 (cells8 i) ++ cellsOf .u8 (cells8 o)
def FRow (w : World) (g : Nat) (cs : Array Value) : Prop := w.heap[g]? = some (.cells cs 135 (0, 0))
def FAt (w : World) (g : Nat) (d s : Int) (i o : Rows) : Prop := FRow w g (fcells d s i o)
variable {w : World} {g : Nat} {cs : Array Value} {d s : Int} {i o : Rows}
theorem FRow.lt (h : FRow w g cs) : g < w.heap.size := (Array.getElem?_eq_some_iff.1 h).1
theorem FRow.below (h : FRow w g cs) {w' : World} (hb : Below w.heap.size w w') : FRow w' g cs := (hb.block g h.lt).trans h
theorem FRow.free (h : FRow w g cs) (j : Nat) : w.frozen? ⟨g, j, none⟩ = false := by
  unfold World.frozen?
  rw [h]
  simp
theorem FRow.cell (h : FRow w g cs) (j : Nat) : w.cell? ⟨g, j, none⟩ = cs[j]? := cell_of_row w g j _ _ _ h
theorem FRow.set (h : FRow w g cs) (j : Nat) (v : Value) : FRow (w.setCell ⟨g, j, none⟩ v) g (cs.setIfInBounds j v) := by
  have hlt := h.lt
  unfold FRow at h ⊢
  rw [Array.getElem?_eq_getElem hlt] at h
  have h0 := Option.some.inj h
  show (w.heap.modify g _)[g]? = _
  rw [Array.getElem?_modify, if_pos rfl, Array.getElem?_eq_getElem hlt, h0]
  rfl
theorem FRow.other (h : FRow w g cs) {g' : Nat} (hne : g' ≠ g) (j : Nat) (v : Value) : FRow (w.setCell ⟨g', j, none⟩ v) g cs := by
  unfold FRow at h ⊢
  show (w.heap.modify g' _)[g]? = _
  rw [Array.getElem?_modify, if_neg hne]; exact h
def setAll (cs : Array Value) : Nat → List Value → Array Value
  | _, [] => cs
  | o, v :: vs => setAll (cs.setIfInBounds o v) (o + 1) vs
theorem FRow.sets : ∀ (vs : List Value) (o : Nat) (w : World) (cs : Array Value), FRow w g cs → FRow (w.setCells g o vs) g (setAll cs o vs)
  | [], _, _, _, h => h
  | v :: vs, o, w, cs, h => FRow.sets vs (o + 1) _ _ (h.set o v)
theorem setAll_size : ∀ (vs : List Value) (o : Nat) (cs : Array Value), (setAll cs o vs).size = cs.size
  | [], _, _ => rfl
  | v :: vs, o, cs => by rw [setAll, setAll_size vs, Array.size_setIfInBounds]
theorem setAll_out : ∀ (vs : List Value) (o : Nat) (cs : Array Value) (k : Nat), (k < o ∨ o + vs.length ≤ k) → (setAll cs o vs)[k]? = cs[k]?
  | [], _, _, _, _ => rfl
  | v :: vs, o, cs, k, h => by
    rw [List.length_cons] at h
    rw [setAll, setAll_out vs (o + 1) _ k (by omega), Array.getElem?_setIfInBounds, if_neg (by omega)]
theorem setAll_in : ∀ (vs : List Value) (o : Nat) (cs : Array Value) (j : Nat), j < vs.length → o + vs.length ≤ cs.size → (setAll cs o vs)[o + j]? = vs[j]?
  | [], _, _, _, h, _ => absurd h (by simp)
  | v :: vs, o, cs, 0, h, hs => by
    rw [List.length_cons] at hs
    rw [setAll, setAll_out vs (o + 1) _ (o + 0) (by omega), Nat.add_zero, Array.getElem?_setIfInBounds, if_pos rfl, if_pos (by omega)]
    rfl
  | v :: vs, o, cs, j + 1, h, hs => by
    rw [List.length_cons] at hs h
    rw [setAll, show o + (j + 1) = (o + 1) + j by omega, setAll_in vs (o + 1) _ j (by omega) (by rw [Array.size_setIfInBounds]; omega)]
    rfl
theorem fc_size (d s : Int) (i o : Rows) : (fcells d s i o).size = 19 := by
  unfold fcells
  simp [cellsOf_size, cells8_length]
theorem fc_head (d s : Int) (i o : Rows) (k : Nat) (hk : k < 3) : (fcells d s i o)[k]? = (#[Value.int .u32 d, .int .i32 s, .int .u32 0] : Array Value)[k]? := by
  unfold fcells
  rw [Array.getElem?_append_left (by rw [Array.size_append]; simp; omega), Array.getElem?_append_left (by simpa using hk)]
theorem fc_in (d s : Int) (i o : Rows) (j : Nat) (hj : j < 8) : (fcells d s i o)[3 + j]? = (cellsOf .u8 (cells8 i))[j]? := by
  unfold fcells
  rw [Array.getElem?_append_left (by rw [Array.size_append, cellsOf_size, cells8_length]; simp; omega), Array.getElem?_append_right (by simp)]
  simp
theorem fc_out (d s : Int) (i o : Rows) (j : Nat) (hj : j < 8) : (fcells d s i o)[11 + j]? = (cellsOf .u8 (cells8 o))[j]? := by
  unfold fcells
  rw [Array.getElem?_append_right (by rw [Array.size_append, cellsOf_size, cells8_length]; simp)]
  congr 1
  rw [Array.size_append, cellsOf_size, cells8_length]
  simp
theorem in_range (h : FAt w g d s i o) : w.rangeAt g 3 (cellsOf .u8 (cells8 i)).toList := fun j v hv => by
  have hj : j < 8 := by
    have := (List.getElem?_eq_some_iff.1 hv).1
    rwa [Array.length_toList, cellsOf_size, cells8_length] at this
  rw [FRow.cell h, fc_in _ _ _ _ j hj, ← Array.getElem?_toList]; exact hv
theorem out_range (h : FAt w g d s i o) : w.rangeAt g 11 (cellsOf .u8 (cells8 o)).toList := fun j v hv => by
  have hj : j < 8 := by
    have := (List.getElem?_eq_some_iff.1 hv).1
    rwa [Array.length_toList, cellsOf_size, cells8_length] at this
  rw [FRow.cell h, fc_out _ _ _ _ j hj, ← Array.getElem?_toList]; exact hv
theorem there_ (h : FRow w g cs) (o n : Nat) (hn : o + n ≤ cs.size) : w.there g o n := fun j hj => ⟨by
  rw [h.cell (o + j), Array.getElem?_eq_getElem (by omega)]; rfl, h.free (o + j)⟩
theorem len8 (f : Rows) : (cellsOf .u8 (cells8 f)).toList.length = 8 := by rw [Array.length_toList, cellsOf_size, cells8_length]
theorem set_in_cells (d s : Int) (i o i' : Rows) : setAll (fcells d s i o) 3 (cellsOf .u8 (cells8 i')).toList = fcells d s i' o := by
  refine Array.ext_getElem? fun k => ?_
  rcases Nat.lt_or_ge k 3 with h | h
  · rw [setAll_out _ _ _ k (.inl h), fc_head _ _ _ _ k h, fc_head _ _ _ _ k h]
  · rcases Nat.lt_or_ge k 11 with h2 | h2
    · obtain ⟨j, rfl⟩ : ∃ j, k = 3 + j := ⟨k - 3, by omega⟩
      rw [setAll_in _ 3 _ j (by rw [len8]; omega) (by rw [len8, fc_size]; omega), fc_in _ _ _ _ j (by omega), Array.getElem?_toList]
    · rw [setAll_out _ _ _ k (.inr (by rw [len8]; omega))]
      rcases Nat.lt_or_ge k 19 with h3 | h3
      · obtain ⟨j, rfl⟩ : ∃ j, k = 11 + j := ⟨k - 11, by omega⟩
        rw [fc_out _ _ _ _ j (by omega), fc_out _ _ _ _ j (by omega)]
      · rw [Array.getElem?_eq_none (by rw [fc_size]; exact h3), Array.getElem?_eq_none (by rw [fc_size]; exact h3)]
theorem set_out_cells (d s : Int) (i o o' : Rows) : setAll (fcells d s i o) 11 (cellsOf .u8 (cells8 o')).toList = fcells d s i o' := by
  refine Array.ext_getElem? fun k => ?_
  rcases Nat.lt_or_ge k 3 with h | h
  · rw [setAll_out _ _ _ k (.inl (by omega)), fc_head _ _ _ _ k h, fc_head _ _ _ _ k h]
  · rcases Nat.lt_or_ge k 11 with h2 | h2
    · obtain ⟨j, rfl⟩ : ∃ j, k = 3 + j := ⟨k - 3, by omega⟩
      rw [setAll_out _ _ _ _ (.inl h2), fc_in _ _ _ _ j (by omega), fc_in _ _ _ _ j (by omega)]
    · rcases Nat.lt_or_ge k 19 with h3 | h3
      · obtain ⟨j, rfl⟩ : ∃ j, k = 11 + j := ⟨k - 11, by omega⟩
        rw [setAll_in _ 11 _ j (by rw [len8]; omega) (by rw [len8, fc_size]; omega), fc_out _ _ _ _ j (by omega), Array.getElem?_toList]
      · rw [Array.getElem?_eq_none (by rw [setAll_size, fc_size]; exact h3), Array.getElem?_eq_none (by rw [fc_size]; exact h3)]
theorem set_in (h : FAt w g d s i o) (i' : Rows) : FAt (w.setCells g 3 (cellsOf .u8 (cells8 i')).toList) g d s i' o := by
  unfold FAt
  rw [← set_in_cells d s i o i']
  exact FRow.sets _ 3 w _ h
theorem set_out (h : FAt w g d s i o) (o' : Rows) : FAt (w.setCells g 11 (cellsOf .u8 (cells8 o')).toList) g d s i o' := by
  unfold FAt
  rw [← set_out_cells d s i o o']
  exact FRow.sets _ 11 w _ h
theorem fc_set (d s : Int) (i o : Rows) (k : Nat) (hk : k < 3) (v : Value) : (fcells d s i o).setIfInBounds k v = ((#[Value.int .u32 d, .int .i32 s, .int .u32 0] : Array Value).setIfInBounds k v) ++ cellsOf .u8 (cells8 i) ++ cellsOf .u8 (cells8 o) := by
  unfold fcells
  rw [Array.setIfInBounds_append_left (by rw [Array.size_append]; simp; omega), Array.setIfInBounds_append_left (by simpa using hk)]
theorem set_d (h : FAt w g d s i o) (d' : Int) : FAt (w.setCell ⟨g, 0, none⟩ (.int .u32 d')) g d' s i o := by
  have := FRow.set h 0 (.int .u32 d')
  rwa [fc_set d s i o 0 (by decide)] at this
theorem set_s (h : FAt w g d s i o) (s' : Int) : FAt (w.setCell ⟨g, 1, none⟩ (.int .i32 s')) g d s' i o := by
  have := FRow.set h 1 (.int .i32 s')
  rwa [fc_set d s i o 1 (by decide)] at this
theorem cell_d (h : FAt w g d s i o) : w.cell? ⟨g, 0, none⟩ = some (.int .u32 d) := by rw [FRow.cell h, fc_head _ _ _ _ 0 (by decide)]; rfl
theorem cell_s (h : FAt w g d s i o) : w.cell? ⟨g, 1, none⟩ = some (.int .i32 s) := by rw [FRow.cell h, fc_head _ _ _ _ 1 (by decide)]; rfl
end Go.Proofs.Ytpdikfmdnlhllaa.Mat
namespace Go.Proofs.Ytpdikfmdnlhllaa.Mat
open Go.RowKit Go.Proofs.Ytpdikfmdnlhllaa.PNib Go.Proofs.YtpdikfmdnlhllaaW.PrintWords Go.Proofs.YtpdikfmdnlhllaaW.PrintLast Go.Proofs.YtpdikfmdnlhllaaW.PrintMore Byte Sl Arr Mem Gives ArrEq
set_option linter.unusedVariables false
set_option linter.unusedSimpArgs false
set_option maxHeartbeats 4000000
set_option maxRecDepth 100000
section
variable {P : Program} {ops : Array Oper} {rest : List Oper} {op : Oper} {a : Act} {Q : Exit → Act → World → Prop} {w : World} {g : Nat} {d s : Int} {i o : Rows}
theorem wp_load_in (h : FAt w g d s i o) (hgd : op.guard = none) (x : Operand) (ho : op.op = .load 113 x) (hx : a.eval x = .pointer (some ⟨g, 3, none⟩))
    (hK : wpList Try.prog ops Q rest (a.put op.dst (.agg (cellsOf .u8 (cells8 i)))) w) : wpList Try.prog ops Q (op :: rest) a w :=
  wpList_load_mid hgd 113 x ho g 3 hx _ _ (in_range h) Try.underlying113 rfl (by rw [len8]; exact info_mat) (by rw [Array.toArray_toList]; exact hK)
theorem wp_load_out (h : FAt w g d s i o) (hgd : op.guard = none) (x : Operand) (ho : op.op = .load 113 x) (hx : a.eval x = .pointer (some ⟨g, 11, none⟩))
    (hK : wpList Try.prog ops Q rest (a.put op.dst (.agg (cellsOf .u8 (cells8 o)))) w) : wpList Try.prog ops Q (op :: rest) a w :=
  wpList_load_mid hgd 113 x ho g 11 hx _ _ (out_range h) Try.underlying113 rfl (by rw [len8]; exact info_mat) (by rw [Array.toArray_toList]; exact hK)
theorem one_cells (f : Rows) : (cellsOf .u8 (cells8 f)).all (·.oneCell') = true := by simp [cellsOf, Value.oneCell']
theorem wp_store_in (h : FAt w g d s i o) (f : Rows) (hgd : op.guard = none) (x y : Operand) (ho : op.op = .store 113 x y) (hx : a.eval x = .pointer (some ⟨g, 3, none⟩)) (hy : a.eval y = .agg (cellsOf .u8 (cells8 f)))
    (hK : wpList Try.prog ops Q rest (a.put op.dst undef) (w.setCells g 3 (cellsOf .u8 (cells8 f)).toList)) : wpList Try.prog ops Q (op :: rest) a w :=
  wpList_store_mid hgd 113 x y ho g 3 _ hx hy (there_ h 3 _ (by rw [fc_size, cellsOf_size, cells8_length]; decide)) (by rw [cellsOf_size, cells8_length]; exact info_mat) (one_cells f) hK
theorem wp_store_out (h : FAt w g d s i o) (f : Rows) (hgd : op.guard = none) (x y : Operand) (ho : op.op = .store 113 x y) (hx : a.eval x = .pointer (some ⟨g, 11, none⟩)) (hy : a.eval y = .agg (cellsOf .u8 (cells8 f)))
    (hK : wpList Try.prog ops Q rest (a.put op.dst undef) (w.setCells g 11 (cellsOf .u8 (cells8 f)).toList)) : wpList Try.prog ops Q (op :: rest) a w :=
  wpList_store_mid hgd 113 x y ho g 11 _ hx hy (there_ h 11 _ (by rw [fc_size, cellsOf_size, cells8_length]; decide)) (by rw [cellsOf_size, cells8_length]; exact info_mat) (one_cells f) hK
end
def Ch (g : Nat) (w w' : World) : Prop := w.grownBy w' (some g)
section
variable {g : Nat} {w : World}
theorem Ch.below {w' : World} {B : Nat} {w0 : World} (h : Ch g w w') (hb : Below B w0 w) (hB : B ≤ w.heap.size) (hg : B ≤ g) : Below B w0 w' := pw_below_grown hb (some g) hB h (fun k hk => by cases hk; exact hg)
theorem Ch.trans {a b c : World} (h : Ch g a b) (k : Ch g b c) : Ch g a c := ⟨k.os.trans h.os, k.tape.trans h.tape, k.output.trans h.output, Nat.le_trans h.size k.size, fun i hi hne => (k.block i (Nat.lt_of_lt_of_le hi h.size) hne).trans (h.block i hi hne)⟩
theorem Ch.refl (w : World) : Ch g w w := ⟨rfl, rfl, rfl, Nat.le_refl _, fun _ _ _ => rfl⟩
theorem Ch.set (w : World) (i : Nat) (x : Value) : Ch g w (w.setCell ⟨g, i, none⟩ x) := ⟨rfl, rfl, rfl, by rw [Mem.setCell_size]; exact Nat.le_refl _, fun k hk hne => by
  show (w.heap.modify g _)[k]? = _
  rw [Array.getElem?_modify, if_neg (fun h => hne (by rw [h]))]⟩
theorem Ch.sets : ∀ (vs : List Value) (i : Nat) (w : World), Ch g w (w.setCells g i vs)
  | [], _, w => Ch.refl w
  | v :: vs, i, w => (Ch.set w i v).trans (Ch.sets vs (i + 1) _)
theorem Ch.of_below {w' : World} (h : Below w.heap.size w w') : Ch g w w' := grown_of_below h _
theorem FAt.congr {d s : Int} {i o o' : Rows} (h : FAt w g d s i o) (e : cells8 o = cells8 o') : FAt w g d s i o' := by
  unfold FAt fcells at h ⊢
  rwa [← e]
end
theorem new_c (w : World) : Calls Try.prog 104 #[] w fun e w' => ∃ g, e = .returned (.pointer (some ⟨g, 0, none⟩)) ∧ w.heap.size ≤ g ∧ FAt w' g 0 0 zrow zrow ∧ Below w.heap.size w w' := by
  go_enter Try.func104, Try.ntmps104
  go_wp2
  go_ret
  refine ⟨w.heap.size, rfl, Nat.le_refl _, ?_, below_alloc (Below.refl _ _) _⟩
  show (w.heap.push _)[w.heap.size]? = _
  rw [Array.getElem?_push_size]
  rfl
def pw : Nat → BitVec 8
  | 0 => 1#8
  | n + 1 => TowMath.tmul (pw n) 32#8
theorem pw_cols : ∀ k : Fin 8, pw k.val = TowE.cols k.val := by decide +kernel
def pwTo (j : Nat) : Rows := fun k => if k < j then pw k else 0#8
theorem pwTo_zero : cells8 (pwTo 0) = cells8 zrow := cells8_congr fun k _ => rfl
theorem pwTo_end : cells8 (flipF (pwTo 8)) = cells8 inF := cells8_congr fun k hk => ext8 fun j hj => by
  unfold inF
  rw [flip_bit _ _ _ hj, flip_bit _ _ _ hj]
  unfold pwTo
  rw [if_pos hj, pw_cols ⟨j, hj⟩]
theorem pwTo_set (j : Nat) (hj : j < 8) : (cells8 (pwTo j)).set j (I8 (pw j)) = cells8 (pwTo (j + 1)) := by
  rw [cells8_set _ _ hj]
  refine put_congr fun k _ => ?_
  unfold pwTo
  by_cases h : k = j
  · subst h; simp
  · by_cases h2 : k < j
    · simp [h, h2, show k < j + 1 by omega]
    · simp [h, h2, show ¬ k < j + 1 by omega]
theorem make_c {w : World} {g : Nat} {i o : Rows} (h : FAt w g 0 1 i o) : Calls Try.prog 122 #[.pointer (some ⟨g, 0, none⟩)] w fun e w' => e = .returned (.tuple #[]) ∧ FAt w' g 0 1 inF outF ∧ Ch g w w' := by
  have H := Aside0.mk (show FAt (w.alloc (.cells (cellsOf .u8 (cells8 zrow)) 112)) g 0 1 i o from FRow.below h (below_alloc (Below.refl _ _) _))
  have HLT := Aside0.mk (FRow.lt h)
  have M2 := Aside0.mk (Mem.new .u8 w 112 (cells8 zrow))
  have HB := Aside0.mk (below_alloc (Below.refl w.heap.size w) (.cells (cellsOf .u8 (cells8 zrow)) 112))
  have HR := Aside0.mk root_c
  go_enter Try.func122, Try.ntmps122
  go_wp2_with (first
    | (go_at_call 131; (with_reducible refine (HR.out.q _).mono ?_); rintro e w' ⟨rfl, ⟨n0, rfl⟩⟩))
  have N1 := Aside0.mk (show FAt _ g 0 1 i o from FRow.below H.out (pw_below_drewN (Below.refl _ _) n0))
  have N2 := Aside0.mk (Mem.drewN M2.out n0)
  have NB := Aside0.mk (pw_below_drewN HB.out n0)
  clear H M2 HB
  go_loopg [4, 7] 8 (fun kq pv jv w' => ∃ j : Nat, j + kq = 8 ∧ pv = .int .u8 (I8 (pw j)) ∧ jv = .int .i64 j ∧ Aside0 (FAt w' g 0 1 i o) ∧ Aside0 (Mem .u8 w' w.heap.size 112 (cells8 (pwTo j))) ∧ Aside0 (Below w.heap.size w w'))
  case atStart => exact ⟨0, by omega, rfl, rfl, N1, ⟨by rw [pwTo_zero]; exact N2.out⟩, NB⟩
  case round =>
    clear N1 N2 NB
    obtain ⟨j, hj, rfl, rfl, H, M2, HB⟩ := hrel
    cases gk with
    | zero =>
      obtain rfl : j = 8 := by omega
      have HC := columns_c (pwTo 8)
      rw [matV_eq, matV_eq, pwTo_end] at HC
      have HC := Aside0.mk HC
      have HI := Aside0.mk (inv_c inF)
      rw [matV_eq] at HI
      generalize pw 8 = pz at *
      go_wp2_with (first
        | ((with_reducible refine gate_dst (N := 18) rfl ?_); refine Mem.load M2.out rfl 112 (.tmp 2) rfl rfl Try.underlying112 (by rw [cells8_length]; exact info_c8) ?_)
        | (go_at_call 133; (with_reducible refine (HC.out.q _).mono ?_); rintro e w1 ⟨rfl, hb1⟩; have H := Aside0.mk (show FAt w1 g 0 1 i o from FRow.below H.out hb1); have HB := Aside0.mk (below_step HB.out hb1); clear hb1)
        | ((with_reducible refine gate_store (t := 113) (p := 21) rfl ?_); refine wp_store_in H.out inF rfl (.tmp 21) (.tmp 19) rfl rfl rfl ?_; have H := Aside0.mk (set_in H.out inF))
        | ((with_reducible refine gate_dst (N := 27) rfl ?_); refine wp_load_in H.out rfl (.tmp 26) rfl rfl ?_)
        | (go_at_call 105; (with_reducible refine (HI.out _).mono ?_); rintro e w2 ⟨o2, ok2, rfl, hI, hb2⟩; have H := Aside0.mk (FAt.congr (show FAt w2 g 0 1 inF o from FRow.below H.out hb2) rfl); have HO := Aside0.mk (inv_out hI).2; have HB2 := Aside0.mk hb2; clear hI hb2; rw [matV_eq])
        | ((with_reducible refine gate_store (t := 113) (p := 32) rfl ?_); refine wp_store_out H.out o2 rfl (.tmp 32) (.tmp 29) rfl rfl rfl ?_; have H := Aside0.mk (FAt.congr (set_out H.out o2) HO.out)))
      refine bodyPost_end (results_none rfl _ _ _) rfl ⟨rfl, H.out, ?_⟩
      exact (((Ch.of_below HB.out).trans (Ch.sets _ 3 _)).trans (Ch.of_below HB2.out)).trans (Ch.sets _ 11 _)
    | succ k1 =>
      have hlt : j < 8 := by omega
      have HJ := Aside0.mk hj
      clear hj
      have hb1 : (j : Int) < 8 := by omega
      have hb3 : (0 : Int) ≤ (j : Int) := by omega
      have hx := M2.out.cell j (by rw [cells8_length]; exact hlt)
      have hf := M2.out.free j
      have HV := Aside0.mk (pwTo_set j hlt)
      have HM := Aside0.mk (show Gives 132 #[.int .u8 (I8 (pw j)), .int .u8 32] (.int .u8 (I8 (pw (j + 1)))) from tmul_c (pw j) 32#8)
      obtain ⟨p1, hp1⟩ : ∃ z, z = pw (j + 1) := ⟨_, rfl⟩
      rw [← hp1] at HM
      have HP1 := Aside0.mk hp1
      clear hp1
      generalize pw j = p0 at *
      go_wp2_with (first
        | (go_at_call 132; (with_reducible refine (HM.out.q _).mono ?_); rintro e w' ⟨rfl, ⟨n1, rfl⟩⟩))
      go_roundg k1
      case measure => omega
      case rel => exact ⟨j + 1, by have := HJ.out; omega, by rw [HP1.out], by go_num, ⟨FRow.below (w := wr.setCell ⟨w.heap.size, j, none⟩ (.int .u8 (I8 p0))) (FRow.other H.out (by have := HLT.out; omega) _ _) (pw_below_drewN (Below.refl _ _) n1)⟩, ⟨Mem.drewN (by rw [← HV.out]; exact Mem.set M2.out _ _) n1⟩, ⟨pw_below_drewN (below_set HB.out (Nat.le_refl _)) n1⟩⟩
end Go.Proofs.Ytpdikfmdnlhllaa.Mat
namespace Go.Proofs.Ytpdikfmdnlhllaa.Mat
open Go.RowKit Go.Proofs.Ytpdikfmdnlhllaa.PNib Go.Proofs.YtpdikfmdnlhllaaW.PrintWords Go.Proofs.YtpdikfmdnlhllaaW.PrintLast Go.Proofs.YtpdikfmdnlhllaaW.PrintMore Byte Sl Arr Mem Gives ArrEq
set_option linter.unusedVariables false
set_option linter.unusedSimpArgs false
set_option maxHeartbeats 4000000
set_option maxRecDepth 100000
theorem own_first {w : World} {g : Nat} (h : FAt w g 0 0 zrow zrow) : Calls Try.prog 116 #[.pointer (some ⟨g, 0, none⟩)] w fun e w' => e = .returned (.pointer (some ⟨g, 0, none⟩)) ∧ FAt w' g 1 0 inF outF ∧ Ch g w w' := by
  have hmf : ∀ (fn : Fn) (first cap : Array Value) (w : World), (Instr.makeFunc fn first cap).run Try.prog w = .ok (.func fn first cap) w := fun _ _ _ _ => rfl
  have HD := Aside0.mk (OnceField.do_first g 0 (.pointer (some ⟨g, 0, none⟩)) (fun w' => FAt w' g 0 1 inF outF ∧ Ch g (w.setCell ⟨g, 0 + 1, none⟩ (.int .i32 1)) w') w (cell_d h) (cell_s h) (FRow.free h 0) (FRow.free h 1)
    (make_c (set_s h 1)) (fun w' hp => ⟨cell_d hp.1, cell_s hp.1, FRow.free hp.1 0, FRow.free hp.1 1⟩))
  clear h
  go_enter Try.func116, Try.ntmps116
  go_wp2_with (first
    | (go_at_call 97; (with_reducible refine (HD.out).mono ?_); rintro e w' ⟨rfl, w2, hw2, rfl⟩))
  go_ret
  refine ⟨rfl, set_s (set_d (show FAt w2.drew g 0 1 inF outF from FRow.below hw2.1 (below_drew (Below.refl _ _))) 1) 0, ?_⟩
  exact ((((Ch.set w 1 _).trans hw2.2).trans (Ch.of_below (below_drew (Below.refl _ _)))).trans (Ch.set _ 0 _)).trans (Ch.set _ 1 _)
theorem own_done {w : World} {g : Nat} {i o : Rows} (h : FAt w g 1 0 i o) : Calls Try.prog 116 #[.pointer (some ⟨g, 0, none⟩)] w fun e w' => e = .returned (.pointer (some ⟨g, 0, none⟩)) ∧ w' = w := by
  have hmf : ∀ (fn : Fn) (first cap : Array Value) (w : World), (Instr.makeFunc fn first cap).run Try.prog w = .ok (.func fn first cap) w := fun _ _ _ _ => rfl
  have HD := Aside0.mk (OnceField.do_done ⟨g, 0, none⟩ (.func (.func 122) #[.pointer (some ⟨g, 0, none⟩)] #[]) w (cell_d h))
  clear h
  go_enter Try.func116, Try.ntmps116
  go_wp2_with (first
    | (go_at_call 97; (with_reducible refine (HD.out).mono ?_); rintro e w' ⟨rfl, rfl⟩))
  go_ret
  exact ⟨rfl, rfl⟩
theorem in_done {w : World} {g : Nat} (h : FAt w g 1 0 inF outF) : Calls Try.prog 106 #[.pointer (some ⟨g, 0, none⟩)] w fun e w' => e = .returned (.agg (cellsOf .u8 (cells8 inF))) ∧ FAt w' g 1 0 inF outF ∧ Below w.heap.size w w' := by
  have H := Aside0.mk (show FAt (w.alloc (.cells (cellsOf .u8 (cells8 zrow)) 113)) g 1 0 inF outF from FRow.below h (below_alloc (Below.refl _ _) _))
  have HLT := Aside0.mk (FRow.lt h)
  have M2 := Aside0.mk (Mem.new .u8 w 113 (cells8 zrow))
  have HB := Aside0.mk (below_alloc (Below.refl w.heap.size w) (.cells (cellsOf .u8 (cells8 zrow)) 113))
  clear h
  go_enter Try.func106, Try.ntmps106
  go_wp2_with (first
    | (go_at_call 116; (refine (own_done H.out).mono ?_); rintro e w' ⟨rfl, rfl⟩)
    | ((with_reducible refine gate_dst (N := 7) rfl ?_); refine wp_load_in H.out rfl (.tmp 6) rfl rfl ?_)
    | ((with_reducible refine gate_store (t := 113) (p := 2) rfl ?_); refine Mem.store (l' := cells8 inF) M2.out rfl 113 (.tmp 2) (.tmp 7) rfl rfl rfl (by rw [cells8_length]; exact info_mat) (by simp only [cells8_length]) ?_))
  refine bodyPost_ret (v := .agg (cellsOf .u8 (cells8 inF))) (results_cell_row rfl _ _ _ _ _ _ _ rfl (Mem.put M2.out (cells8 inF)) Try.underlying113 rfl (by rw [cellsOf_size, cells8_length]; exact info_mat)) rfl ⟨rfl, ?_, below_setRow HB.out (Nat.le_refl _) _⟩
  exact (setRow_other _ w.heap.size g _ (Nat.ne_of_lt HLT.out)).trans H.out
theorem out_done {w : World} {g : Nat} (h : FAt w g 1 0 inF outF) : Calls Try.prog 108 #[.pointer (some ⟨g, 0, none⟩)] w fun e w' => e = .returned (.agg (cellsOf .u8 (cells8 outF))) ∧ FAt w' g 1 0 inF outF ∧ Below w.heap.size w w' := by
  have H := Aside0.mk (show FAt (w.alloc (.cells (cellsOf .u8 (cells8 zrow)) 113)) g 1 0 inF outF from FRow.below h (below_alloc (Below.refl _ _) _))
  have HLT := Aside0.mk (FRow.lt h)
  have M2 := Aside0.mk (Mem.new .u8 w 113 (cells8 zrow))
  have HB := Aside0.mk (below_alloc (Below.refl w.heap.size w) (.cells (cellsOf .u8 (cells8 zrow)) 113))
  clear h
  go_enter Try.func108, Try.ntmps108
  go_wp2_with (first
    | (go_at_call 116; (refine (own_done H.out).mono ?_); rintro e w' ⟨rfl, rfl⟩)
    | ((with_reducible refine gate_dst (N := 7) rfl ?_); refine wp_load_out H.out rfl (.tmp 6) rfl rfl ?_)
    | ((with_reducible refine gate_store (t := 113) (p := 2) rfl ?_); refine Mem.store (l' := cells8 outF) M2.out rfl 113 (.tmp 2) (.tmp 7) rfl rfl rfl (by rw [cells8_length]; exact info_mat) (by simp only [cells8_length]) ?_))
  refine bodyPost_ret (v := .agg (cellsOf .u8 (cells8 outF))) (results_cell_row rfl _ _ _ _ _ _ _ rfl (Mem.put M2.out (cells8 outF)) Try.underlying113 rfl (by rw [cellsOf_size, cells8_length]; exact info_mat)) rfl ⟨rfl, ?_, below_setRow HB.out (Nat.le_refl _) _⟩
  exact (setRow_other _ w.heap.size g _ (Nat.ne_of_lt HLT.out)).trans H.out
theorem in_first {w : World} {g : Nat} (h : FAt w g 0 0 zrow zrow) : Calls Try.prog 106 #[.pointer (some ⟨g, 0, none⟩)] w fun e w' => e = .returned (.agg (cellsOf .u8 (cells8 inF))) ∧ FAt w' g 1 0 inF outF ∧ Ch g w w' := by
  have H := Aside0.mk (show FAt (w.alloc (.cells (cellsOf .u8 (cells8 zrow)) 113)) g 0 0 zrow zrow from FRow.below h (below_alloc (Below.refl _ _) _))
  have HLT := Aside0.mk (FRow.lt h)
  have M2 := Aside0.mk (Mem.new .u8 w 113 (cells8 zrow))
  have HC0 := Aside0.mk (Ch.of_below (g := g) (below_alloc (Below.refl w.heap.size w) (.cells (cellsOf .u8 (cells8 zrow)) 113)))
  clear h
  go_enter Try.func106, Try.ntmps106
  go_wp2_with (first
    | (go_at_call 116; (refine (own_first H.out).mono ?_); rintro e w1 ⟨rfl, hF, hc⟩; have H := Aside0.mk hF; have M2 := Aside0.mk (show Mem .u8 w1 w.heap.size 113 (cells8 zrow) from (hc.block _ M2.out.lt (fun e => absurd (Option.some.inj e) (by have := HLT.out; omega))).trans M2.out); have HC0 := Aside0.mk (HC0.out.trans hc); clear hF hc)
    | ((with_reducible refine gate_dst (N := 7) rfl ?_); refine wp_load_in H.out rfl (.tmp 6) rfl rfl ?_)
    | ((with_reducible refine gate_store (t := 113) (p := 2) rfl ?_); refine Mem.store (l' := cells8 inF) M2.out rfl 113 (.tmp 2) (.tmp 7) rfl rfl rfl (by rw [cells8_length]; exact info_mat) (by simp only [cells8_length]) ?_))
  refine bodyPost_ret (v := .agg (cellsOf .u8 (cells8 inF))) (results_cell_row rfl _ _ _ _ _ _ _ rfl (Mem.put M2.out (cells8 inF)) Try.underlying113 rfl (by rw [cellsOf_size, cells8_length]; exact info_mat)) rfl ⟨rfl, ?_, ?_⟩
  · exact (setRow_other _ w.heap.size g _ (Nat.ne_of_lt HLT.out)).trans H.out
  · have hC := HC0.out
    exact ⟨hC.os, hC.tape, hC.output, by rw [setRow_size]; exact hC.size, fun k hk hne => (setRow_other _ w.heap.size k _ (Nat.ne_of_lt hk)).trans (hC.block k hk hne)⟩
end Go.Proofs.Ytpdikfmdnlhllaa.Mat
namespace Go.Proofs.Ytpdikfmdnlhllaa.Mat
open Go.RowKit Go.Proofs.Ytpdikfmdnlhllaa.PNib Go.Proofs.YtpdikfmdnlhllaaW.PrintWords Go.Proofs.YtpdikfmdnlhllaaW.PrintLast Go.Proofs.YtpdikfmdnlhllaaW.PrintMore Byte Sl Arr Mem Gives ArrEq
set_option linter.unusedVariables false
set_option linter.unusedSimpArgs false
set_option maxHeartbeats 4000000
set_option maxRecDepth 100000
end Go.Proofs.Ytpdikfmdnlhllaa.Mat
namespace Go.Proofs.Ytpdikfmdnlhllaa.Mat
open Go.RowKit Go.Proofs.Ytpdikfmdnlhllaa.PNib Go.Proofs.YtpdikfmdnlhllaaW.PrintWords Go.Proofs.YtpdikfmdnlhllaaW.PrintLast Go.Proofs.YtpdikfmdnlhllaaW.PrintMore Byte Sl Arr Mem Gives ArrEq
set_option linter.unusedVariables false
set_option linter.unusedSimpArgs false
set_option maxHeartbeats 4000000
set_option maxRecDepth 100000
end Go.Proofs.Ytpdikfmdnlhllaa.Mat
namespace Go.Proofs.Ytpdikfmdnlhllaa.Mat
open Go.RowKit Go.Proofs.Ytpdikfmdnlhllaa.PNib Go.Proofs.YtpdikfmdnlhllaaW.PrintWords Go.Proofs.YtpdikfmdnlhllaaW.PrintLast Go.Proofs.YtpdikfmdnlhllaaW.PrintMore Byte Sl Arr Mem Gives ArrEq
set_option linter.unusedVariables false
set_option linter.unusedSimpArgs false
set_option maxHeartbeats 4000000
set_option maxRecDepth 100000
theorem ginv_c (a : BitVec 8) : GivesB 103 #[.int .u8 (I8 a)] (.int .u8 (I8 (GfMath.pow a 254))) := Gives.b fun w => gf_Inv.calls 100 _ _ w (GfE.Inv_eq a 100 (by decide))
theorem in_mul_units : ∀ i j : Fin 8, app inR (GfMath.mul (TowMath.unit8 i.val) (TowMath.unit8 j.val)) = TowMath.tmul (app inR (TowMath.unit8 i.val)) (app inR (TowMath.unit8 j.val)) := by decide +kernel
theorem in_mul (a b : BitVec 8) : app inF (GfMath.mul a b) = TowMath.tmul (app inF a) (app inF b) := by
  rw [in_app, in_app, in_app]
  refine TowMath.lin_ext (F := fun a => app inR (GfMath.mul a b)) (G := fun a => TowMath.tmul (app inR a) (app inR b)) (fun x y => by simp only [GfMath.mul_left, app_xor]) (fun x y => by simp only [app_xor, TowMath.xor_tmul]) (fun i hi => ?_) a
  refine TowMath.lin_ext (F := fun b => app inR (GfMath.mul (TowMath.unit8 i) b)) (G := fun b => TowMath.tmul (app inR (TowMath.unit8 i)) (app inR b)) (fun x y => by simp only [GfMath.mul_right, app_xor]) (fun x y => by simp only [app_xor, TowMath.tmul_xor]) (fun j hj => ?_) b
  exact in_mul_units ⟨i, hi⟩ ⟨j, hj⟩
theorem in_one : app inF 1#8 = 1#8 := by rw [in_app]; decide +kernel
theorem g_inv (a : BitVec 8) (h : a ≠ 0#8) : GfMath.mul a (GfMath.pow a 254) = 1#8 := by
  obtain ⟨e, _, rfl⟩ := GfMath.is_pow a h
  rw [GfMath.mul_comm]
  show GfMath.pow (GfMath.pow 3#8 e) 255 = 1#8
  rw [← GfMath.pow_mul, Nat.mul_comm, GfMath.pow_mul, GfMath.pow_255, GfMath.one_pow]
theorem in_inv (a : BitVec 8) : app inF (GfMath.pow a 254) = TowMath.tinv (app inF a) := by
  by_cases h : a = 0#8
  · subst h
    rw [show GfMath.pow 0#8 254 = 0#8 from GfMath.zero_pow 253, app_zero, TowMath.tinv_zero]
  · exact TowMath.tinv_uniq _ _ (by rw [← in_mul, g_inv a h, in_one])
end Go.Proofs.Ytpdikfmdnlhllaa.Mat
namespace Go.Proofs.Ytpdikfmdnlhllaa.OnceBox
open Go.RowKit Go.Proofs.YtpdikfmdnlhllaaW.PrintWords Go.Proofs.YtpdikfmdnlhllaaW.PrintLast Go.Proofs.YtpdikfmdnlhllaaW.PrintMore Once
set_option linter.unusedVariables false
set_option linter.unusedSimpArgs false
set_option maxHeartbeats 4000000
set_option maxRecDepth 100000
theorem slow_c (g off : Nat) (p : Value) (Post : World → Prop) (w : World) (h0 : w.cell? ⟨g, off, none⟩ = some (.int .u32 0)) (h1 : w.cell? ⟨g, off + 1, none⟩ = some (.int .i32 0))
    (f0 : w.frozen? ⟨g, off, none⟩ = false) (f1 : w.frozen? ⟨g, off + 1, none⟩ = false)
    (hcall : Calls Try.prog 98 #[p] (w.setCell ⟨g, off + 1, none⟩ (.int .i32 1)) fun e w' => e = .returned (.tuple #[]) ∧ Post w')
    (hP : ∀ w', Post w' → w'.cell? ⟨g, off, none⟩ = some (.int .u32 0) ∧ w'.cell? ⟨g, off + 1, none⟩ = some (.int .i32 1) ∧ w'.frozen? ⟨g, off, none⟩ = false ∧ w'.frozen? ⟨g, off + 1, none⟩ = false) :
    Calls Try.prog 100 #[.pointer (some ⟨g, off, none⟩), .func (.func 98) #[p] #[]] w fun e w' => e = .returned (.tuple #[]) ∧ ∃ w2, Post w2 ∧ w' = (w2.drew.setCell ⟨g, off, none⟩ (.int .u32 1)).setCell ⟨g, off + 1, none⟩ (.int .i32 0) := by
  have hl := run_call_load (P := Try.prog) Try.func109 (by kernel_rfl) (by kernel_rfl) (by kernel_rfl) .u32 (by kernel_rfl) (w := w.setCell ⟨g, off + 1, none⟩ (.int .i32 1)) (a := ⟨g, off, none⟩) (x := 0) ((World.cell?_setCell_other _ ⟨g, off + 1, none⟩ ⟨g, off, none⟩ _ (by simp)).trans h0)
  have hnot : ∀ (x : Bool) (w : World), (Op.unary .not (.bool x)).run Try.prog w = .ok (.bool (!x)) w := fun _ _ => rfl
  have HC := Aside0.mk hcall
  clear hcall
  go_enter_defers Try.func100, Try.ntmps100
  go_wp2_with (first
    | (go_at_call 110; refine (lock_free ⟨g, off + 1, none⟩ _ (by go_simp) (by go_simp)).mono ?_; rintro e w' ⟨rfl, rfl⟩)
    | (go_at_call 98; refine HC.out.mono ?_; rintro e w2 ⟨rfl, hw2⟩)
    | (go_at_call 99; go_in))
  have hp := hP w2 hw2
  refine leaves_cons (f := 112) (args := #[.pointer (some ⟨g, off, none⟩), .bool true]) (by simp) (by simp [go_sem]) ?_
  refine (store_deferred ⟨g, off, none⟩ (.int .u32 0) .returning _ hp.1 hp.2.2.1).mono ?_
  rintro e u' w'' ⟨rfl, rfl, rfl⟩
  refine leaves_cons (f := 111) (args := #[.pointer (some ⟨g, off + 1, none⟩)]) (by simp [settle]) (by simp [go_sem]) ?_
  refine (unlock_deferred ⟨g, off + 1, none⟩ _ _ ?_ (by simp [hp.2.2.2])).mono ?_
  · refine (World.cell?_setCell_other _ ⟨g, off, none⟩ ⟨g, off + 1, none⟩ _ (by simp)).trans ?_
    rw [World.cell?_drew]
    exact hp.2.1
  rintro e u' w'' ⟨rfl, rfl, rfl⟩
  simp [Leaves, settle, results, Try.results100]
  exact ⟨w2, hw2, rfl⟩
theorem do_first (g off : Nat) (p : Value) (Post : World → Prop) (w : World) (h0 : w.cell? ⟨g, off, none⟩ = some (.int .u32 0)) (h1 : w.cell? ⟨g, off + 1, none⟩ = some (.int .i32 0))
    (f0 : w.frozen? ⟨g, off, none⟩ = false) (f1 : w.frozen? ⟨g, off + 1, none⟩ = false)
    (hcall : Calls Try.prog 98 #[p] (w.setCell ⟨g, off + 1, none⟩ (.int .i32 1)) fun e w' => e = .returned (.tuple #[]) ∧ Post w')
    (hP : ∀ w', Post w' → w'.cell? ⟨g, off, none⟩ = some (.int .u32 0) ∧ w'.cell? ⟨g, off + 1, none⟩ = some (.int .i32 1) ∧ w'.frozen? ⟨g, off, none⟩ = false ∧ w'.frozen? ⟨g, off + 1, none⟩ = false) :
    Calls Try.prog 97 #[.pointer (some ⟨g, off, none⟩), .func (.func 98) #[p] #[]] w fun e w' => e = .returned (.tuple #[]) ∧ ∃ w2, Post w2 ∧ w' = (w2.drew.setCell ⟨g, off, none⟩ (.int .u32 1)).setCell ⟨g, off + 1, none⟩ (.int .i32 0) := by
  have hl := run_call_load (P := Try.prog) Try.func109 (by kernel_rfl) (by kernel_rfl) (by kernel_rfl) .u32 (by kernel_rfl) h0
  have hnot : ∀ (x : Bool) (w : World), (Op.unary .not (.bool x)).run Try.prog w = .ok (.bool (!x)) w := fun _ _ => rfl
  have HC := Aside0.mk (slow_c g off p Post w h0 h1 f0 f1 hcall hP)
  clear hcall hP
  go_enter Try.func97, Try.ntmps97
  go_wp2_with (first
    | (go_at_call 100; refine HC.out.mono ?_; rintro e w' ⟨rfl, w2, hw2, rfl⟩)
    | (go_at_call 99; go_in))
  go_end0
  exact ⟨rfl, w2, hw2, rfl⟩
/-- Done already: the function is not called. -/
theorem do_done (a : Addr) (fv : Value) (w : World) (h0 : w.cell? a = some (.int .u32 1)) :
    Calls Try.prog 97 #[.pointer (some a), fv] w fun e w' => e = .returned (.tuple #[]) ∧ w' = w := by
  have hl := run_call_load (P := Try.prog) Try.func109 (by kernel_rfl) (by kernel_rfl) (by kernel_rfl) .u32 (by kernel_rfl) h0
  have hnot : ∀ (x : Bool) (w : World), (Op.unary .not (.bool x)).run Try.prog w = .ok (.bool (!x)) w := fun _ _ => rfl
  go_enter Try.func97, Try.ntmps97
  go_wp2
  go_end0
  exact ⟨rfl, rfl⟩
end Go.Proofs.Ytpdikfmdnlhllaa.OnceBox
namespace Go.Proofs.Ytpdikfmdnlhllaa.Mat
open Go.RowKit Byte
set_option linter.unusedVariables false
set_option maxRecDepth 100000
def bendF : Rows := fun i => BitVec.ofNat 8 ([241, 227, 199, 143, 31, 62, 124, 248].getD i 0)
/-- The bend, turned back. -/
def straightF : Rows := fun i => BitVec.ofNat 8 ([164, 73, 146, 37, 74, 148, 41, 82].getD i 0)
theorem bend_straight_units : ∀ j : Fin 8, app bendF (app straightF (1#8 <<< j.val)) = 1#8 <<< j.val := by decide +kernel
theorem straight_bend_units : ∀ j : Fin 8, app straightF (app bendF (1#8 <<< j.val)) = 1#8 <<< j.val := by decide +kernel
theorem bend_straight (y : BitVec 8) : app bendF (app straightF y) = y :=
  app_of_units (F := fun y => app bendF (app straightF y)) (fun x y => by simp only [app_xor]) (fun j hj => bend_straight_units ⟨j, hj⟩) y
theorem straight_bend (y : BitVec 8) : app straightF (app bendF y) = y :=
  app_of_units (F := fun y => app straightF (app bendF y)) (fun x y => by simp only [app_xor]) (fun j hj => straight_bend_units ⟨j, hj⟩) y
theorem bend_rank : rank bendF = 8 := rank_full _ fun y => ⟨app straightF y, bend_straight y⟩
theorem inv_bend {g : Rows} {ok : Bool} (h : InvOf bendF g ok) : cells8 g = cells8 straightF := by
  have e : ok = true := h.full.2 bend_rank
  refine cells8_congr (rows_of_app fun y => ?_)
  have := (h.back e (app straightF y)).1
  rwa [bend_straight] at this
def ginv (a : BitVec 8) : BitVec 8 := GfMath.pow a 254
theorem ginv_tower (a : BitVec 8) : ginv a = app outF (TowMath.tinv (app inF a)) := by
  unfold ginv
  rw [← in_inv, out_in]
theorem tinv_tinv : ∀ a, TowMath.tinv (TowMath.tinv a) = a := by decide +kernel
theorem ginv_ginv (a : BitVec 8) : ginv (ginv a) = a := by
  rw [ginv_tower (ginv a), ginv_tower a, in_out, tinv_tinv, out_in]
/-- What a byte is substituted by. -/
def subB (x : BitVec 8) : BitVec 8 := app bendF (ginv x) ^^^ 99#8
/-- What it was substituted for. -/
def backB (y : BitVec 8) : BitVec 8 := ginv (app straightF (y ^^^ 99#8))
theorem back_sub (x : BitVec 8) : backB (subB x) = x := by
  unfold backB subB
  rw [xor_cancel, straight_bend, ginv_ginv]
theorem sub_back (y : BitVec 8) : subB (backB y) = y := by
  unfold backB subB
  rw [ginv_ginv, bend_straight, xor_cancel]
def subR (x : BitVec 8) : BitVec 8 := app bendF (app outF (TowMath.tinv (app inR x))) ^^^ 99#8
theorem subB_R (x : BitVec 8) : subB x = subR x := by
  unfold subB subR
  rw [ginv_tower, in_app]
theorem sub_0 : subB 0#8 = 99#8 := by rw [subB_R]; decide +kernel
end Go.Proofs.Ytpdikfmdnlhllaa.Mat
namespace Go.Proofs.Ytpdikfmdnlhllaa.Mat
open Go.RowKit Go.Proofs.Ytpdikfmdnlhllaa.PNib Go.Proofs.YtpdikfmdnlhllaaW.PrintWords Go.Proofs.YtpdikfmdnlhllaaW.PrintLast Go.Proofs.YtpdikfmdnlhllaaW.PrintMore Byte Sl Arr Mem Gives ArrEq
set_option linter.unusedVariables false
set_option linter.unusedSimpArgs false
set_option maxHeartbeats 4000000
set_option maxRecDepth 100000
def kk (q : Nat) : Nat := [0, 4, 5, 6, 7].getD q 0
def kks : List Int := [0, 4, 5, 6, 7]
theorem kk_lt : ∀ q : Fin 5, kk q.val < 8 ∧ kks.getD q.val 0 = (kk q.val : Int) := by decide +kernel
def br (i : Nat) : Nat → BitVec 8
  | 0 => 0#8
  | q + 1 => br i q ||| 1#8 <<< ((i + kk q) % 8)
def brTo (i q : Nat) : Rows := fun k => if k < i then br k 5 else if k = i then br i q else 0#8
theorem brTo_zero : cells8 (brTo 0 0) = cells8 zrow := cells8_congr fun k _ => by
  unfold brTo
  rw [if_neg (by omega)]
  split <;> rfl
theorem brTo_next (i : Nat) : cells8 (brTo i 5) = cells8 (brTo (i + 1) 0) := cells8_congr fun k _ => by
  unfold brTo
  by_cases h : k < i
  · rw [if_pos h, if_pos (by omega)]
  · by_cases h2 : k = i
    · subst h2; rw [if_neg h, if_pos rfl, if_pos (by omega)]
    · rw [if_neg h, if_neg h2, if_neg (by omega)]
      split <;> rfl
theorem brTo_end : cells8 (brTo 8 0) = cells8 bendF := cells8_congr fun k hk => by
  have : ∀ k : Fin 8, br k.val 5 = bendF k.val := by decide +kernel
  unfold brTo
  rw [if_pos hk]
  exact this ⟨k, hk⟩
theorem brTo_at (i q : Nat) : brTo i q i = br i q := by
  unfold brTo
  rw [if_neg (by omega), if_pos rfl]
theorem brTo_set (i q : Nat) (hi : i < 8) : (cells8 (brTo i q)).set i (I8 (br i q ||| 1#8 <<< ((i + kk q) % 8))) = cells8 (brTo i (q + 1)) := by
  rw [cells8_set _ _ hi]
  refine put_congr fun k _ => ?_
  unfold brTo
  by_cases h : k = i
  · subst h
    rw [if_pos rfl, if_neg (by omega), if_pos rfl]; rfl
  · rw [if_neg h]
    by_cases h2 : k < i
    · rw [if_pos h2, if_pos h2]
    · rw [if_neg h2, if_neg h, if_neg h2, if_neg h]
theorem bend_c : GivesB 101 #[] (.agg (cellsOf .u8 (cells8 bendF))) := by
  intro w
  have M1 := Aside0.mk (Mem.alloc (Mem.new .u8 w 113 (cells8 zrow)) (.cells (cellsOf .u8 (cells8 zrow)) 113))
  have M2 := Aside0.mk (Mem.new2 .u8 w (.cells (cellsOf .u8 (cells8 zrow)) 113) 113 (cells8 zrow))
  have HB := Aside0.mk (below_alloc (below_alloc (Below.refl w.heap.size w) (.cells (cellsOf .u8 (cells8 zrow)) 113)) (.cells (cellsOf .u8 (cells8 zrow)) 113))
  go_enter Try.func101, Try.ntmps101
  go_wp2
  go_loopg [5] 8 (fun kq iv w' => ∃ i : Nat, i + kq = 8 ∧ iv = .int .i64 i ∧ Aside0 (Mem .u8 w' w.heap.size 113 (cells8 zrow)) ∧ Aside0 (Mem .u8 w' (w.heap.size + 1) 113 (cells8 (brTo i 0))) ∧ Aside0 (Below w.heap.size w w'))
  case atStart => exact ⟨0, by omega, rfl, M1, ⟨by rw [brTo_zero]; exact M2.out⟩, HB⟩
  case round =>
    clear M1 M2 HB
    obtain ⟨i, hi, rfl, M1, M2, HB⟩ := hrel
    cases gk with
    | zero =>
      obtain rfl : i = 8 := by omega
      rw [brTo_end] at M2
      go_wp2_with (first
        | ((with_reducible refine gate_dst (N := 26) rfl ?_); refine Mem.load M2.out rfl 113 (.tmp 1) rfl rfl Try.underlying113 (by rw [cells8_length]; exact info_mat) ?_)
        | ((with_reducible refine gate_store (t := 113) (p := 0) rfl ?_); refine Mem.store (l' := cells8 bendF) M1.out rfl 113 (.tmp 0) (.tmp 26) rfl rfl rfl (by rw [cells8_length]; exact info_mat) (by simp only [cells8_length]) ?_))
      refine bodyPost_ret (v := .agg (cellsOf .u8 (cells8 (bendF)))) (results_cell_row rfl _ _ _ _ _ _ _ rfl (Mem.put M1.out (cells8 (bendF))) Try.underlying113 rfl (by rw [cellsOf_size, cells8_length]; exact info_mat)) rfl ⟨rfl, below_setRow HB.out (by omega) _⟩
    | succ k1 =>
      have hil : i < 8 := by omega
      have HI := Aside0.mk hi
      clear hi
      have hi1 : (i : Int) < 8 := by omega
      have hi3 : (0 : Int) ≤ (i : Int) := by omega
      have hg2 := M2.out.lt
      have HS := HB.out.size
      have N1 := Aside0.mk (Mem.alloc M1.out (.cells (cellsOf .i64 kks) 3))
      have N2 := Aside0.mk (Mem.alloc M2.out (.cells (cellsOf .i64 kks) 3))
      have N5 := Aside0.mk (Mem.new .i64 wr 3 kks)
      have NB := Aside0.mk (below_alloc HB.out (.cells (cellsOf .i64 kks) 3))
      obtain ⟨b5, hb5⟩ : ∃ b, b = wr.heap.size := ⟨_, rfl⟩
      go_wp2
      rw [← hb5] at N5 ⊢
      have HG5 := Aside0.mk (show w.heap.size + 1 < b5 by omega)
      clear hb5
      go_loopg [10] 5 (fun kq qv w' => ∃ q : Nat, q + kq = 5 ∧ qv = .int .i64 q ∧ Aside0 (Mem .u8 w' w.heap.size 113 (cells8 zrow)) ∧ Aside0 (Mem .u8 w' (w.heap.size + 1) 113 (cells8 (brTo i q))) ∧ Aside0 (Mem .i64 w' b5 3 kks) ∧ Aside0 (Below w.heap.size w w'))
      case atStart => exact ⟨0, by omega, rfl, N1, N2, N5, NB⟩
      case round =>
        clear N1 N2 N5 NB M1 M2 HB
        obtain ⟨q, hq, rfl, M1, M2, M5, HB⟩ := hrel
        cases gk with
        | zero =>
          obtain rfl : q = 5 := by omega
          go_wp2
          go_roundg k1
          case measure => omega
          case rel => exact ⟨i + 1, by have := HI.out; omega, by go_num, M1, ⟨by rw [← brTo_next]; exact M2.out⟩, HB⟩
        | succ k2 =>
          have hql : q < 5 := by omega
          have HQ := Aside0.mk hq
          clear hq
          have hq1 : (q : Int) < 5 := by omega
          have hq3 : (0 : Int) ≤ (q : Int) := by omega
          have hk := kk_lt ⟨q, hql⟩
          have hc := M5.out.cell q hql
          rw [show kks.getD q 0 = (kk q : Int) from hk.2] at hc
          have hx := M2.out.cell i (by rw [cells8_length]; exact hil)
          rw [cells8_get _ _ hil, brTo_at] at hx
          have hf := M2.out.free i
          have hkl : kk q < 8 := hk.1
          obtain ⟨d, hd⟩ : ∃ d, d = (i + kk q) % 8 := ⟨_, rfl⟩
          have HV := brTo_set i q hil
          rw [← hd] at HV
          obtain ⟨sm, hsm⟩ : ∃ sm, sm = i + kk q := ⟨_, rfl⟩
          have f1 : IntKind.i64.wrap ((i : Int) + (kk q : Int)) = (sm : Int) := by rw [IntKind.wrap_i64]; omega
          have f2 : Int.tmod (sm : Int) 8 = (d : Int) := by rw [Int.tmod_eq_emod_of_nonneg (by omega)]; omega
          have f3 : (sm : Int) % 8 = (d : Int) := by omega
          have hd8 : d < 8 := by omega
          have hd1 : (d : Int) ≤ 8 := by omega
          have hd3 : (0 : Int) ≤ (d : Int) := by omega
          have hs := shl1 d
          have ho := or8 (br i q) (1#8 <<< d)
          rw [← ho, ← hs] at HV
          have HV := Aside0.mk HV
          clear hd hsm hk ho hs
          generalize kk q = kq at *
          generalize br i q = row at *
          go_wp2
          refine start_ (n := 11) (S := fun w' => w'.cell? ⟨w.heap.size + 1, i, none⟩ = some (.int .u8 (I8 row))) (ds := [10]) #[false, false, false, false, false, false, false, false, false, false, false] (by kernel_rfl) rfl rfl (hx) (fun hHeld => ?_)
          refine pure_ (i := 0) (N := some 14) (v := ?_) (a' := ?_) #[true, false, false, false, false, false, false, false, false, false, false] rfl rfl (by kernel_rfl) (fun _ _ _ h => h) (Or.inl ⟨by rfl, ?_⟩) ?_ ?_
          rotate_left
          · intro w'
            go_simp
            with_reducible rfl
          rotate_left
          · simp only [Act.put, List.setIfInBounds_toArray, List.set_cons_zero, List.set_cons_succ, i64_w, i32_w]
            rfl
          refine pure_ (i := 1) (N := some 15) (v := ?_) (a' := ?_) #[true, true, false, false, false, false, false, false, false, false, false] rfl rfl (by kernel_rfl) (fun _ _ _ h => h) (Or.inl ⟨by rfl, ?_⟩) ?_ ?_
          rotate_left
          · intro w'
            go_simp
            with_reducible rfl
          rotate_left
          · simp only [Act.put, List.setIfInBounds_toArray, List.set_cons_zero, List.set_cons_succ, i64_w, i32_w]
            rfl
          refine pure_ (i := 3) (N := some 17) (v := ?_) (a' := ?_) #[true, true, false, true, false, false, false, false, false, false, false] rfl rfl (by kernel_rfl) (fun _ _ _ h => h) (Or.inl ⟨by rfl, ?_⟩) ?_ ?_
          rotate_left
          · intro w'
            go_simp
            with_reducible rfl
          rotate_left
          · simp only [Act.put, List.setIfInBounds_toArray, List.set_cons_zero, List.set_cons_succ, i64_w, i32_w]
            rfl
          refine pure_ (i := 4) (N := some 18) (v := ?_) (a' := ?_) #[true, true, false, true, true, false, false, false, false, false, false] rfl rfl (by kernel_rfl) (fun _ _ _ h => h) (Or.inl ⟨by rfl, ?_⟩) ?_ ?_
          rotate_left
          · intro w'
            go_simp
            with_reducible rfl
          rotate_left
          · simp only [Act.put, List.setIfInBounds_toArray, List.set_cons_zero, List.set_cons_succ, i64_w, i32_w]
            rfl
          refine pure_ (i := 5) (N := some 19) (v := ?_) (a' := ?_) #[true, true, false, true, true, true, false, false, false, false, false] rfl rfl (by kernel_rfl) (fun _ _ _ h => h) (Or.inl ⟨by rfl, ?_⟩) ?_ ?_
          rotate_left
          · intro w'
            go_simp
            with_reducible rfl
          rotate_left
          · simp only [Act.put, List.setIfInBounds_toArray, List.set_cons_zero, List.set_cons_succ, i64_w, i32_w]
            rfl
          refine pure_ (i := 6) (N := some 20) (v := ?_) (a' := ?_) #[true, true, false, true, true, true, true, false, false, false, false] rfl rfl (by kernel_rfl) (fun _ _ _ h => h) (Or.inl ⟨by rfl, ?_⟩) ?_ ?_
          rotate_left
          · intro w'
            go_simp
            with_reducible rfl
          rotate_left
          · simp only [Act.put, List.setIfInBounds_toArray, List.set_cons_zero, List.set_cons_succ, i64_w, i32_w]
            rfl
          refine pure_ (i := 7) (N := some 21) (v := ?_) (a' := ?_) #[true, true, false, true, true, true, true, true, false, false, false] rfl rfl (by kernel_rfl) (fun _ _ _ h => h) (Or.inl ⟨by rfl, ?_⟩) ?_ ?_
          rotate_left
          · intro w'
            go_simp
            with_reducible rfl
          rotate_left
          · simp only [Act.put, List.setIfInBounds_toArray, List.set_cons_zero, List.set_cons_succ, i64_w, i32_w]
            rfl
          refine take_ (i := 2) (N := some 16) (v := ?_) (a' := ?_) #[true, true, true, true, true, true, true, true, false, false, false] rfl rfl (by kernel_rfl) (fun _ _ _ h => h) (Or.inl ⟨by rfl, ?_⟩) hHeld ?_ ?_
          rotate_left
          · intro w' s0
            go_simp
            with_reducible rfl
          rotate_left
          · simp only [Act.put, List.setIfInBounds_toArray, List.set_cons_zero, List.set_cons_succ, i64_w, i32_w]
            rfl
          refine pure_ (i := 8) (N := some 22) (v := ?_) (a' := ?_) #[true, true, true, true, true, true, true, true, true, false, false] rfl rfl (by kernel_rfl) (fun _ _ _ h => h) (Or.inl ⟨by rfl, ?_⟩) ?_ ?_
          rotate_left
          · intro w'
            go_simp
            with_reducible rfl
          rotate_left
          · simp only [Act.put, List.setIfInBounds_toArray, List.set_cons_zero, List.set_cons_succ, i64_w, i32_w]
            rfl
          refine pure_ (i := 9) (N := some 23) (v := ?_) (a' := ?_) #[true, true, true, true, true, true, true, true, true, true, false] rfl rfl (by kernel_rfl) (fun _ _ _ h => h) (Or.inl ⟨by rfl, ?_⟩) ?_ ?_
          rotate_left
          · intro w'
            go_simp
            with_reducible rfl
          rotate_left
          · simp only [Act.put, List.setIfInBounds_toArray, List.set_cons_zero, List.set_cons_succ, i64_w, i32_w]
            rfl
          refine last_ (i := 10) (N := none) #[true, true, true, true, true, true, true, true, true, true, true] rfl rfl (by kernel_rfl) (by decide) (fun K hK => ?_)
          refine skip_ (w1 := ?_) (by rfl) rfl ?_ ?_
          rotate_left
          · go_simp
            rfl
          refine hK.out _ _ ?_
          clear hK K
          refine done_ (by kernel_rfl) ?_
          go_wp2
          go_roundg k2
          case measure => omega
          case rel => exact ⟨q + 1, by have := HQ.out; omega, by go_num, ⟨Mem.drew (Mem.other M1.out (g' := w.heap.size + 1) (by omega) _ _)⟩, ⟨by rw [← HV.out]; exact Mem.drew (Mem.set M2.out _ _)⟩, ⟨Mem.drew (Mem.other M5.out (g' := w.heap.size + 1) (by have := HG5.out; omega) _ _)⟩, ⟨below_drew (below_set HB.out (by omega))⟩⟩
end Go.Proofs.Ytpdikfmdnlhllaa.Mat
namespace Go.Proofs.Ytpdikfmdnlhllaa.Mat
open Go.RowKit Go.Proofs.Ytpdikfmdnlhllaa.PNib Go.Proofs.YtpdikfmdnlhllaaW.PrintWords Go.Proofs.YtpdikfmdnlhllaaW.PrintLast Go.Proofs.YtpdikfmdnlhllaaW.PrintMore Byte Sl Arr Mem Gives ArrEq
set_option linter.unusedVariables false
set_option linter.unusedSimpArgs false
set_option maxHeartbeats 4000000
set_option maxRecDepth 100000
def bx (F : Nat → Value) : Array Value := ((List.range 547).map F).toArray
theorem bx_size (F : Nat → Value) : (bx F).size = 547 := by simp [bx]
theorem bx_get (F : Nat → Value) (k : Nat) (h : k < 547) : (bx F)[k]? = some (F k) := by simp [bx, h]
def upd (F : Nat → Value) (k : Nat) (v : Value) : Nat → Value := fun j => if j = k then v else F j
theorem bx_set (F : Nat → Value) (k : Nat) (v : Value) : (bx F).setIfInBounds k v = bx (upd F k v) := by
  refine Array.ext_getElem? fun j => ?_
  rw [Array.getElem?_setIfInBounds, bx_size]
  rcases Nat.lt_or_ge j 547 with hj | hj
  · rw [bx_get _ _ hj, bx_get _ _ hj]
    unfold upd
    by_cases e : k = j
    · subst e; simp [hj]
    · simp [e, Ne.symm e]
  · rw [Array.getElem?_eq_none (by rw [bx_size]; exact hj), Array.getElem?_eq_none (by rw [bx_size]; exact hj)]
    split <;> simp
    omega
def BAt (w : World) (g : Nat) (F : Nat → Value) : Prop := w.heap[g]? = some (.cells (bx F) 116 (0, 0))
section
variable {w : World} {g : Nat} {F : Nat → Value}
theorem BAt.lt (h : BAt w g F) : g < w.heap.size := (Array.getElem?_eq_some_iff.1 h).1
theorem BAt.below (h : BAt w g F) {w' : World} (hb : Below w.heap.size w w') : BAt w' g F := (hb.block g h.lt).trans h
theorem BAt.free (h : BAt w g F) (j : Nat) : w.frozen? ⟨g, j, none⟩ = false := by
  unfold World.frozen?
  rw [h]
  simp
theorem BAt.cell (h : BAt w g F) (j : Nat) (hj : j < 547) : w.cell? ⟨g, j, none⟩ = some (F j) := by
  rw [cell_of_row w g j _ _ _ h, bx_get _ _ hj]
theorem BAt.set (h : BAt w g F) (j : Nat) (v : Value) : BAt (w.setCell ⟨g, j, none⟩ v) g (upd F j v) := by
  have hlt := h.lt
  unfold BAt at h ⊢
  rw [Array.getElem?_eq_getElem hlt] at h
  have h0 := Option.some.inj h
  show (w.heap.modify g _)[g]? = _
  rw [Array.getElem?_modify, if_pos rfl, Array.getElem?_eq_getElem hlt, h0, ← bx_set]
  rfl
theorem BAt.other (h : BAt w g F) {g' : Nat} (hne : g' ≠ g) (j : Nat) (v : Value) : BAt (w.setCell ⟨g', j, none⟩ v) g F := by
  unfold BAt at h ⊢
  show (w.heap.modify g' _)[g]? = _
  rw [Array.getElem?_modify, if_neg hne]; exact h
theorem BAt.row (h : BAt w g F) {g' : Nat} (hne : g' ≠ g) (cs : Array Value) : BAt (w.setRow g' cs) g F := by
  unfold BAt at h ⊢
  rw [setRow_other w g' g cs (Ne.symm hne)]; exact h
def updL (F : Nat → Value) : Nat → List Value → Nat → Value
  | _, [] => F
  | o, v :: vs => updL (upd F o v) (o + 1) vs
theorem BAt.sets : ∀ (vs : List Value) (o : Nat) (w : World) (F : Nat → Value), BAt w g F → BAt (w.setCells g o vs) g (updL F o vs)
  | [], _, _, _, h => h
  | v :: vs, o, w, F, h => BAt.sets vs (o + 1) _ _ (h.set o v)
theorem updL_out : ∀ (vs : List Value) (o : Nat) (F : Nat → Value) (k : Nat), (k < o ∨ o + vs.length ≤ k) → updL F o vs k = F k
  | [], _, _, _, _ => rfl
  | v :: vs, o, F, k, h => by
    rw [List.length_cons] at h
    rw [updL, updL_out vs (o + 1) _ k (by omega)]
    unfold upd
    rw [if_neg (by omega)]
theorem updL_in : ∀ (vs : List Value) (o : Nat) (F : Nat → Value) (j : Nat) (v : Value), vs[j]? = some v → updL F o vs (o + j) = v
  | [], _, _, _, _, h => by simp at h
  | u :: vs, o, F, 0, v, h => by
    rw [updL, updL_out vs (o + 1) _ (o + 0) (by omega)]
    unfold upd
    rw [Nat.add_zero, if_pos rfl]
    simpa using h
  | u :: vs, o, F, j + 1, v, h => by
    rw [updL, show o + (j + 1) = (o + 1) + j by omega]
    exact updL_in vs (o + 1) _ j v (by simpa using h)
theorem BAt.range (h : BAt w g F) (o : Nat) (cs : List Value) (hl : o + cs.length ≤ 547) (he : ∀ j v, cs[j]? = some v → F (o + j) = v) : w.rangeAt g o cs := fun j v hv => by
  have hj := (List.getElem?_eq_some_iff.1 hv).1
  rw [h.cell (o + j) (by omega), he j v hv]
theorem BAt.there (h : BAt w g F) (o n : Nat) (hn : o + n ≤ 547) : w.there g o n := fun j hj => ⟨by rw [h.cell (o + j) (by omega)]; rfl, h.free (o + j)⟩
end
def F0 : Nat → Value := fun k => if k = 0 ∨ k = 2 then .int .u32 0 else if k = 1 then .int .i32 0 else .int .u8 0
theorem newbox_c (w : World) : Calls Try.prog 66 #[] w fun e w' => ∃ g, e = .returned (.pointer (some ⟨g, 0, none⟩)) ∧ w.heap.size ≤ g ∧ BAt w' g F0 ∧ Below w.heap.size w w' := by
  go_enter Try.func66, Try.ntmps66
  go_wp2
  go_ret
  refine ⟨w.heap.size, rfl, Nat.le_refl _, ?_, below_alloc (Below.refl _ _) _⟩
  show (w.heap.push _)[w.heap.size]? = _
  rw [Array.getElem?_push_size]
  kernel_rfl
end Go.Proofs.Ytpdikfmdnlhllaa.Mat
namespace Go.Proofs.Ytpdikfmdnlhllaa.Mat
open Go.RowKit Go.Proofs.Ytpdikfmdnlhllaa.PNib Go.Proofs.YtpdikfmdnlhllaaW.PrintWords Go.Proofs.YtpdikfmdnlhllaaW.PrintLast Go.Proofs.YtpdikfmdnlhllaaW.PrintMore Byte Sl Arr Mem Gives ArrEq
set_option linter.unusedVariables false
set_option linter.unusedSimpArgs false
set_option maxHeartbeats 4000000
set_option maxRecDepth 100000
theorem Ch.row' {g b : Nat} {w w' : World} (h : Ch g w w') (hb : w.heap.size ≤ b) (cs : Array Value) : Ch g w (w'.setRow b cs) :=
  ⟨h.os, h.tape, h.output, by rw [setRow_size]; exact h.size, fun k hk hne => (setRow_other _ b k _ (by omega)).trans (h.block k hk hne)⟩
theorem Ch.far {g b : Nat} {w w' w2 : World} (h : Ch g w w') (hb : w.heap.size ≤ b) (k : Ch b w' w2) : Ch g w w2 :=
  ⟨k.os.trans h.os, k.tape.trans h.tape, k.output.trans h.output, Nat.le_trans h.size k.size, fun i hi hne => (k.block i (Nat.lt_of_lt_of_le hi h.size) (fun e => by have := Option.some.inj e; omega)).trans (h.block i hi hne)⟩
theorem Ch.step {g : Nat} {w w' w2 : World} (h : Ch g w w') (hb : Below w'.heap.size w' w2) : Ch g w w2 := h.trans (Ch.of_below hb)
theorem upd_at (F : Nat → Value) (k : Nat) (v : Value) : upd F k v k = v := by simp [upd]
theorem upd_ne (F : Nat → Value) (k j : Nat) (v : Value) (h : j ≠ k) : upd F k v j = F j := by simp [upd, h]
/-- The tables, as far as they are filled. -/
structure Upto (F0' F : Nat → Value) (x : Nat) : Prop where
  z0 : F 0 = F0' 0
  z1 : F 1 = F0' 1
  sub : ∀ n, n < x → F (3 + n) = .int .u8 (I8 (subB (byt n)))
  back : ∀ n, n < x → F (259 + (subB (byt n)).toNat) = .int .u8 (n : Int)
theorem Upto.next {F0' F : Nat → Value} {x : Nat} (h : Upto F0' F x) (hx : x < 256) : Upto F0' (upd (upd F (3 + x) (.int .u8 (I8 (subB (byt x))))) (259 + (subB (byt x)).toNat) (.int .u8 (x : Int))) (x + 1) where
  z0 := by rw [upd_ne _ _ _ _ (by omega), upd_ne _ _ _ _ (by omega)]; exact h.z0
  z1 := by rw [upd_ne _ _ _ _ (by omega), upd_ne _ _ _ _ (by omega)]; exact h.z1
  sub n hn := by
    have := (subB (byt x)).isLt
    rw [upd_ne _ _ _ _ (by omega)]
    by_cases e : n = x
    · subst e; rw [upd_at]
    · rw [upd_ne _ _ _ _ (by omega)]; exact h.sub n (by omega)
  back n hn := by
    have hs := (subB (byt n)).isLt
    by_cases e : n = x
    · subst e; rw [upd_at]
    · have hne : (subB (byt n)).toNat ≠ (subB (byt x)).toNat := fun h2 => by
        have h3 : subB (byt n) = subB (byt x) := BitVec.eq_of_toNat_eq h2
        have h4 : byt n = byt x := by rw [← back_sub (byt n), h3, back_sub]
        have h5 := toNat_byt n (by omega)
        rw [h4, toNat_byt x hx] at h5
        omega
      rw [upd_ne _ _ _ _ (by omega), upd_ne _ _ _ _ (by omega)]
      exact h.back n (by omega)
theorem cell_yields0 {o : Oper} {a : Act} {w : World} {x y : Operand} {g j : Nat} {old : Value} {v : Int} (hc : w.cell? ⟨g, j, none⟩ = some old) (hf : w.frozen? ⟨g, j, none⟩ = false) (ho : o.op = .store 5 x y) (hx : a.eval x = .pointer (some ⟨g, j, none⟩)) (hy : a.eval y = .int .u8 v) : (execOp a.eval o).run Try.prog w = .ok .skip (w.setCell ⟨g, j, none⟩ (.int .u8 v)) := by
  unfold execOp
  rw [ho]
  simp only [hx, hy]
  go_simp
theorem wp_store_box {ops : Array Oper} {rest : List Oper} {op : Oper} {a : Act} {Q : Exit → Act → World → Prop} {w : World} {g : Nat} {F : Nat → Value} (h : BAt w g F) (j : Nat) (hj : j < 547) (v : Int) (hgd : op.guard = none) (x y : Operand) (ho : op.op = .store 5 x y) (hx : a.eval x = .pointer (some ⟨g, j, none⟩)) (hy : a.eval y = .int .u8 v)
    (hK : wpList Try.prog ops Q rest (a.put op.dst undef) (w.setCell ⟨g, j, none⟩ (.int .u8 v))) : wpList Try.prog ops Q (op :: rest) a w := by
  refine wpList_plain hgd fun K hK' => ?_
  unfold Oper.wp
  rw [cell_yields0 (h.cell j hj) (h.free j) ho hx hy]
  exact hK' _ _ hK
abbrev c8 (f : Rows) : Array Value := cellsOf .u8 (cells8 f)
theorem built4 (f0 f1 f2 f3 : Rows) : Try.prog.built 114 [(0, .agg (c8 f0)), (1, .agg (c8 f1)), (2, .agg (c8 f2)), (3, .agg (c8 f3))] = some (c8 f0 ++ c8 f1 ++ c8 f2 ++ c8 f3) := by kernel_rfl
theorem build4_yields {o : Oper} {a : Act} {w : World} {x0 x1 x2 x3 : Operand} {f0 f1 f2 f3 : Rows} (ho : o.op = .build 114 #[(0, x0), (1, x1), (2, x2), (3, x3)]) (h0 : a.eval x0 = .agg (c8 f0)) (h1 : a.eval x1 = .agg (c8 f1)) (h2 : a.eval x2 = .agg (c8 f2)) (h3 : a.eval x3 = .agg (c8 f3)) : (execOp a.eval o).run Try.prog w = .ok (.value (.agg (c8 f0 ++ c8 f1 ++ c8 f2 ++ c8 f3))) w := by
  unfold execOp
  simp only [ho, Sem.run_bind]
  have e : ((#[(0, x0), (1, x1), (2, x2), (3, x3)] : Array (Nat × Operand)).map fun (i, x) => (i, a.eval x)).toList = [(0, .agg (c8 f0)), (1, .agg (c8 f1)), (2, .agg (c8 f2)), (3, .agg (c8 f3))] := by simp [h0, h1, h2, h3]
  rw [run_build w _ _ _ (by rw [e]; exact built4 f0 f1 f2 f3)]
  rfl
/-- The four ways, one behind the other. -/
def wcells : Array Value := c8 inF ++ c8 (mulF bendF outF) ++ c8 (mulF inF straightF) ++ c8 outF
theorem wcells_size : wcells.size = 32 := by
  unfold wcells c8
  simp [cellsOf_size, cells8_length]
theorem wcells_one : wcells.all (·.oneCell') = true := by
  unfold wcells c8
  simp [cellsOf, Value.oneCell']
theorem info_w4 : (Try.prog.info? 114).map (·.size) = some 32 := by kernel_rfl
theorem box_store_yields {o : Oper} {a : Act} {w : World} {x y : Operand} {g : Nat} {F : Nat → Value} (h : BAt w g F) (ho : o.op = .store 114 x y) (hx : a.eval x = .pointer (some ⟨g, 515, none⟩)) (hy : a.eval y = .agg wcells) : (execOp a.eval o).run Try.prog w = .ok .skip (w.setCells g 515 wcells.toList) := by
  unfold execOp
  simp only [ho, hx, hy, Sem.run_bind, Sem.run_pure, Result.andThen_ok, run_storeAt_mid w g 515 114 wcells (by rw [wcells_size]; exact h.there 515 32 (by omega)) (by rw [wcells_size]; exact info_w4) wcells_one]
/-- The box is full. -/
structure Full (F0' F : Nat → Value) : Prop where
  z0 : F 0 = F0' 0
  z1 : F 1 = F0' 1
  sub : ∀ b : BitVec 8, F (3 + b.toNat) = .int .u8 (I8 (subB b))
  back : ∀ b : BitVec 8, F (259 + b.toNat) = .int .u8 (I8 (backB b))
  ways : ∀ (j : Nat) (v : Value), wcells.toList[j]? = some v → F (515 + j) = v
theorem Upto.full {F0' F : Nat → Value} (h : Upto F0' F 256) : Full F0' (updL F 515 wcells.toList) where
  z0 := by rw [updL_out _ _ _ 0 (.inl (by omega))]; exact h.z0
  z1 := by rw [updL_out _ _ _ 1 (.inl (by omega))]; exact h.z1
  sub b := by
    have hb := b.isLt
    rw [updL_out _ _ _ _ (.inl (by omega)), h.sub b.toNat hb, byt_toNat]
  back b := by
    have hb := b.isLt
    rw [updL_out _ _ _ _ (.inl (by omega))]
    have := h.back (backB b).toNat (backB b).isLt
    rwa [byt_toNat, sub_back] at this
  ways j v hv := updL_in _ _ _ j v hv
theorem FRow.row {w : World} {g : Nat} {cs : Array Value} (h : FRow w g cs) {g' : Nat} (hne : g' ≠ g) (cs' : Array Value) : FRow (w.setRow g' cs') g cs := by
  unfold FRow at h ⊢
  rw [setRow_other w g' g cs' (Ne.symm hne)]; exact h
theorem mem_ch {k : IntKind} {w w' : World} {b g' : Nat} {t : TypeId} {l : List Int} (h : _root_.Go.Proofs.Ytpdikfmdnlhllaa.Mem.Mem k w b t l) (hc : Ch g' w w') (hne : b ≠ g') : _root_.Go.Proofs.Ytpdikfmdnlhllaa.Mem.Mem k w' b t l := (hc.block b (_root_.Go.Proofs.Ytpdikfmdnlhllaa.Mem.Mem.lt h) (fun e => hne (Option.some.inj e))).trans h
theorem BAt.ch {w w' : World} {g g' : Nat} {F : Nat → Value} (h : BAt w g F) (hc : Ch g' w w') (hne : g ≠ g') : BAt w' g F := (hc.block g h.lt (fun e => hne (Option.some.inj e))).trans h
theorem FAt.below {w w' : World} {g : Nat} {d s : Int} {i o : Rows} (h : FAt w g d s i o) (hb : Below w.heap.size w w') : FAt w' g d s i o := FRow.below h hb
theorem gx_c (x : Nat) (hx : x < 256) : GivesB 103 #[.int .u8 (x : Int)] (.int .u8 (I8 (ginv (byt x)))) := by
  have := ginv_c (byt x)
  rwa [byt_I8 x hx] at this
theorem fill_c {w : World} {g : Nat} {F : Nat → Value} (h : BAt w g F) : Calls Try.prog 98 #[.pointer (some ⟨g, 0, none⟩)] w fun e w' => e = .returned (.tuple #[]) ∧ ∃ F', Full F F' ∧ BAt w' g F' ∧ Ch g w w' := by
  have H := Aside0.mk h
  have HLT := Aside0.mk h.lt
  have CH := Aside0.mk (Ch.refl (g := g) w)
  have C1 := Aside0.mk bend_c
  clear h
  go_enter Try.func98, Try.ntmps98
  go_wp2_with (first
    | (go_at_call 101; (with_reducible refine (C1.out.q _).mono ?_); rintro e w1 ⟨rfl, hb1⟩; have hs1 := Aside0.mk hb1.size; have H := Aside0.mk (BAt.row (BAt.below (BAt.below H.out hb1) (below_alloc (Below.refl _ _) (.cells (cellsOf .u8 (cells8 zrow)) 113))) (g' := w1.heap.size) (by have := HLT.out; have := hs1.out; omega) (cellsOf .u8 (cells8 bendF))); have Z2 := Aside0.mk (Mem.new .u8 w1 113 (cells8 zrow)); have M2 := Aside0.mk (Mem.put Z2.out (cells8 bendF)); have CH := Aside0.mk (Ch.row' (Ch.step (Ch.step CH.out hb1) (below_alloc (Below.refl _ _) (.cells (cellsOf .u8 (cells8 zrow)) 113))) (b := w1.heap.size) hs1.out (cellsOf .u8 (cells8 bendF))))
    | ((with_reducible refine gate_store (t := 113) (p := 2) rfl ?_); refine Mem.store (l' := cells8 bendF) Z2.out rfl 113 (.tmp 2) (.tmp 8) rfl rfl rfl (by rw [cells8_length]; exact info_mat) (by simp only [cells8_length]) ?_))
  clear Z2
  obtain ⟨b2, hb2⟩ : ∃ b, b = w1.heap.size := ⟨_, rfl⟩
  rw [← hb2] at M2 hs1 H CH
  rw [← hb2]
  have HB2 := Aside0.mk (show w.heap.size ≤ b2 from hs1.out)
  clear hb2
  go_loopg [9] 256 (fun kq xv w' => ∃ (x : Nat) (F' : Nat → Value), x + kq = 256 ∧ xv = .int .i64 x ∧ Aside0 (Upto F F' x) ∧ Aside0 (BAt w' g F') ∧ Aside0 (Mem .u8 w' b2 113 (cells8 bendF)) ∧ Aside0 (Ch g w w'))
  case atStart => exact ⟨0, F, by omega, rfl, ⟨⟨rfl, rfl, fun n hn => absurd hn (by omega), fun n hn => absurd hn (by omega)⟩⟩, H, M2, CH⟩
  case round =>
    clear H M2 CH
    obtain ⟨x, F', hx, rfl, HU, H, M2, CH⟩ := hrel
    cases gk with
    | zero =>
      obtain rfl : x = 256 := by omega
      have HFU := Aside0.mk HU.out.full
      have CN := Aside0.mk new_c
      have CI := Aside0.mk (inv_c bendF)
      rw [matV_eq] at CI
      have HG := Aside0.mk (show b2 ≠ g from fun e => by have := HB2.out; have := HLT.out; omega)
      have HWR := Aside0.mk CH.out.size
      have B2W := Aside0.mk M2.out.lt
      go_wp2_with (first
        | (go_at_call 104; (with_reducible refine (CN.out _).mono ?_); rintro e w2 ⟨gf, rfl, hgf, hF, hb2⟩; have hgf := Aside0.mk hgf; have FH := Aside0.mk hF; have H := Aside0.mk (BAt.below H.out hb2); have M2 := Aside0.mk (Mem.below M2.out hb2); have CH := Aside0.mk (Ch.step CH.out hb2); clear hF hb2)
        | ((with_reducible refine gate_dst (N := 34) rfl ?_); refine Mem.load M2.out rfl 113 (.tmp 2) rfl rfl Try.underlying113 (by rw [cells8_length]; exact info_mat) ?_)
        | (go_at_call 105; (with_reducible refine (CI.out _).mono ?_); rintro e w3 ⟨st, ok, rfl, hI, hb3⟩; have HI := Aside0.mk (inv_bend hI); have hs3 := Aside0.mk hb3.size; have lt2 := Aside0.mk (Nat.lt_of_lt_of_le M2.out.lt hb3.size); have ltf := Aside0.mk (Nat.lt_of_lt_of_le (FRow.lt FH.out) hb3.size); have ltg := Aside0.mk (Nat.lt_of_lt_of_le H.out.lt hb3.size); have H := Aside0.mk (BAt.row (BAt.below (BAt.below H.out hb3) (below_alloc (Below.refl _ _) (.cells (cellsOf .u8 (cells8 zrow)) 113))) (g' := w3.heap.size) (by have := ltg.out; omega) (cellsOf .u8 (cells8 st))); have M2 := Aside0.mk (Mem.row (Mem.alloc (Mem.below M2.out hb3) (.cells (cellsOf .u8 (cells8 zrow)) 113)) (g' := w3.heap.size) (by have := lt2.out; omega) (cellsOf .u8 (cells8 st))); have FH := Aside0.mk (show FAt _ gf 0 0 zrow zrow from FRow.row (FRow.below (FRow.below FH.out hb3) (below_alloc (Below.refl _ _) (.cells (cellsOf .u8 (cells8 zrow)) 113))) (g' := w3.heap.size) (by have := ltf.out; omega) (cellsOf .u8 (cells8 st))); have CH := Aside0.mk (Ch.row' (Ch.step (Ch.step CH.out hb3) (below_alloc (Below.refl _ _) (.cells (cellsOf .u8 (cells8 zrow)) 113))) (b := w3.heap.size) (Nat.le_trans CH.out.size hs3.out) (cellsOf .u8 (cells8 st))); have Z6 := Aside0.mk (Mem.new .u8 w3 113 (cells8 zrow)); have M6 := Aside0.mk (Mem.put Z6.out (cells8 st)); clear hI hb3)
        | ((with_reducible refine gate_store (t := 113) (p := 6) rfl ?_); refine Mem.store (l' := cells8 st) Z6.out rfl 113 (.tmp 6) (.tmp 36) rfl rfl rfl (by rw [cells8_length]; exact info_mat) (by simp only [cells8_length]) ?_))
      show Code.wp Try.prog _ _ _ ((w3.alloc (.cells (cellsOf .u8 (cells8 zrow)) 113)).setRow w3.heap.size (cellsOf .u8 (cells8 st)))
      have hsz := Aside0.mk (show w3.heap.size < ((w3.alloc (.cells (cellsOf .u8 (cells8 zrow)) 113)).setRow w3.heap.size (cellsOf .u8 (cells8 st))).heap.size from Mem.lt M6.out)
      generalize hz : (w3.alloc (.cells (cellsOf .u8 (cells8 zrow)) 113)).setRow w3.heap.size (cellsOf .u8 (cells8 st)) = wz at *
      rw [HI.out] at M6
      obtain ⟨b6, hb6⟩ : ∃ b, b = w3.heap.size := ⟨_, rfl⟩
      have HWF := Aside0.mk (show w.heap.size ≤ gf from Nat.le_trans HWR.out hgf.out)
      rw [← hb6] at M6 ⊢
      clear hz Z6 HI
      have HN2 := Aside0.mk (show b2 ≠ gf from fun e => by have h1 := hgf.out; have h2 := B2W.out; omega)
      have HN6 := Aside0.mk (show b6 ≠ gf from fun e => by have h1 := ltf.out; omega)
      have HNg := Aside0.mk (show g ≠ gf from fun e => by have h1 := HWF.out; have h2 := HLT.out; omega)
      clear hb6
      have C6 := Aside0.mk (mul_c bendF outF)
      have C7 := Aside0.mk (mul_c inF straightF)
      rw [matV_eq, matV_eq, matV_eq] at C6 C7
      have hl0 := mem_loads (Mem.drew M2.out)
      have hl1 := mem_loads (Mem.drew M6.out)
      go_wp2
      refine start_ (n := 17) (S := fun w' => (loadVar 113 ⟨b2, 0, none⟩).run Try.prog w' = .ok (.agg (cellsOf .u8 (cells8 bendF))) w' ∧ (loadVar 113 ⟨b6, 0, none⟩).run Try.prog w' = .ok (.agg (cellsOf .u8 (cells8 straightF))) w') (ds := [16]) #[false, false, false, false, false, false, false, false, false, false, false, false, false, false, false, false, false] (by kernel_rfl) rfl rfl ⟨hl0, hl1⟩ (fun hHeld => ?_)
      refine pure_ (i := 0) (N := some 38) (v := ?_) (a' := ?_) #[true, false, false, false, false, false, false, false, false, false, false, false, false, false, false, false, false] rfl rfl (by kernel_rfl) (fun _ _ _ h => h) (Or.inl ⟨by rfl, ?_⟩) ?_ ?_
      rotate_left
      · intro w'
        go_simp
        with_reducible rfl
      rotate_left
      · simp only [Act.put, List.setIfInBounds_toArray, List.set_cons_zero, List.set_cons_succ, i64_w, i32_w]
        rfl
      refine pure_ (i := 1) (N := some 39) (v := ?_) (a' := ?_) #[true, true, false, false, false, false, false, false, false, false, false, false, false, false, false, false, false] rfl rfl (by kernel_rfl) (fun _ _ _ h => h) (Or.inl ⟨by rfl, ?_⟩) ?_ ?_
      rotate_left
      · intro w'
        go_simp
        with_reducible rfl
      rotate_left
      · simp only [Act.put, List.setIfInBounds_toArray, List.set_cons_zero, List.set_cons_succ, i64_w, i32_w]
        rfl
      refine pure_ (i := 4) (N := some 42) (v := ?_) (a' := ?_) #[true, true, false, false, true, false, false, false, false, false, false, false, false, false, false, false, false] rfl rfl (by kernel_rfl) (fun _ _ _ h => h) (Or.inl ⟨by rfl, ?_⟩) ?_ ?_
      rotate_left
      · intro w'
        go_simp
        with_reducible rfl
      rotate_left
      · simp only [Act.put, List.setIfInBounds_toArray, List.set_cons_zero, List.set_cons_succ, i64_w, i32_w]
        rfl
      refine pure_ (i := 7) (N := some 45) (v := ?_) (a' := ?_) #[true, true, false, false, true, false, false, true, false, false, false, false, false, false, false, false, false] rfl rfl (by kernel_rfl) (fun _ _ _ h => h) (Or.inl ⟨by rfl, ?_⟩) ?_ ?_
      rotate_left
      · intro w'
        go_simp
        with_reducible rfl
      rotate_left
      · simp only [Act.put, List.setIfInBounds_toArray, List.set_cons_zero, List.set_cons_succ, i64_w, i32_w]
        rfl
      refine pure_ (i := 11) (N := some 49) (v := ?_) (a' := ?_) #[true, true, false, false, true, false, false, true, false, false, false, true, false, false, false, false, false] rfl rfl (by kernel_rfl) (fun _ _ _ h => h) (Or.inl ⟨by rfl, ?_⟩) ?_ ?_
      rotate_left
      · intro w'
        go_simp
        with_reducible rfl
      rotate_left
      · simp only [Act.put, List.setIfInBounds_toArray, List.set_cons_zero, List.set_cons_succ, i64_w, i32_w]
        rfl
      refine take_ (i := 3) (N := some 41) (v := ?_) (a' := ?_) #[true, true, false, true, true, false, false, true, false, false, false, true, false, false, false, false, false] rfl rfl (by kernel_rfl) (fun _ _ _ h => h) (Or.inl ⟨by rfl, ?_⟩) hHeld ?_ ?_
      rotate_left
      · rintro w' ⟨s0, s1⟩
        refine (load_yields rfl rfl s0).trans ?_
        with_reducible rfl
      rotate_left
      · simp only [Act.put, List.setIfInBounds_toArray, List.set_cons_zero, List.set_cons_succ, i64_w, i32_w]
        rfl
      refine take_ (i := 9) (N := some 47) (v := ?_) (a' := ?_) #[true, true, false, true, true, false, false, true, false, true, false, true, false, false, false, false, false] rfl rfl (by kernel_rfl) (fun _ _ _ h => h) (Or.inl ⟨by rfl, ?_⟩) hHeld ?_ ?_
      rotate_left
      · rintro w' ⟨s0, s1⟩
        refine (load_yields rfl rfl s1).trans ?_
        with_reducible rfl
      rotate_left
      · simp only [Act.put, List.setIfInBounds_toArray, List.set_cons_zero, List.set_cons_succ, i64_w, i32_w]
        rfl
      refine one_ (i := 2) (N := some 40) #[true, true, true, true, true, false, false, true, false, true, false, true, false, false, false, false, false] rfl rfl (by kernel_rfl) (by decide) (fun K hK => ?_)
      refine goes_ Try.func106 (by kernel_rfl) rfl #[.pointer (some ⟨gf, 0, none⟩)] (by rfl) rfl rfl (by simp only [List.map_toArray, List.map_cons, List.map_nil]; rfl) ?_
      with_reducible refine (in_first (show FAt wz.drew gf 0 0 zrow zrow from FAt.below FH.out (below_drew (Below.refl _ _)))).mono ?_
      rintro e w61 ⟨rfl, hF, hc⟩
      refine ⟨_, rfl, ?_⟩
      have CH := Aside0.mk (Ch.far (Ch.step CH.out (below_drew (Below.refl _ _))) HWF.out hc)
      have M2 := Aside0.mk (mem_ch (Mem.drew M2.out) hc HN2.out)
      have M6 := Aside0.mk (mem_ch (Mem.drew M6.out) hc HN6.out)
      have H := Aside0.mk (BAt.ch (BAt.below H.out (below_drew (Below.refl _ _))) hc HNg.out)
      have FH := Aside0.mk hF
      refine hK.out _ _ ⟨(mem_loads M2.out), (mem_loads M6.out)⟩ (fun hHeld => ?_)
      clear hK K
      refine norm_ (a' := ?_) ?_ ?_
      rotate_left
      · show Act.put _ (some 40) _ = _
        simp only [Act.put, List.setIfInBounds_toArray, List.set_cons_zero, List.set_cons_succ, i64_w, i32_w]
        rfl
      refine one_ (i := 5) (N := some 43) #[true, true, true, true, true, true, false, true, false, true, false, true, false, false, false, false, false] rfl rfl (by kernel_rfl) (by decide) (fun K hK => ?_)
      refine goes_ Try.func108 (by kernel_rfl) rfl #[.pointer (some ⟨gf, 0, none⟩)] (by rfl) rfl rfl (by simp only [List.map_toArray, List.map_cons, List.map_nil]; rfl) ?_
      with_reducible refine (out_done FH.out).mono ?_
      rintro e w62 ⟨rfl, hF, hb62⟩
      refine ⟨_, rfl, ?_⟩
      have FH := Aside0.mk hF
      have M2 := Aside0.mk (Mem.below M2.out hb62)
      have M6 := Aside0.mk (Mem.below M6.out hb62)
      have H := Aside0.mk (BAt.below H.out hb62)
      have CH := Aside0.mk (Ch.step CH.out hb62)
      refine hK.out _ _ ⟨(mem_loads M2.out), (mem_loads M6.out)⟩ (fun hHeld => ?_)
      clear hK K
      refine norm_ (a' := ?_) ?_ ?_
      rotate_left
      · show Act.put _ (some 43) _ = _
        simp only [Act.put, List.setIfInBounds_toArray, List.set_cons_zero, List.set_cons_succ, i64_w, i32_w]
        rfl
      refine one_ (i := 6) (N := some 44) #[true, true, true, true, true, true, true, true, false, true, false, true, false, false, false, false, false] rfl rfl (by kernel_rfl) (by decide) (fun K hK => ?_)
      refine goes_ Try.func107 (by kernel_rfl) rfl #[.agg (cellsOf .u8 (cells8 bendF)), .agg (cellsOf .u8 (cells8 outF))] (by rfl) rfl rfl (by simp only [List.map_toArray, List.map_cons, List.map_nil]; rfl) ?_
      with_reducible refine (C6.out.q _).mono ?_
      rintro e w63 ⟨rfl, hb63⟩
      refine ⟨_, rfl, ?_⟩
      have FH := Aside0.mk (show FAt _ gf 1 0 inF outF from FAt.below FH.out hb63)
      have M2 := Aside0.mk (Mem.below M2.out hb63)
      have M6 := Aside0.mk (Mem.below M6.out hb63)
      have H := Aside0.mk (BAt.below H.out hb63)
      have CH := Aside0.mk (Ch.step CH.out hb63)
      refine hK.out _ _ ⟨(mem_loads M2.out), (mem_loads M6.out)⟩ (fun hHeld => ?_)
      clear hK K
      refine norm_ (a' := ?_) ?_ ?_
      rotate_left
      · show Act.put _ (some 44) _ = _
        simp only [Act.put, List.setIfInBounds_toArray, List.set_cons_zero, List.set_cons_succ, i64_w, i32_w]
        rfl
      refine one_ (i := 8) (N := some 46) #[true, true, true, true, true, true, true, true, true, true, false, true, false, false, false, false, false] rfl rfl (by kernel_rfl) (by decide) (fun K hK => ?_)
      refine goes_ Try.func106 (by kernel_rfl) rfl #[.pointer (some ⟨gf, 0, none⟩)] (by rfl) rfl rfl (by simp only [List.map_toArray, List.map_cons, List.map_nil]; rfl) ?_
      with_reducible refine (in_done FH.out).mono ?_
      rintro e w64 ⟨rfl, hF, hb64⟩
      refine ⟨_, rfl, ?_⟩
      have FH := Aside0.mk hF
      have M2 := Aside0.mk (Mem.below M2.out hb64)
      have M6 := Aside0.mk (Mem.below M6.out hb64)
      have H := Aside0.mk (BAt.below H.out hb64)
      have CH := Aside0.mk (Ch.step CH.out hb64)
      refine hK.out _ _ ⟨(mem_loads M2.out), (mem_loads M6.out)⟩ (fun hHeld => ?_)
      clear hK K
      refine norm_ (a' := ?_) ?_ ?_
      rotate_left
      · show Act.put _ (some 46) _ = _
        simp only [Act.put, List.setIfInBounds_toArray, List.set_cons_zero, List.set_cons_succ, i64_w, i32_w]
        rfl
      refine one_ (i := 10) (N := some 48) #[true, true, true, true, true, true, true, true, true, true, true, true, false, false, false, false, false] rfl rfl (by kernel_rfl) (by decide) (fun K hK => ?_)
      refine goes_ Try.func107 (by kernel_rfl) rfl #[.agg (cellsOf .u8 (cells8 inF)), .agg (cellsOf .u8 (cells8 straightF))] (by rfl) rfl rfl (by simp only [List.map_toArray, List.map_cons, List.map_nil]; rfl) ?_
      with_reducible refine (C7.out.q _).mono ?_
      rintro e w65 ⟨rfl, hb65⟩
      refine ⟨_, rfl, ?_⟩
      have FH := Aside0.mk (show FAt _ gf 1 0 inF outF from FAt.below FH.out hb65)
      have M2 := Aside0.mk (Mem.below M2.out hb65)
      have M6 := Aside0.mk (Mem.below M6.out hb65)
      have H := Aside0.mk (BAt.below H.out hb65)
      have CH := Aside0.mk (Ch.step CH.out hb65)
      refine hK.out _ _ ⟨(mem_loads M2.out), (mem_loads M6.out)⟩ (fun hHeld => ?_)
      clear hK K
      refine norm_ (a' := ?_) ?_ ?_
      rotate_left
      · show Act.put _ (some 48) _ = _
        simp only [Act.put, List.setIfInBounds_toArray, List.set_cons_zero, List.set_cons_succ, i64_w, i32_w]
        rfl
      refine one_ (i := 12) (N := some 50) #[true, true, true, true, true, true, true, true, true, true, true, true, true, false, false, false, false] rfl rfl (by kernel_rfl) (by decide) (fun K hK => ?_)
      refine goes_ Try.func108 (by kernel_rfl) rfl #[.pointer (some ⟨gf, 0, none⟩)] (by rfl) rfl rfl (by simp only [List.map_toArray, List.map_cons, List.map_nil]; rfl) ?_
      with_reducible refine (out_done FH.out).mono ?_
      rintro e w66 ⟨rfl, hF, hb66⟩
      refine ⟨_, rfl, ?_⟩
      have FH := Aside0.mk hF
      have M2 := Aside0.mk (Mem.below M2.out hb66)
      have M6 := Aside0.mk (Mem.below M6.out hb66)
      have H := Aside0.mk (BAt.below H.out hb66)
      have CH := Aside0.mk (Ch.step CH.out hb66)
      refine hK.out _ _ ⟨(mem_loads M2.out), (mem_loads M6.out)⟩ (fun hHeld => ?_)
      clear hK K
      refine norm_ (a' := ?_) ?_ ?_
      rotate_left
      · show Act.put _ (some 50) _ = _
        simp only [Act.put, List.setIfInBounds_toArray, List.set_cons_zero, List.set_cons_succ, i64_w, i32_w]
        rfl
      refine pure_ (i := 13) (N := some 51) (v := ?_) (a' := ?_) #[true, true, true, true, true, true, true, true, true, true, true, true, true, true, false, false, false] rfl rfl (by kernel_rfl) (fun _ _ _ h => h) (Or.inl ⟨by rfl, ?_⟩) ?_ ?_
      rotate_left
      · intro w'
        refine (build4_yields (f0 := inF) (f1 := mulF bendF outF) (f2 := mulF inF straightF) (f3 := outF) rfl rfl rfl rfl rfl).trans ?_
        with_reducible rfl
      rotate_left
      · simp only [Act.put, List.setIfInBounds_toArray, List.set_cons_zero, List.set_cons_succ, i64_w, i32_w]
        rfl
      refine pure_ (i := 14) (N := some 52) (v := ?_) (a' := ?_) #[true, true, true, true, true, true, true, true, true, true, true, true, true, true, true, false, false] rfl rfl (by kernel_rfl) (fun _ _ _ h => h) (Or.inl ⟨by rfl, ?_⟩) ?_ ?_
      rotate_left
      · intro w'
        go_simp
        with_reducible rfl
      rotate_left
      · simp only [Act.put, List.setIfInBounds_toArray, List.set_cons_zero, List.set_cons_succ, i64_w, i32_w]
        rfl
      refine pure_ (i := 15) (N := some 53) (v := ?_) (a' := ?_) #[true, true, true, true, true, true, true, true, true, true, true, true, true, true, true, true, false] rfl rfl (by kernel_rfl) (fun _ _ _ h => h) (Or.inl ⟨by rfl, ?_⟩) ?_ ?_
      rotate_left
      · intro w'
        go_simp
        with_reducible rfl
      rotate_left
      · simp only [Act.put, List.setIfInBounds_toArray, List.set_cons_zero, List.set_cons_succ, i64_w, i32_w]
        rfl
      refine last_ (i := 16) (N := none) #[true, true, true, true, true, true, true, true, true, true, true, true, true, true, true, true, true] rfl rfl (by kernel_rfl) (by decide) (fun K hK => ?_)
      refine skip_ (w1 := ?_) (by rfl) rfl ?_ ?_
      rotate_left
      · refine box_store_yields (x := .tmp 53) (y := .tmp 51) H.out ?_ ?_ ?_ <;> rfl
      have H := Aside0.mk (BAt.sets wcells.toList 515 _ _ H.out)
      have CH := Aside0.mk (CH.out.trans (Ch.sets wcells.toList 515 _))
      refine hK.out _ _ ?_
      clear hK K
      refine done_ (by kernel_rfl) ?_
      go_wp2
      refine bodyPost_end (results_none rfl _ _ _) rfl ⟨rfl, _, HFU.out, H.out, CH.out⟩
    | succ k1 =>
      have hxl : x < 256 := by omega
      have HX := Aside0.mk hx
      clear hx
      have hx1 : (x : Int) < 256 := by omega
      have hx3 : (0 : Int) ≤ (x : Int) := by omega
      have hw := wrap_u8_nat x hxl
      have HN := Aside0.mk (HU.out.next hxl)
      have D1 := Aside0.mk (gx_c x hxl)
      have D2 := Aside0.mk (app_c bendF (ginv (byt x)))
      rw [matV_eq] at D2
      have hxo : Go.bits .xor .u8 (I8 (app bendF (ginv (byt x)))) 99 = I8 (subB (byt x)) := xor8 _ 99#8
      obtain ⟨y, hy⟩ : ∃ y : Nat, y = (subB (byt x)).toNat := ⟨_, rfl⟩
      have hyl : y < 256 := by rw [hy]; exact (subB (byt x)).isLt
      have hyI : I8 (subB (byt x)) = (y : Int) := by rw [hy]; rfl
      rw [hyI] at hxo
      have hn := HN.out
      rw [hyI, ← hy] at hn
      have HN := Aside0.mk hn
      have hy1 : (y : Int) < 256 := by omega
      have hy3 : (0 : Int) ≤ (y : Int) := by omega
      clear hn hy hyI
      generalize app bendF (ginv (byt x)) = ab at *
      generalize ginv (byt x) = gi at *
      have hl0 := mem_loads (Mem.drew M2.out)
      go_wp2
      refine start_ (n := 7) (S := fun w' => (loadVar 113 ⟨b2, 0, none⟩).run Try.prog w' = .ok (.agg (cellsOf .u8 (cells8 bendF))) w') (ds := []) #[false, false, false, false, false, false, false] (by kernel_rfl) rfl rfl (hl0) (fun hHeld => ?_)
      refine pure_ (i := 1) (N := some 13) (v := ?_) (a' := ?_) #[false, true, false, false, false, false, false] rfl rfl (by kernel_rfl) (fun _ _ _ h => h) (Or.inl ⟨by rfl, ?_⟩) ?_ ?_
      rotate_left
      · intro w'
        go_simp
        with_reducible rfl
      rotate_left
      · simp only [Act.put, List.setIfInBounds_toArray, List.set_cons_zero, List.set_cons_succ, i64_w, i32_w]
        rfl
      refine pure_ (i := 2) (N := some 14) (v := ?_) (a' := ?_) #[false, true, true, false, false, false, false] rfl rfl (by kernel_rfl) (fun _ _ _ h => h) (Or.inl ⟨by rfl, ?_⟩) ?_ ?_
      rotate_left
      · intro w'
        go_simp
        with_reducible rfl
      rotate_left
      · simp only [Act.put, List.setIfInBounds_toArray, List.set_cons_zero, List.set_cons_succ, i64_w, i32_w]
        rfl
      refine take_ (i := 0) (N := some 12) (v := ?_) (a' := ?_) #[true, true, true, false, false, false, false] rfl rfl (by kernel_rfl) (fun _ _ _ h => h) (Or.inl ⟨by rfl, ?_⟩) hHeld ?_ ?_
      rotate_left
      · intro w' s0
        refine (load_yields rfl rfl s0).trans ?_
        with_reducible rfl
      rotate_left
      · simp only [Act.put, List.setIfInBounds_toArray, List.set_cons_zero, List.set_cons_succ, i64_w, i32_w]
        rfl
      refine one_ (i := 3) (N := some 15) #[true, true, true, true, false, false, false] rfl rfl (by kernel_rfl) (by decide) (fun K hK => ?_)
      refine goes_ Try.func103 (by kernel_rfl) rfl #[.int .u8 (x : Int)] (by rfl) rfl rfl (by simp only [List.map_toArray, List.map_cons, List.map_nil]; rfl) ?_
      with_reducible refine (D1.out.q _).mono ?_
      rintro e w53 ⟨rfl, hb53⟩
      refine ⟨_, rfl, ?_⟩
      have M2 := Aside0.mk (Mem.drew M2.out)
      have H := Aside0.mk (BAt.below H.out (below_drew (Below.refl _ _)))
      have CH := Aside0.mk (Ch.step CH.out (below_drew (Below.refl _ _)))
      have M2 := Aside0.mk (Mem.below M2.out hb53)
      have H := Aside0.mk (BAt.below H.out hb53)
      have CH := Aside0.mk (Ch.step CH.out hb53)
      refine hK.out _ _ ((mem_loads M2.out)) (fun hHeld => ?_)
      clear hK K
      refine norm_ (a' := ?_) ?_ ?_
      rotate_left
      · show Act.put _ (some 15) _ = _
        simp only [Act.put, List.setIfInBounds_toArray, List.set_cons_zero, List.set_cons_succ, i64_w, i32_w]
        rfl
      refine one_ (i := 4) (N := some 16) #[true, true, true, true, true, false, false] rfl rfl (by kernel_rfl) (by decide) (fun K hK => ?_)
      refine goes_ Try.func102 (by kernel_rfl) rfl #[.agg (cellsOf .u8 (cells8 bendF)), .int .u8 (I8 gi)] (by rfl) rfl rfl (by simp only [List.map_toArray, List.map_cons, List.map_nil]; rfl) ?_
      with_reducible refine (D2.out.q _).mono ?_
      rintro e w54 ⟨rfl, hb54⟩
      refine ⟨_, rfl, ?_⟩
      have M2 := Aside0.mk (Mem.below M2.out hb54)
      have H := Aside0.mk (BAt.below H.out hb54)
      have CH := Aside0.mk (Ch.step CH.out hb54)
      refine hK.out _ _ ((mem_loads M2.out)) (fun hHeld => ?_)
      clear hK K
      refine norm_ (a' := ?_) ?_ ?_
      rotate_left
      · show Act.put _ (some 16) _ = _
        simp only [Act.put, List.setIfInBounds_toArray, List.set_cons_zero, List.set_cons_succ, i64_w, i32_w]
        rfl
      refine pure_ (i := 5) (N := some 17) (v := ?_) (a' := ?_) #[true, true, true, true, true, true, false] rfl rfl (by kernel_rfl) (fun _ _ _ h => h) (Or.inl ⟨by rfl, ?_⟩) ?_ ?_
      rotate_left
      · intro w'
        go_simp
        with_reducible rfl
      rotate_left
      · simp only [Act.put, List.setIfInBounds_toArray, List.set_cons_zero, List.set_cons_succ, i64_w, i32_w]
        rfl
      refine pure_ (i := 6) (N := some 4) (v := ?_) (a' := ?_) #[true, true, true, true, true, true, true] rfl rfl (by kernel_rfl) (fun _ _ _ h => h) (Or.inl ⟨by rfl, ?_⟩) ?_ ?_
      rotate_left
      · intro w'
        go_simp
        with_reducible rfl
      rotate_left
      · simp only [Act.put, List.setIfInBounds_toArray, List.set_cons_zero, List.set_cons_succ, i64_w, i32_w]
        rfl
      refine done_ (by kernel_rfl) ?_
      clear hl0
      have HG := Aside0.mk (show b2 ≠ g from fun e => by have := HB2.out; have := HLT.out; omega)
      have hB := HB2.out
      go_wp2_with (first
        | ((with_reducible refine gate_store (t := 5) (p := 23) rfl ?_); refine wp_store_box H.out (3 + x) (by omega) y rfl (.tmp 23) (.tmp 20) rfl rfl rfl ?_; have H := Aside0.mk (BAt.set H.out (3 + x) (.int .u8 y)); have M2 := Aside0.mk (Mem.other M2.out (g' := g) (fun e => HG.out e.symm) (3 + x) (.int .u8 y)); have CH := Aside0.mk (CH.out.trans (Ch.set _ (3 + x) (.int .u8 y))))
        | ((with_reducible refine gate_store (t := 5) (p := 30) rfl ?_); refine wp_store_box H.out (259 + y) (by omega) x rfl (.tmp 30) (.tmp 27) rfl rfl rfl ?_; have H := Aside0.mk (BAt.set H.out (259 + y) (.int .u8 x)); have M2 := Aside0.mk (Mem.other M2.out (g' := g) (fun e => HG.out e.symm) (259 + y) (.int .u8 x)); have CH := Aside0.mk (CH.out.trans (Ch.set _ (259 + y) (.int .u8 x)))))
      go_roundg k1
      case measure => omega
      case rel => exact ⟨x + 1, _, by have := HX.out; omega, by go_num, HN, H, M2, CH⟩
end Go.Proofs.Ytpdikfmdnlhllaa.Mat
namespace Go.Proofs.Ytpdikfmdnlhllaa.Mat
open Go.RowKit Go.Proofs.Ytpdikfmdnlhllaa.PNib Go.Proofs.YtpdikfmdnlhllaaW.PrintWords Go.Proofs.YtpdikfmdnlhllaaW.PrintLast Go.Proofs.YtpdikfmdnlhllaaW.PrintMore Byte Sl Arr Mem Gives ArrEq
set_option linter.unusedVariables false
set_option linter.unusedSimpArgs false
set_option maxHeartbeats 4000000
set_option maxRecDepth 100000
/-- Block g is a full box, done. -/
def Box (w : World) (g : Nat) : Prop := ∃ F, BAt w g F ∧ F 0 = .int .u32 1 ∧ F 1 = .int .i32 0 ∧ (∀ b : BitVec 8, F (3 + b.toNat) = .int .u8 (I8 (subB b))) ∧ (∀ b : BitVec 8, F (259 + b.toNat) = .int .u8 (I8 (backB b))) ∧ ∀ (j : Nat) (v : Value), wcells.toList[j]? = some v → F (515 + j) = v
section
variable {w : World} {g : Nat}
theorem Box.lt (h : Box w g) : g < w.heap.size := by
  obtain ⟨F, h, _⟩ := h
  exact h.lt
theorem Box.below (h : Box w g) {w' : World} (hb : Below w.heap.size w w') : Box w' g := by
  obtain ⟨F, h, r⟩ := h
  exact ⟨F, h.below hb, r⟩
theorem Box.row (h : Box w g) {g' : Nat} (hne : g' ≠ g) (cs : Array Value) : Box (w.setRow g' cs) g := by
  obtain ⟨F, h, r⟩ := h
  exact ⟨F, h.row hne cs, r⟩
theorem Box.done (h : Box w g) : w.cell? ⟨g, 0, none⟩ = some (.int .u32 1) := by
  obtain ⟨F, h, h0, _⟩ := h
  rw [h.cell 0 (by decide), h0]
theorem Box.sub (h : Box w g) (b : BitVec 8) : w.cell? ⟨g, 3 + b.toNat, none⟩ = some (.int .u8 (I8 (subB b))) := by
  obtain ⟨F, h, _, _, hs, _⟩ := h
  have := b.isLt
  rw [h.cell _ (by omega), hs]
theorem Box.back (h : Box w g) (b : BitVec 8) : w.cell? ⟨g, 259 + b.toNat, none⟩ = some (.int .u8 (I8 (backB b))) := by
  obtain ⟨F, h, _, _, _, hs, _⟩ := h
  have := b.isLt
  rw [h.cell _ (by omega), hs]
theorem Box.range (h : Box w g) : w.rangeAt g 515 wcells.toList := by
  obtain ⟨F, h, _, _, _, _, hs⟩ := h
  exact h.range 515 _ (by rw [Array.length_toList, wcells_size]; decide) hs
end
theorem bown_first {w : World} {g : Nat} (h : BAt w g F0) : Calls Try.prog 92 #[.pointer (some ⟨g, 0, none⟩)] w fun e w' => e = .returned (.pointer (some ⟨g, 0, none⟩)) ∧ Box w' g ∧ Ch g w w' := by
  have hmf : ∀ (fn : Fn) (first cap : Array Value) (w : World), (Instr.makeFunc fn first cap).run Try.prog w = .ok (.func fn first cap) w := fun _ _ _ _ => rfl
  have h1 := h.set 1 (.int .i32 1)
  have HD := Aside0.mk (OnceBox.do_first g 0 (.pointer (some ⟨g, 0, none⟩)) (fun w' => ∃ F', Full (upd F0 1 (.int .i32 1)) F' ∧ BAt w' g F' ∧ Ch g (w.setCell ⟨g, 0 + 1, none⟩ (.int .i32 1)) w') w (by rw [h.cell 0 (by decide)]; rfl) (by rw [h.cell (0 + 1) (by decide)]; rfl) (h.free 0) (h.free 1)
    (fill_c h1) (fun w' ⟨F', hf, hb, _⟩ => ⟨by rw [hb.cell 0 (by decide), hf.z0]; rfl, by rw [hb.cell (0 + 1) (by decide)]; exact congrArg some (hf.z1.trans rfl), hb.free 0, hb.free 1⟩))
  clear h h1
  go_enter Try.func92, Try.ntmps92
  go_wp2_with (first
    | (go_at_call 97; (with_reducible refine (HD.out).mono ?_); rintro e w' ⟨rfl, w2, hw2, rfl⟩))
  go_ret
  obtain ⟨F', hf, hb, hc⟩ := hw2
  refine ⟨rfl, ⟨_, ((BAt.below hb (below_drew (Below.refl _ _))).set 0 (.int .u32 1)).set 1 (.int .i32 0), rfl, rfl, fun b => ?_, fun b => ?_, fun j v hv => ?_⟩, ?_⟩
  · rw [upd_ne _ _ _ _ (by omega), upd_ne _ _ _ _ (by omega)]; exact hf.sub b
  · rw [upd_ne _ _ _ _ (by omega), upd_ne _ _ _ _ (by omega)]; exact hf.back b
  · rw [upd_ne _ _ _ _ (by omega), upd_ne _ _ _ _ (by omega)]; exact hf.ways j v hv
  · exact ((((Ch.set w 1 _).trans hc).trans (Ch.of_below (below_drew (Below.refl _ _)))).trans (Ch.set _ 0 _)).trans (Ch.set _ 1 _)
theorem bown_done {w : World} {g : Nat} (h : Box w g) : Calls Try.prog 92 #[.pointer (some ⟨g, 0, none⟩)] w fun e w' => e = .returned (.pointer (some ⟨g, 0, none⟩)) ∧ w' = w := by
  have hmf : ∀ (fn : Fn) (first cap : Array Value) (w : World), (Instr.makeFunc fn first cap).run Try.prog w = .ok (.func fn first cap) w := fun _ _ _ _ => rfl
  have HD := Aside0.mk (OnceBox.do_done ⟨g, 0, none⟩ (.func (.func 98) #[.pointer (some ⟨g, 0, none⟩)] #[]) w h.done)
  clear h
  go_enter Try.func92, Try.ntmps92
  go_wp2_with (first
    | (go_at_call 97; (with_reducible refine (HD.out).mono ?_); rintro e w' ⟨rfl, rfl⟩))
  go_ret
  exact ⟨rfl, rfl⟩
theorem sub_done {w : World} {g : Nat} (h : Box w g) (b : BitVec 8) : Calls Try.prog 75 #[.pointer (some ⟨g, 0, none⟩), .int .u8 (I8 b)] w fun e w' => e = .returned (.int .u8 (I8 (subB b))) ∧ w' = w := by
  have hx := h.sub b
  have HO := Aside0.mk (bown_done h)
  have hI : I8 b = (b.toNat : Int) := rfl
  have hl := b.isLt
  have h1 : (b.toNat : Int) < 256 := by omega
  have h3 : (0 : Int) ≤ (b.toNat : Int) := by omega
  rw [hI]
  generalize I8 (subB b) = v at *
  generalize b.toNat = n at *
  clear hI h
  go_enter Try.func75, Try.ntmps75
  go_wp2_with (first
    | (go_at_call 92; (with_reducible refine (HO.out).mono ?_); rintro e w' ⟨rfl, rfl⟩))
  go_ret
  exact ⟨rfl, rfl⟩
theorem sub_first {w : World} {g : Nat} (h : BAt w g F0) (b : BitVec 8) : Calls Try.prog 75 #[.pointer (some ⟨g, 0, none⟩), .int .u8 (I8 b)] w fun e w' => e = .returned (.int .u8 (I8 (subB b))) ∧ Box w' g ∧ Ch g w w' := by
  have HO := Aside0.mk (bown_first h)
  have hI : I8 b = (b.toNat : Int) := rfl
  have hl := b.isLt
  have h1 : (b.toNat : Int) < 256 := by omega
  have h3 : (0 : Int) ≤ (b.toNat : Int) := by omega
  rw [hI]
  clear hI h
  go_enter Try.func75, Try.ntmps75
  go_wp2_with (first
    | (go_at_call 92; (with_reducible refine (HO.out).mono ?_); rintro e w2 ⟨rfl, hB, hc⟩; have HX := Aside0.mk (And.intro hB hc); have hx := hB.sub b; clear hB hc))
  go_ret
  exact ⟨rfl, HX.out⟩
theorem back_done {w : World} {g : Nat} (h : Box w g) (b : BitVec 8) : Calls Try.prog 76 #[.pointer (some ⟨g, 0, none⟩), .int .u8 (I8 b)] w fun e w' => e = .returned (.int .u8 (I8 (backB b))) ∧ w' = w := by
  have hx := h.back b
  have HO := Aside0.mk (bown_done h)
  have hI : I8 b = (b.toNat : Int) := rfl
  have hl := b.isLt
  have h1 : (b.toNat : Int) < 256 := by omega
  have h3 : (0 : Int) ≤ (b.toNat : Int) := by omega
  rw [hI]
  generalize I8 (backB b) = v at *
  generalize b.toNat = n at *
  clear hI h
  go_enter Try.func76, Try.ntmps76
  go_wp2_with (first
    | (go_at_call 92; (with_reducible refine (HO.out).mono ?_); rintro e w' ⟨rfl, rfl⟩))
  go_ret
  exact ⟨rfl, rfl⟩
theorem back_first {w : World} {g : Nat} (h : BAt w g F0) (b : BitVec 8) : Calls Try.prog 76 #[.pointer (some ⟨g, 0, none⟩), .int .u8 (I8 b)] w fun e w' => e = .returned (.int .u8 (I8 (backB b))) ∧ Box w' g ∧ Ch g w w' := by
  have HO := Aside0.mk (bown_first h)
  have hI : I8 b = (b.toNat : Int) := rfl
  have hl := b.isLt
  have h1 : (b.toNat : Int) < 256 := by omega
  have h3 : (0 : Int) ≤ (b.toNat : Int) := by omega
  rw [hI]
  clear hI h
  go_enter Try.func76, Try.ntmps76
  go_wp2_with (first
    | (go_at_call 92; (with_reducible refine (HO.out).mono ?_); rintro e w2 ⟨rfl, hB, hc⟩; have HX := Aside0.mk (And.intro hB hc); have hx := hB.back b; clear hB hc))
  go_ret
  exact ⟨rfl, HX.out⟩
end Go.Proofs.Ytpdikfmdnlhllaa.Mat
namespace Go.Proofs.Ytpdikfmdnlhllaa.Mat
open Go.RowKit Go.Proofs.Ytpdikfmdnlhllaa.PNib Go.Proofs.YtpdikfmdnlhllaaW.PrintWords Go.Proofs.YtpdikfmdnlhllaaW.PrintLast Go.Proofs.YtpdikfmdnlhllaaW.PrintMore Byte Sl Arr Mem Gives ArrEq
set_option linter.unusedVariables false
set_option linter.unusedSimpArgs false
set_option maxHeartbeats 4000000
set_option maxRecDepth 100000
end Go.Proofs.Ytpdikfmdnlhllaa.Mat
