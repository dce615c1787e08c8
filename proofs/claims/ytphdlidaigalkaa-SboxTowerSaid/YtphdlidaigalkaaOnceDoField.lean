/-
  sync.Once.Do with one method value, walked: not yet done, and done. The method's own contract is handed in.
-/
import Derived.Test.YtphdlidaigalkaaOnce
namespace Go.Proofs.Ytphdlidaigalkaa.OnceField
open Go.RowKit Go.Proofs.YtphdlidaigalkaaW.PrintWords Go.Proofs.YtphdlidaigalkaaW.PrintLast Go.Proofs.YtphdlidaigalkaaW.PrintMore Once
set_option linter.unusedVariables false
set_option linter.unusedSimpArgs false
set_option maxHeartbeats 4000000
set_option maxRecDepth 100000
theorem slow_c (g off : Nat) (p : Value) (Post : World → Prop) (w : World) (h0 : w.cell? ⟨g, off, none⟩ = some (.int .u32 0)) (h1 : w.cell? ⟨g, off + 1, none⟩ = some (.int .i32 0))
    (f0 : w.frozen? ⟨g, off, none⟩ = false) (f1 : w.frozen? ⟨g, off + 1, none⟩ = false)
    (hcall : Calls Try.prog 118 #[p] (w.setCell ⟨g, off + 1, none⟩ (.int .i32 1)) fun e w' => e = .returned (.tuple #[]) ∧ Post w')
    (hP : ∀ w', Post w' → w'.cell? ⟨g, off, none⟩ = some (.int .u32 0) ∧ w'.cell? ⟨g, off + 1, none⟩ = some (.int .i32 1) ∧ w'.frozen? ⟨g, off, none⟩ = false ∧ w'.frozen? ⟨g, off + 1, none⟩ = false) :
    Calls Try.prog 125 #[.pointer (some ⟨g, off, none⟩), .func (.func 118) #[p] #[]] w fun e w' => e = .returned (.tuple #[]) ∧ ∃ w2, Post w2 ∧ w' = (w2.drew.setCell ⟨g, off, none⟩ (.int .u32 1)).setCell ⟨g, off + 1, none⟩ (.int .i32 0) := by
  have hl := run_call_load (P := Try.prog) Try.func130 (by kernel_rfl) (by kernel_rfl) (by kernel_rfl) .u32 (by kernel_rfl) (w := w.setCell ⟨g, off + 1, none⟩ (.int .i32 1)) (a := ⟨g, off, none⟩) (x := 0) ((World.cell?_setCell_other _ ⟨g, off + 1, none⟩ ⟨g, off, none⟩ _ (by simp)).trans h0)
  have hnot : ∀ (x : Bool) (w : World), (Op.unary .not (.bool x)).run Try.prog w = .ok (.bool (!x)) w := fun _ _ => rfl
  have HC := Aside0.mk hcall
  clear hcall
  go_enter_defers Try.func125, Try.ntmps125
  go_wp2_with (first
    | (go_at_call 131; refine (lock_free ⟨g, off + 1, none⟩ _ (by go_simp) (by go_simp)).mono ?_; rintro e w' ⟨rfl, rfl⟩)
    | (go_at_call 118; refine HC.out.mono ?_; rintro e w2 ⟨rfl, hw2⟩)
    | (go_at_call 124; go_in))
  have hp := hP w2 hw2
  refine leaves_cons (f := 133) (args := #[.pointer (some ⟨g, off, none⟩), .bool true]) (by simp) (by simp [go_sem]) ?_
  refine (store_deferred ⟨g, off, none⟩ (.int .u32 0) .returning _ hp.1 hp.2.2.1).mono ?_
  rintro e u' w'' ⟨rfl, rfl, rfl⟩
  refine leaves_cons (f := 132) (args := #[.pointer (some ⟨g, off + 1, none⟩)]) (by simp [settle]) (by simp [go_sem]) ?_
  refine (unlock_deferred ⟨g, off + 1, none⟩ _ _ ?_ (by simp [hp.2.2.2])).mono ?_
  · refine (World.cell?_setCell_other _ ⟨g, off, none⟩ ⟨g, off + 1, none⟩ _ (by simp)).trans ?_
    rw [World.cell?_drew]
    exact hp.2.1
  rintro e u' w'' ⟨rfl, rfl, rfl⟩
  simp [Leaves, settle, results, Try.results125]
  exact ⟨w2, hw2, rfl⟩
theorem do_first (g off : Nat) (p : Value) (Post : World → Prop) (w : World) (h0 : w.cell? ⟨g, off, none⟩ = some (.int .u32 0)) (h1 : w.cell? ⟨g, off + 1, none⟩ = some (.int .i32 0))
    (f0 : w.frozen? ⟨g, off, none⟩ = false) (f1 : w.frozen? ⟨g, off + 1, none⟩ = false)
    (hcall : Calls Try.prog 118 #[p] (w.setCell ⟨g, off + 1, none⟩ (.int .i32 1)) fun e w' => e = .returned (.tuple #[]) ∧ Post w')
    (hP : ∀ w', Post w' → w'.cell? ⟨g, off, none⟩ = some (.int .u32 0) ∧ w'.cell? ⟨g, off + 1, none⟩ = some (.int .i32 1) ∧ w'.frozen? ⟨g, off, none⟩ = false ∧ w'.frozen? ⟨g, off + 1, none⟩ = false) :
    Calls Try.prog 117 #[.pointer (some ⟨g, off, none⟩), .func (.func 118) #[p] #[]] w fun e w' => e = .returned (.tuple #[]) ∧ ∃ w2, Post w2 ∧ w' = (w2.drew.setCell ⟨g, off, none⟩ (.int .u32 1)).setCell ⟨g, off + 1, none⟩ (.int .i32 0) := by
  have hl := run_call_load (P := Try.prog) Try.func130 (by kernel_rfl) (by kernel_rfl) (by kernel_rfl) .u32 (by kernel_rfl) h0
  have hnot : ∀ (x : Bool) (w : World), (Op.unary .not (.bool x)).run Try.prog w = .ok (.bool (!x)) w := fun _ _ => rfl
  have HC := Aside0.mk (slow_c g off p Post w h0 h1 f0 f1 hcall hP)
  clear hcall hP
  go_enter Try.func117, Try.ntmps117
  go_wp2_with (first
    | (go_at_call 125; refine HC.out.mono ?_; rintro e w' ⟨rfl, w2, hw2, rfl⟩)
    | (go_at_call 124; go_in))
  go_end0
  exact ⟨rfl, w2, hw2, rfl⟩
/-- Done already: the function is not called. -/
theorem do_done (a : Addr) (fv : Value) (w : World) (h0 : w.cell? a = some (.int .u32 1)) :
    Calls Try.prog 117 #[.pointer (some a), fv] w fun e w' => e = .returned (.tuple #[]) ∧ w' = w := by
  have hl := run_call_load (P := Try.prog) Try.func130 (by kernel_rfl) (by kernel_rfl) (by kernel_rfl) .u32 (by kernel_rfl) h0
  have hnot : ∀ (x : Bool) (w : World), (Op.unary .not (.bool x)).run Try.prog w = .ok (.bool (!x)) w := fun _ _ => rfl
  go_enter Try.func117, Try.ntmps117
  go_wp2
  go_end0
  exact ⟨rfl, rfl⟩
end Go.Proofs.Ytphdlidaigalkaa.OnceField
