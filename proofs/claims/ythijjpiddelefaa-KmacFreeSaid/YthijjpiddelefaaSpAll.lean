/-
  Merged texts: RangeN, RoundKit, SpChunk, RSum, SpFill, SpSq, SpSum: walks and plain lemmas; no condition.
-/
import Derived.RangeFuncNested
import Derived.RangeFuncBound
import Derived.RangeFuncCalls
import Derived.RangeFuncLeaves
import Derived.Test.YthijjpiddelefaaMem
import Derived.Test.YthijjpiddelefaaWLast
import Derived.Test.YthijjpiddelefaaWMore
import Derived.Shelf.Abstract
import Derived.OrdersIn
import Derived.LoopIn
import Derived.OwnWalkIn
import Derived.TacticsInMore
import Derived.Test.YthijjpiddelefaaKit
import Derived.Test.YthijjpiddelefaaSpBase
namespace Go.Proofs.Ythijjpiddelefaa.RangeN
open Go Go.RowKit
/-- What an iterator promises: it yields values one by one, number j being such as G says; St: its own steps; Kp: what a round that goes on keeps; fin: it may come to its end, behind n values. -/
def SeqN (F : Fence) (n : Nat) (P : Program) (g : Nat) (lb : Array Value) (G : Nat → Value → World → Prop) (St Kp : World → World → Prop) (N : Nat) (fin : Prop) (w : World) : Prop :=
  ∀ (l : Nat) (J : Nat → World → Prop) (Jx : World → Prop) (W : World), Below w.heap.size w W → (∀ j A B, J j A → St A B → J j B) → (∀ A B, Jx A → St A B → Jx B) → (∀ j A, J j A → j ≤ N) →
    (∀ j v W1, J j W1 → G j v W1 → YieldAt F (n - 1) P l #[v] W1 fun e W' => (e = .returned (.bool true) ∧ J (j + 1) W' ∧ Kp W1 W') ∨ (e = .returned (.bool false) ∧ Jx W')) →
    J 0 W → CallsIn F n P g (#[.func (.yield l) #[] #[]] ++ lb) W fun e W' => (∃ v, e = .returned v) ∧ ((fin ∧ J N W') ∨ Jx W')
/-- How a round may be left. -/
def leftBy (B : Nat) (Kp : World → World → Prop) (I : World → Prop) (Ix : Code → World → Prop) (W : World) : Exit → Act → World → Prop
  | .normal, _, W' => KeepsFrom B W W' ∧ Kp W W' ∧ I W'
  | .ret, _, W' => KeepsFrom B W W' ∧ Ix .ret W'
  | .exit id, _, W' => KeepsFrom B W W' ∧ Ix (.exit id) W'
  | .goto t, _, W' => KeepsFrom B W W' ∧ Ix (.goto t) W'
  | .panic _, _, _ => False
  | .outgrown, _, _ => False
def Lasts (B : Nat) (I : World → Prop) : Prop := OwnFrom B (fun (_ : Unit) W => I W)
variable {F : Fence} {n : Nat} {P : Program}
theorem wpIn_rangeN {g : Operand} {p : Tmp} {assign body : Code} {Q : Exit → Act → World → Prop} {a : Act} {w : World}
    (hro : F.round = none) (h1 : 1 ≤ n) {gf : Nat} {lb : Array Value} (hg : a.eval g = .func (.func gf) #[] lb) (hFg : F.fn gf) (eg : ∀ args w, (callFunc gf args).run P w = .ok (.enter gf args) w)
    {G : Nat → Value → World → Prop} {St Kp : World → World → Prop} {N : Nat} {fin : Prop} {w0 : World} (hseq : SeqN F (n - 1) P gf lb G St Kp N fin w0)
    (hKt : ∀ {A B C : World}, Kp A B → Kp B C → Kp A C) (hKb : ∀ (W : World) (l : Nat) (o o' : Obj), w.heap.size ≤ l → W.heap[l]? = some o → o.isCells = false → o.isWalk = false → Kp W (W.putObj l o'))
    (hSt : ∀ A B, St A B → ∀ b o, w.heap.size ≤ b → A.heap[b]? = some o → o.isCells = false → B.heap[b]? = some o) (hb0 : Below w0.heap.size w0 w)
    (I : Nat → World → Prop) (Ix : Code → World → Prop) (hI : ∀ j, Lasts w.heap.size (I j)) (hIx : ∀ c, Lasts w.heap.size (Ix c)) (hG : ∀ j v, Lasts w.heap.size (G j v))
    (hIs : ∀ j A B, I j A → St A B → I j B) (hIxs : ∀ c A B, Ix c A → St A B → Ix c B) (hIN : ∀ j A, I j A → j ≤ N) (h0 : I 0 w) (a₁ : Value → Act)
    (hassign : ∀ (l : Nat) (v : Value) (W : World) (K : Act → World → Prop), K (a₁ v) W → assign.wpIn (F.inRound l) (n - 1 - 1) P (Exit.then K (fun _ _ _ => False)) { tmps := a.tmps.setIfInBounds p v, defers := [] } W)
    (hbody : ∀ (l j : Nat) (v : Value) (W : World), I j W → G j v W → body.wpIn (F.inRound l) (n - 1 - 1) P (leftBy w.heap.size Kp (I (j + 1)) Ix W) (a₁ v) W)
    (hdone : ∀ (D : Nat) (W : World), w.heap.size ≤ D → fin → I N W → W.heap[D]? = some (.deferred (some [])) → Q .normal { a with defers := { target := .collected D, args := #[] } :: a.defers } W)
    (hstop : ∀ (D : Nat) (c : Code) (W : World), w.heap.size ≤ D → Ix c W → W.heap[D]? = some (.deferred (some [])) → c.wpIn F n P Q { a with defers := { target := .collected D, args := #[] } :: a.defers } W) :
    (Code.rangeFunc g #[p] assign body).wpIn F n P Q a w := by
  refine wpIn_rangeFunc ?_
  intro fn hfn
  rw [hro]
  obtain ⟨rec, hrec⟩ : ∃ rec : LoopState → Option Code → Loop, rec = fun st pe => { state := st, pending := pe, fn, tmps := a.tmps, params := #[p], assign, body, defers := w.heap.size } := ⟨_, rfl⟩
  obtain ⟨W1, hW1⟩ : ∃ W1, (w.alloc (.deferred (some []))).alloc (.loop (rec .ready none)) = W1 := ⟨_, rfl⟩
  obtain ⟨L, hL⟩ : ∃ L, L = w.heap.size + 1 := ⟨_, rfl⟩
  have hLge : w.heap.size ≤ L := by omega
  have hne : w.heap.size ≠ L := by omega
  have hL1 : W1.heap[L]? = some (.loop (rec .ready none)) := by
    rw [← hW1, hL]
    have := World.alloc_heap_new (w.alloc (.deferred (some []))) (.loop (rec .ready none))
    rwa [World.size_alloc] at this
  have hK1 : W1.heap[w.heap.size]? = some (.deferred (some [])) := by
    rw [← hW1]; exact (Below.heap_alloc _ _ _ (by simp)).trans (World.alloc_heap_new w _)
  have hI1 : I 0 W1 := by
    rw [← hW1]
    exact (hI 0).alloc (s := ()) _ ((hI 0).alloc (s := ()) _ h0)
  have hb1 : Below w0.heap.size w0 W1 := by
    rw [← hW1]; exact hb0.trans ((((Below.refl _ w).alloc (Nat.le_refl _) _).alloc (by simp) _).mono hb0.size)
  refine ⟨L, [{ target := .collected w.heap.size, args := #[] }], W1, { target := .fn (.func gf) lb, args := #[.func (.yield L) #[] #[]] }, W1, gf, #[.func (.yield L) #[] #[]] ++ lb, W1, ?_, ?_, ?_, ?_, fun _ => h1, ?_⟩
  · rw [← hW1, hrec, hL]; exact run_enterLoop_outer _ _ _ _ _
  · simp only [resolve, hg]
    simp [go_sem]
  · intro f' hf'; simp [Target.leads] at hf'; subst hf'; exact hFg
  · simp [invoke, go_sem, eg]
  · have hJs : ∀ j A B, (I j A ∧ A.heap[L]? = some (.loop (rec .ready none)) ∧ A.heap[w.heap.size]? = some (.deferred (some []))) → St A B → (I j B ∧ B.heap[L]? = some (.loop (rec .ready none)) ∧ B.heap[w.heap.size]? = some (.deferred (some []))) :=
      by intro j A B h hs; exact ⟨hIs j A B h.1 hs, hSt A B hs _ _ hLge h.2.1 rfl, hSt A B hs _ _ (Nat.le_refl _) h.2.2 rfl⟩
    have hJxs : ∀ A B, (∃ c, Ix c A ∧ A.heap[L]? = some (.loop (rec .done (some c))) ∧ A.heap[w.heap.size]? = some (.deferred (some []))) → St A B → (∃ c, Ix c B ∧ B.heap[L]? = some (.loop (rec .done (some c))) ∧ B.heap[w.heap.size]? = some (.deferred (some []))) :=
      by rintro A B ⟨c, hc, hl, hk⟩ hs; exact ⟨c, hIxs c A B hc hs, hSt A B hs _ _ hLge hl rfl, hSt A B hs _ _ (Nat.le_refl _) hk rfl⟩
    refine (hseq L (fun j W => I j W ∧ W.heap[L]? = some (.loop (rec .ready none)) ∧ W.heap[w.heap.size]? = some (.deferred (some [])))
      (fun W => ∃ c, Ix c W ∧ W.heap[L]? = some (.loop (rec .done (some c))) ∧ W.heap[w.heap.size]? = some (.deferred (some [])))
      W1 hb1 hJs hJxs (fun j A h => hIN j A h.1) ?_ ⟨hI1, hL1, hK1⟩).mono ?_
    · rintro j v W ⟨hi, hl, hk⟩ hGv
      have hlt : L < W.heap.size := (Array.getElem?_eq_some_iff.1 hl).1
      have hy : (Instr.yield L #[v]).run P W = .ok (.round L fn (a.tmps.setIfInBounds p v) assign body) W := by
        have hy := run_yield (P := P) (args := #[v]) hl (by rw [hrec]; rfl)
        rw [hrec] at hy
        simpa using hy
      refine ⟨fn, _, assign, body, hy, roundIn_of_wpIn hfn (hassign _ v W _ ⟨_, run_beginRound hl (by rw [hrec]), ?_⟩)⟩
      obtain ⟨Wb, hWb⟩ : ∃ Wb, Wb = W.putObj L (.loop { rec .ready none with state := .busy }) := ⟨_, rfl⟩
      have hl2 : Wb.heap[L]? = some (.loop { rec .ready none with state := .busy }) := by rw [hWb]; exact World.putObj_heap_same hlt
      have hk2 : Wb.heap[w.heap.size]? = some (.deferred (some [])) := by rw [hWb]; exact (World.putObj_heap_other hne).trans hk
      have hw2 : Kp W Wb := by rw [hWb]; exact hKb _ _ _ _ hLge hl rfl rfl
      have hi2 : I j Wb := by rw [hWb]; exact (hI j).putObj (s := ()) _ hi hLge hl rfl
      have hG2 : G j v Wb := by rw [hWb]; exact (hG j v).putObj (s := ()) _ hGv hLge hl rfl
      rw [← hWb]
      refine wpIn_mono (hbody _ j v _ hi2 hG2) ?_
      have fin3 : ∀ (jump : Option Code) (W3 : World), KeepsFrom w.heap.size Wb W3 →
          (Instr.endRound L jump).run P W3 = .ok (.bool jump.isNone) (W3.putObj L (.loop (rec (if jump.isNone then .ready else .done) jump))) ∧
          W3.heap[L]? = some (.loop { rec .ready none with state := .busy }) ∧
          (W3.putObj L (.loop (rec (if jump.isNone then .ready else .done) jump))).heap[L]? = some (.loop (rec (if jump.isNone then .ready else .done) jump)) ∧
          (W3.putObj L (.loop (rec (if jump.isNone then .ready else .done) jump))).heap[w.heap.size]? = some (.deferred (some [])) := fun jump W3 hk3 => by
        have hl3 := hk3.same _ _ hLge hl2 rfl
        have he := run_endRound (P := P) jump hl3
        refine ⟨?_, hl3, World.putObj_heap_same (Array.getElem?_eq_some_iff.1 hl3).1, (World.putObj_heap_other hne).trans (hk3.same _ _ (Nat.le_refl _) hk2 rfl)⟩
        rw [hrec] at he ⊢
        exact he
      have out3 : ∀ (c : Code) (W3 : World), KeepsFrom w.heap.size Wb W3 → Ix c W3 → ∃ v' W4, (Instr.endRound L (some c)).run P W3 = .ok v' W4 ∧ v' = .bool false ∧ ∃ c', Ix c' W4 ∧ W4.heap[L]? = some (.loop (rec .done (some c'))) ∧ W4.heap[w.heap.size]? = some (.deferred (some [])) := fun c W3 hk3 hi3 => by
        obtain ⟨hr, hl3, hl4, hk4⟩ := fin3 (some c) W3 hk3
        exact ⟨_, _, hr, rfl, c, (hIx c).putObj (s := ()) _ hi3 hLge hl3 rfl, hl4, hk4⟩
      rintro e a3 W3 hp
      cases e with
      | normal =>
        obtain ⟨hk3, hkp3, hi3⟩ := hp
        obtain ⟨hr, hl3, hl4, hk4⟩ := fin3 none W3 hk3
        exact ⟨_, _, hr, .inl ⟨rfl, ⟨(hI _).putObj (s := ()) _ hi3 hLge hl3 rfl, hl4, hk4⟩, hKt (hKt hw2 hkp3) (hKb _ _ _ _ hLge hl3 rfl rfl)⟩⟩
      | ret =>
        obtain ⟨v', W4, hr, rfl, h⟩ := out3 _ W3 hp.1 hp.2
        exact ⟨_, _, hr, .inr ⟨rfl, h⟩⟩
      | exit id =>
        obtain ⟨v', W4, hr, rfl, h⟩ := out3 _ W3 hp.1 hp.2
        exact ⟨_, _, hr, .inr ⟨rfl, h⟩⟩
      | goto t =>
        obtain ⟨v', W4, hr, rfl, h⟩ := out3 _ W3 hp.1 hp.2
        exact ⟨_, _, hr, .inr ⟨rfl, h⟩⟩
      | panic ch => exact hp.elim
      | outgrown => exact hp.elim
    · rintro e W2 ⟨⟨v, rfl⟩, (⟨hf, hi, hl, hk⟩ | ⟨c, hi, hl, hk⟩)⟩
      · have he := run_endLoop (P := P) hl (by rw [hrec]; simp)
        have hl' := hl
        rw [hrec] at he
        exact ⟨none, _, he, hdone _ _ (Nat.le_refl _) hf ((hI N).putObj (s := ()) _ hi hLge hl rfl) ((World.putObj_heap_other hne).trans hk)⟩
      · have he := run_endLoop (P := P) hl (by rw [hrec]; simp)
        rw [hrec] at he
        exact ⟨some c, _, he, hstop _ c _ (Nat.le_refl _) ((hIx c).putObj (s := ()) _ hi hLge hl rfl) ((World.putObj_heap_other hne).trans hk)⟩
end Go.Proofs.Ythijjpiddelefaa.RangeN
namespace Go.Proofs.Ythijjpiddelefaa.RoundKit
set_option linter.unusedVariables false
open Go Go.RowKit RangeN Mem Go.Proofs.YthijjpiddelefaaW.PrintWords Go.Proofs.YthijjpiddelefaaW.PrintMore Go.Proofs.YthijjpiddelefaaW.PrintLast
variable {P : Program} {l₀ n : Nat} {ops : Array Oper} {Q : Exit → Act → World → Prop}
/-- The wide fence within a round of loop l₀. -/
abbrev W (l₀ : Nat) : Fence := Fence.wide.inRound l₀
theorem rowsIn_of {row : String} {args : Array Value} {w : World} {R : Value → World → Prop} (h : Rows P row args w R) : RowsIn (W l₀) n P row args w R :=
  fun c cs _ => let ⟨v, w', r, s⟩ := h c cs; ⟨v, w', r, (stepsIn_wide (P := P)).2 s⟩
theorem callsIn_of {f : FuncId} {args : Array Value} {w : World} {R : Ending → World → Prop} (h : Calls P f args w R) : CallsIn (W l₀) n P f args w R :=
  CallsIn.inRound l₀ (callsIn_wide.2 h)
def plainOp (o : Oper) : Bool := match o.op with | .defer _ => false | _ => true
theorem opIn_of {o : Oper} {a : Act} {w : World} {K : Act → World → Prop} (hp : plainOp o = true) (h : o.wp P a w K Q) : o.wpIn (W l₀) n P a w K Q := by
  refine ⟨fun _ _ => trivial, ?_⟩
  have hs : o.semAt (W l₀).round a.eval = execOp a.eval o := Oper.semAt_some l₀ a.eval o (fun c hc => by unfold plainOp at hp; rw [hc] at hp; cases hp)
  rw [hs]
  unfold Oper.wp at h
  generalize (execOp a.eval o).run P w = r at h
  cases r with
  | ok x w' =>
    cases x with
    | enter f args => exact ⟨fun hd => (by cases hd), callsIn_of h⟩
    | row r args => exact ⟨fun hd => (by cases hd), rowsIn_of h⟩
    | round => exact h.elim
    | value v => exact h
    | skip => exact h
    | defer d => exact h
    | _ => exact h.elim
  | halt x w' => cases x <;> exact h
theorem listIn_of (ho : ¬ LetsOut Q) : ∀ (l : List Oper), (l.all plainOp) = true → ∀ (a : Act) (w : World), wpList P ops Q l a w → wpListIn (W l₀) n P ops Q l a w
  | [], _, _, _, h => h
  | o :: rest, hp, a, w, h => by
    rw [List.all_cons, Bool.and_eq_true] at hp
    unfold wpList at h
    unfold wpListIn
    split at h
    · rename_i hw
      rw [if_pos hw]
      exact Oper.wpIn_mono (fun a w h => listIn_of ho rest hp.2 a w h) (opIn_of hp.1 (h.resolve_right (fun x => ho x.2)))
    · rename_i hw
      rw [if_neg hw]
      exact ⟨fun _ _ => trivial, listIn_of ho rest hp.2 _ _ h⟩
/-- A region within a round. -/
theorem region_of {id : Nat} {l : List Oper} {a : Act} {w : World} (hp : l.all plainOp = true) (ho : ¬ LetsOut Q) (h : wpList P l.toArray Q l a w) : (Code.region id l.toArray false).wpIn (W l₀) n P Q a w :=
  wpIn_region_lit (listIn_of ho l hp a w h)
theorem opAtIn_of {i : Nat} {K : Act → World → Prop} {a : Act} {w : World} (hp : (ops.toList.all plainOp) = true) (ho : ¬ LetsOut Q) (h : wpOp P ops Q i K a w) : wpOpIn (W l₀) n P ops Q i K a w := by
  unfold wpOp at h
  unfold wpOpIn
  split at h
  · rename_i hn; rw [hn]; exact h
  · rename_i o hs
    rw [hs]
    have hp1 : plainOp o = true := List.all_eq_true.1 hp o (by
      obtain ⟨hi, rfl⟩ := Array.getElem?_eq_some_iff.1 hs
      exact Array.mem_toList_iff.2 (Array.getElem_mem hi))
    dsimp only
    split at h
    · rename_i hw; rw [if_pos hw]; exact opIn_of hp1 (h.resolve_right (fun x => ho x.2))
    · rename_i hw; rw [if_neg hw]; exact ⟨fun _ _ => trivial, h⟩
theorem anyIn_of {md : Region.Mode} (hp : (ops.toList.all plainOp) = true) (ho : ¬ LetsOut Q) : ∀ (fuel : Nat) (listed : Array Bool) (a : Act) (w : World), wpAny P md ops Q fuel listed a w → wpAnyIn (W l₀) n P md ops Q fuel listed a w
  | 0, _, _, _, h => h
  | fuel + 1, listed, a, w, h => ⟨h.1, fun i hi => wpOpIn_mono (fun a w h => anyIn_of hp ho fuel _ a w h) (opAtIn_of hp ho (h.2 i hi))⟩
/-- A post that no run outgrows. -/
def shut (Q : Exit → Act → World → Prop) : Exit → Act → World → Prop
  | .outgrown, _, _ => False
  | e, a, w => Q e a w
theorem shut_out : ¬ LetsOut (shut Q) := fun ⟨_, _, h⟩ => h
theorem shut_of {e : Exit} {a : Act} {w : World} (h : shut Q e a w) : Q e a w := by cases e <;> first | exact h | exact h.elim
theorem shut_normal {a : Act} {w : World} (h : Q .normal a w) : shut Q .normal a w := h
/-- A region within a round, walked by the plain walk's words. -/
theorem region_in {id : Nat} {l : List Oper} {a : Act} {w : World} (hp : l.all plainOp = true) (h : wpList P l.toArray (shut Q) l a w) : (Code.region id l.toArray false).wpIn (W l₀) n P Q a w :=
  wpIn_mono (region_of hp shut_out h) (fun _ _ _ => shut_of)
/-- A region of open order within a round. -/
theorem start_in {S : World → Prop} {ds : List Nat} {id m : Nat} {a : Act} {w : World} (hp : ops.toList.all plainOp = true) (l : Array Bool) (hm : P.follows .mixedOrders = true) (hn : ops.size = m) (hl : Array.replicate m false = l) (hS : S w.drew)
    (h : S w.drew → wpAnyLast P .any ops (shut Q) S ds m l a w.drew) : (Code.region id ops true).wpIn (W l₀) n P Q a w := by
  subst hn
  subst hl
  exact wpIn_mono (wpIn_region_any hm (anyIn_of hp shut_out _ _ _ _ (wpAny_of_last _ _ _ _ (h hS)))) (fun _ _ _ => shut_of)
/-! ### what a round keeps -/
/-- The blocks of bs lie as they lay. -/
def Kp (bs : List Nat) (A B : World) : Prop := ∀ k, k ∈ bs → ∀ o, A.heap[k]? = some o → o.isCells = true → B.heap[k]? = some o
/-- .. and so does whatever is no cells. -/
structure Rd (bs : List Nat) (A B : World) : Prop where
  size : A.heap.size ≤ B.heap.size
  same : ∀ k o, A.heap[k]? = some o → (o.isCells = false ∨ k ∈ bs) → B.heap[k]? = some o
theorem Kp.trans {bs : List Nat} {A B C : World} (h : Kp bs A B) (k : Kp bs B C) : Kp bs A C := fun i hi o ho hc => k i hi o (h i hi o ho hc) hc
theorem Kp.put {bs : List Nat} (A : World) (l : Nat) (o o' : Obj) (hl : A.heap[l]? = some o) (hc : o.isCells = false) : Kp bs A (A.putObj l o') := fun k _ q hq hqc => by
  by_cases h : k = l
  · subst h; rw [hl] at hq; cases hq; rw [hc] at hqc; cases hqc
  · exact (World.putObj_heap_other h).trans hq
theorem Rd.refl (bs : List Nat) (A : World) : Rd bs A A := ⟨Nat.le_refl _, fun _ _ h _ => h⟩
theorem Rd.keeps {bs : List Nat} {A B : World} (h : Rd bs A B) (N : Nat) : KeepsFrom N A B := ⟨h.size, fun k o _ ho hc => h.same k o ho (.inl hc)⟩
theorem Rd.kp {bs : List Nat} {A B : World} (h : Rd bs A B) : Kp bs A B := fun k hk o ho _ => h.same k o ho (.inr hk)
theorem Rd.grown {bs : List Nat} {A B C : World} (h : Rd bs A B) {row : Option Nat} (hg : B.grownBy C row) (hr : ∀ r, row = some r → r ∉ bs ∧ ∃ cs t f, B.heap[r]? = some (.cells cs t f)) : Rd bs A C :=
  ⟨Nat.le_trans h.size hg.size, fun k o ho hk => by
    have hB := h.same k o ho hk
    have hlt := (Array.getElem?_eq_some_iff.1 hB).1
    refine (hg.block k hlt (fun e => ?_)).trans hB
    obtain ⟨hn, cs, t, f, hc⟩ := hr k e.symm
    rcases hk with hk | hk
    · rw [hc] at hB; cases hB; cases hk
    · exact hn hk⟩
theorem Rd.below {bs : List Nat} {A B C : World} (h : Rd bs A B) (hb : Below B.heap.size B C) : Rd bs A C :=
  ⟨Nat.le_trans h.size hb.size, fun k o ho hk => by
    have hB := h.same k o ho hk
    exact (hb.block k (Array.getElem?_eq_some_iff.1 hB).1).trans hB⟩
theorem Rd.drewN {bs : List Nat} {A B : World} (h : Rd bs A B) (m : Nat) : Rd bs A (B.drewN m) := h.below (pw_below_drewN (Below.refl _ _) m)
theorem Rd.drew {bs : List Nat} {A B : World} (h : Rd bs A B) : Rd bs A B.drew := h.below (below_drew (Below.refl _ _))
theorem Rd.alloc {bs : List Nat} {A B : World} (h : Rd bs A B) (o : Obj) : Rd bs A (B.alloc o) := h.below (below_alloc (Below.refl _ _) o)
theorem Rd.set {bs : List Nat} {A B : World} (h : Rd bs A B) {g : Nat} {cs : Array Value} {t : TypeId} {f : Nat × Nat} (hc : B.heap[g]? = some (.cells cs t f)) (hg : g ∉ bs) (i : Nat) (v : Value) : Rd bs A (B.setCell ⟨g, i, none⟩ v) :=
  ⟨Nat.le_trans h.size (Nat.le_of_eq (setCell_size _ _ _).symm), fun k o ho hk => by
    have hB := h.same k o ho hk
    refine (Below.heap_setCell B ⟨g, i, none⟩ v k (fun e => ?_)).trans hB
    have e : k = g := e
    subst e
    rcases hk with hk | hk
    · rw [hc] at hB; cases hB; cases hk
    · exact hg hk⟩
theorem Rd.row {bs : List Nat} {A B : World} (h : Rd bs A B) {g : Nat} {cs : Array Value} {t : TypeId} {f : Nat × Nat} (hc : B.heap[g]? = some (.cells cs t f)) (hg : g ∉ bs) (us : Array Value) : Rd bs A (B.setRow g us) :=
  ⟨by rw [setRow_size]; exact h.size, fun k o ho hk => by
    have hB := h.same k o ho hk
    refine (setRow_other B g k us (fun e => ?_)).trans hB
    subst e
    rcases hk with hk | hk
    · rw [hc] at hB; cases hB; cases hk
    · exact hg hk⟩
/-! ### what a walk's own book-keeping leaves -/
section
variable {B : Nat}
theorem lasts_true : Lasts B (fun _ => True) := fun _ _ _ _ h _ _ => h
theorem lasts_pure (p : Prop) : Lasts B (fun _ => p) := fun _ _ _ _ h _ _ => h
theorem lasts_and {I J : World → Prop} (h : Lasts B I) (k : Lasts B J) : Lasts B (fun w => I w ∧ J w) := fun s X Y row hs hg hr => ⟨h s X Y row hs.1 hg hr, k s X Y row hs.2 hg hr⟩
theorem lasts_ex {α : Sort _} {I : α → World → Prop} (h : ∀ x, Lasts B (I x)) : Lasts B (fun w => ∃ x, I x w) := fun s X Y row hs hg hr => let ⟨x, hx⟩ := hs; ⟨x, h x s X Y row hx hg hr⟩
theorem lasts_aside {I : World → Prop} (h : Lasts B I) : Lasts B (fun w => Aside0 (I w)) := fun s X Y row hs hg hr => ⟨h s X Y row hs.out hg hr⟩
theorem lasts_mem (k : IntKind) (g : Nat) (t : TypeId) (cs : List Int) : Lasts B (fun w => Mem k w g t cs) := fun _ X Y row hs hg hr => by
  refine (hg.block g hs.lt (fun e => ?_)).trans hs
  obtain ⟨_, o, ho, hc⟩ := hr g e.symm
  rw [show X.heap[g]? = _ from hs] at ho
  cases ho; cases hc
theorem lasts_cells (g : Nat) (cs : Array Value) (t : TypeId) (f : Nat × Nat) : Lasts B (fun w => w.heap[g]? = some (.cells cs t f)) := fun _ X Y row hs hg hr => by
  refine (hg.block g (Array.getElem?_eq_some_iff.1 hs).1 (fun e => ?_)).trans hs
  obtain ⟨_, o, ho, hc⟩ := hr g e.symm
  rw [hs] at ho
  cases ho; cases hc
theorem lasts_below (w0 : World) (h : w0.heap.size ≤ B) : Lasts B (fun w => Below w0.heap.size w0 w) := fun _ X Y row hs hg hr =>
  ⟨hg.os.trans hs.os, hg.tape.trans hs.tape, hg.output.trans hs.output, Nat.le_trans hs.size hg.size, fun k hk => (hg.block k (Nat.lt_of_lt_of_le hk hs.size) (fun e => by have := (hr k e.symm).1; omega)).trans (hs.block k hk)⟩
theorem lasts_R {α : Type} {d : Kd α} (hE : d.E = []) {e b : Nat} {ok : Nat → Prop} (v : Value) (xs : List α) : Lasts B (fun w => d.R e w b ok v xs) := fun _ X Y row hs hg hr =>
  Kd.R_grown2 hs hE hg (fun k hk he => by
    obtain ⟨_, o, ho, hc⟩ := hr k hk
    obtain ⟨cells, hcl⟩ := Kd.R_typed hs k he.symm
    rw [hcl] at ho
    cases ho; cases hc)
end
/-- How a round may be left, by what it keeps. -/
def leftR (bs : List Nat) (I : World → Prop) (Ix : Code → World → Prop) (A : World) : Exit → Act → World → Prop
  | .normal, _, B => Rd bs A B ∧ I B
  | .ret, _, B => Rd bs A B ∧ Ix .ret B
  | .exit id, _, B => Rd bs A B ∧ Ix (.exit id) B
  | _, _, _ => False
theorem leftR_shut {bs : List Nat} {I : World → Prop} {Ix : Code → World → Prop} {A : World} : ¬ LetsOut (leftR bs I Ix A) := fun ⟨_, _, h⟩ => h
theorem then_shut {K : Act → World → Prop} {Q : Exit → Act → World → Prop} (h : ¬ LetsOut Q) : ¬ LetsOut (Exit.then K Q) := fun ⟨a, w, x⟩ => h ⟨a, w, x⟩
theorem block_shut {id : Nat} {Q : Exit → Act → World → Prop} (h : ¬ LetsOut Q) : ¬ LetsOut (Exit.inBlock id Q) := fun ⟨a, w, x⟩ => h ⟨a, w, x⟩
theorem range_wp {g : Operand} {p : Tmp} {assign body : Code} {a : Act} {w : World}
    {gf : Nat} {lb : Array Value} (hg : a.eval g = .func (.func gf) #[] lb) (eg : ∀ args w, (callFunc gf args).run P w = .ok (.enter gf args) w)
    {G : Nat → Value → World → Prop} {St : World → World → Prop} {bs : List Nat} {N : Nat} {fin : Prop} {w0 : World} (hseq : SeqN Fence.wide 9 P gf lb G St (Kp bs) N fin w0)
    (hSt : ∀ A B, St A B → ∀ b o, w.heap.size ≤ b → A.heap[b]? = some o → o.isCells = false → B.heap[b]? = some o) (hb0 : Below w0.heap.size w0 w)
    (I : Nat → World → Prop) (Ix : Code → World → Prop) (hI : ∀ j, Lasts w.heap.size (I j)) (hIx : ∀ c, Lasts w.heap.size (Ix c)) (hG : ∀ j v, Lasts w.heap.size (G j v))
    (hIs : ∀ j A B, I j A → St A B → I j B) (hIxs : ∀ c A B, Ix c A → St A B → Ix c B) (hIN : ∀ j A, I j A → j ≤ N) (h0 : I 0 w) (a₁ : Value → Act)
    (hassign : ∀ (l : Nat) (v : Value) (W : World) (K : Act → World → Prop), K (a₁ v) W → assign.wpIn (RoundKit.W l) 8 P (Exit.then K (fun _ _ _ => False)) { tmps := a.tmps.setIfInBounds p v, defers := [] } W)
    (hbody : ∀ (l j : Nat) (v : Value) (W : World), I j W → G j v W → body.wpIn (RoundKit.W l) 8 P (leftR bs (I (j + 1)) Ix W) (a₁ v) W)
    (hdone : ∀ (D : Nat) (W : World), w.heap.size ≤ D → fin → I N W → W.heap[D]? = some (.deferred (some [])) → Q .normal { a with defers := { target := .collected D, args := #[] } :: a.defers } W)
    (hstop : ∀ (D : Nat) (c : Code) (W : World), w.heap.size ≤ D → Ix c W → W.heap[D]? = some (.deferred (some [])) → c.wp P Q { a with defers := { target := .collected D, args := #[] } :: a.defers } W) :
    (Code.rangeFunc g #[p] assign body).wp P Q a w :=
  (wpIn_wide (n := 10)).1 (wpIn_rangeN rfl (by decide) hg trivial eg hseq Kp.trans (fun W l o o' _ hl hc _ => Kp.put W l o o' hl hc) hSt hb0 I Ix hI hIx hG hIs hIxs hIN h0 a₁ hassign
    (fun l j v W hi hgv => wpIn_mono (hbody l j v W hi hgv) (fun e a' W' h => by
      cases e with
      | normal => exact ⟨h.1.keeps _, h.1.kp, h.2⟩
      | ret => exact ⟨h.1.keeps _, h.2⟩
      | exit id => exact ⟨h.1.keeps _, h.2⟩
      | goto t => exact h.elim
      | panic ch => exact h
      | outgrown => exact h))
    hdone (fun D c W hD hx hk => (wpIn_wide (n := 10)).2 (hstop D c W hD hx hk)))
end Go.Proofs.Ythijjpiddelefaa.RoundKit
namespace Go.Proofs.Ythijjpiddelefaa.Chunk
open Go Go.RowKit Go.Proofs.YthijjpiddelefaaW.PrintWords Go.Proofs.YthijjpiddelefaaW.PrintLast Go.Proofs.YthijjpiddelefaaW.PrintMore Byte Mem RangeN RoundKit HandKit
attribute [local go_sem] max2_int min2_int max_two min_two
set_option linter.unusedVariables false
set_option linter.unusedSimpArgs false
set_option maxHeartbeats 4000000
set_option maxRecDepth 100000
theorem chunk_c (A : Option Addr) (m c : Nat) (rate : Nat) (h : 1 ≤ rate) (w : World) : Calls Try.prog 56 #[.slice A m c, .int .i64 (rate : Int)] w fun e w' => e = .returned (.func (.func 76) #[] #[.pointer (some ⟨w.heap.size, 0, none⟩), .pointer (some ⟨w.heap.size + 1, 0, none⟩)]) ∧ w' = (w.alloc (.cells #[.slice A m c] 22)).alloc (.cells #[.int .i64 (rate : Int)] 3) := by
  have h1 : ¬ (rate : Int) < 1 := by omega
  have h2 : (0 : Int) < (rate : Int) := by omega
  go_enter Try.func56, Try.ntmps56
  go_wp2
  go_ret
  exact ⟨rfl, rfl⟩
theorem cell_of {w : World} {b : Nat} {v : Value} {t : TypeId} (h : w.heap[b]? = some (.cells #[v] t (0, 0))) : w.cell? ⟨b, 0, none⟩ = some v := by
  rw [cell_of_row w b 0 _ t _ h]; rfl
theorem chunk_seq (bS bN g o rate NB m c : Nat) (h1 : 1 ≤ rate) (hm : m = rate * NB) (hmc : m ≤ c) (hb : m ≤ 1000000200) (w : World) (hS : w.heap[bS]? = some (.cells #[.slice (some ⟨g, o, none⟩) m c] 22 (0, 0))) (hN : w.heap[bN]? = some (.cells #[.int .i64 (rate : Int)] 3 (0, 0))) :
    SeqN Fence.wide 9 Try.prog 76 #[.pointer (some ⟨bS, 0, none⟩), .pointer (some ⟨bN, 0, none⟩)] (fun j v _ => j < NB ∧ v = .slice (some ⟨g, o + rate * j, none⟩) rate rate) (fun A B => Below A.heap.size A B) (Kp [bS, bN]) NB True w := by
  intro l J Jx W hW hJ hJx hJN hY h0
  have HS := Aside0.mk (show W.heap[bS]? = some (.cells #[.slice (some ⟨g, o, none⟩) m c] 22 (0, 0)) from (hW.block bS (Array.getElem?_eq_some_iff.1 hS).1).trans hS)
  have HN := Aside0.mk (show W.heap[bN]? = some (.cells #[.int .i64 (rate : Int)] 3 (0, 0)) from (hW.block bN (Array.getElem?_eq_some_iff.1 hN).1).trans hN)
  have HY := Aside0.mk hY
  have HJS := Aside0.mk hJ
  have HJ := Aside0.mk h0
  have HM := Aside0.mk hm
  clear hW hS hN hY h0 hJ hJx hJN hm
  refine callsIn_of_wp Try.func76 rfl trivial ((wpIn_wide (n := 9)).2 ?_)
  simp only [Try.ntmps76, List.size_toArray, List.length_cons, List.length_nil, Nat.reduceAdd, Nat.reduceSub, Array.replicate_succ, Array.replicate_zero, List.push_toArray, List.append_toArray, List.nil_append, List.cons_append]
  go_wp2
  go_loopg [4] NB (fun kq i w' => ∃ j p : Nat, j + kq = NB ∧ p = rate * j ∧ i = .int .i64 (p : Int) ∧ Aside0 (J j w') ∧ Aside0 (w'.heap[bS]? = some (.cells #[.slice (some ⟨g, o, none⟩) m c] 22 (0, 0))) ∧ Aside0 (w'.heap[bN]? = some (.cells #[.int .i64 (rate : Int)] 3 (0, 0))))
  case atStart => exact ⟨0, 0, by omega, rfl, rfl, HJ, HS, HN⟩
  case round =>
    clear HJ HS HN
    obtain ⟨j, p, hj, hp, rfl, HJ, HS, HN⟩ := hrel
    cases gk with
    | zero =>
      obtain rfl : j = NB := by omega
      have hnl : ¬ (p : Int) < (m : Int) := by have := HM.out; omega
      have hs := cell_of HS.out
      have hn := cell_of HN.out
      clear hj hp
      go_wp2
      exact bodyPost_end (results_none rfl _ _ _) rfl ⟨⟨_, rfl⟩, .inl HJ.out⟩
    | succ k1 =>
      have hpl : p + rate ≤ m := by
        rw [HM.out, hp]
        have := Nat.mul_le_mul (Nat.le_refl rate) (show j + 1 ≤ NB by omega)
        rw [Nat.mul_add] at this
        omega
      have HP := Aside0.mk (And.intro hp hj)
      have hlt : (p : Int) < (m : Int) := by omega
      have hlc : (p : Int) ≤ (c : Int) := by omega
      have hp0 : (0 : Int) ≤ (p : Int) := by omega
      have hpm : (p : Int) ≤ (m : Int) := by omega
      have hmc2 : (m : Int) ≤ (c : Int) := by omega
      have hcp : (c = p) = False := by apply eq_false; omega
      have hs := cell_of HS.out
      have hn := cell_of HN.out
      have hmin : (m - p < rate) = False := by apply eq_false; omega
      obtain ⟨q, hq⟩ : ∃ q, q = p + rate := ⟨_, rfl⟩
      have i1 : wrap64 ((p : Int) + (rate : Int)) = (q : Int) := by unfold wrap64; omega
      have i2 : (p : Int) ≤ (q : Int) := by omega
      have i3 : (q : Int) ≤ (c : Int) := by omega
      have i4 : q - p = rate := by omega
      have i5 : (q = p) = False := by apply eq_false; omega
      have HQ := Aside0.mk hq
      have HPL := Aside0.mk hpl
      obtain ⟨fn, tmps, assign, body, hy, hR⟩ := HY.out j (.slice (some ⟨g, o + p, none⟩) rate rate) wr.drew (HJS.out j _ _ HJ.out (below_drew (Below.refl _ _))) ⟨by have := HP.out.2; omega, by rw [HP.out.1]⟩
      have HRR := Aside0.mk hR
      have HYY := Aside0.mk hy
      clear hp hj hq hpl hR hy
      go_upto_region 3 with (fail)
      refine start_ (n := 7) (S := fun w' => w'.cell? ⟨bN, 0, none⟩ = some (.int .i64 (rate : Int)) ∧ w'.cell? ⟨bS, 0, none⟩ = some (.slice (some ⟨g, o, none⟩) m c)) (ds := []) #[false, false, false, false, false, false, false] (by kernel_rfl) rfl rfl ⟨hn, hs⟩ (fun hHeld => ?_)
      refine pure_ (i := 2) (N := some 15) (v := ?_) (a' := ?_) #[false, false, true, false, false, false, false] rfl rfl (by kernel_rfl) (fun _ _ _ h => h) (Or.inl ⟨by rfl, ?_⟩) ?_ ?_
      rotate_left
      · intro w'
        go_simp
        with_reducible rfl
      rotate_left
      · simp only [Act.put, List.setIfInBounds_toArray, List.set_cons_zero, List.set_cons_succ, i64_w, i32_w]
        rfl
      refine take_ (i := 0) (N := some 13) (v := ?_) (a' := ?_) #[true, false, true, false, false, false, false] rfl rfl (by kernel_rfl) (fun _ _ _ h => h) (Or.inl ⟨by rfl, ?_⟩) hHeld ?_ ?_
      rotate_left
      · rintro w' ⟨s0, s1⟩
        go_simp
        with_reducible rfl
      rotate_left
      · simp only [Act.put, List.setIfInBounds_toArray, List.set_cons_zero, List.set_cons_succ, i64_w, i32_w]
        rfl
      refine take_ (i := 1) (N := some 14) (v := ?_) (a' := ?_) #[true, true, true, false, false, false, false] rfl rfl (by kernel_rfl) (fun _ _ _ h => h) (Or.inl ⟨by rfl, ?_⟩) hHeld ?_ ?_
      rotate_left
      · rintro w' ⟨s0, s1⟩
        go_simp
        with_reducible rfl
      rotate_left
      · simp only [Act.put, List.setIfInBounds_toArray, List.set_cons_zero, List.set_cons_succ, i64_w, i32_w]
        rfl
      refine pure_ (i := 3) (N := some 16) (v := ?_) (a' := ?_) #[true, true, true, true, false, false, false] rfl rfl (by kernel_rfl) (fun _ _ _ h => h) (Or.inl ⟨by rfl, ?_⟩) ?_ ?_
      rotate_left
      · intro w'
        go_simp
        with_reducible rfl
      rotate_left
      · simp only [Act.put, List.setIfInBounds_toArray, List.set_cons_zero, List.set_cons_succ, i64_w, i32_w]
        rfl
      refine pure_ (i := 4) (N := some 17) (v := ?_) (a' := ?_) #[true, true, true, true, true, false, false] rfl rfl (by kernel_rfl) (fun _ _ _ h => h) (Or.inl ⟨by rfl, ?_⟩) ?_ ?_
      rotate_left
      · intro w'
        go_simp
        with_reducible rfl
      rotate_left
      · simp only [Act.put, List.setIfInBounds_toArray, List.set_cons_zero, List.set_cons_succ, i64_w, i32_w]
        rfl
      refine pure_ (i := 5) (N := some 18) (v := ?_) (a' := ?_) #[true, true, true, true, true, true, false] rfl rfl (by kernel_rfl) (fun _ _ _ h => h) (Or.inl ⟨by rfl, ?_⟩) ?_ ?_
      rotate_left
      · intro w'
        go_simp
        with_reducible rfl
      rotate_left
      · simp only [Act.put, List.setIfInBounds_toArray, List.set_cons_zero, List.set_cons_succ, i64_w, i32_w]
        rfl
      refine pure_ (i := 6) (N := some 5) (v := ?_) (a' := ?_) #[true, true, true, true, true, true, true] rfl rfl (by kernel_rfl) (fun _ _ _ h => h) (Or.inl ⟨by rfl, ?_⟩) ?_ ?_
      rotate_left
      · intro w'
        go_simp
        with_reducible rfl
      rotate_left
      · simp only [Act.put, List.setIfInBounds_toArray, List.set_cons_zero, List.set_cons_succ, i64_w, i32_w]
        rfl
      refine done_ (by kernel_rfl) ?_
      go_upto_region 4 with (fail)
      have hy := HYY.out
      clear HYY
      refine (wpIn_wide (n := 9)).1 ?_
      gi_wp2
      refine HRR.out.mono ?_
      rintro e W3 (⟨rfl, hJ3, hk3⟩ | ⟨rfl, hJx3⟩)
      · have HS3 := Aside0.mk (hk3 bS (by simp) _ (show wr.drew.heap[bS]? = _ from HS.out) rfl)
        have HN3 := Aside0.mk (hk3 bN (by simp) _ (show wr.drew.heap[bN]? = _ from HN.out) rfl)
        have hn3 := cell_of HN3.out
        have HJ3 := Aside0.mk hJ3
        clear hs hn hHeld hy HS HN HJ hk3 hJ3
        gi_wp2
        go_wp2
        go_roundg k1
        case measure => omega
        case rel => exact ⟨j + 1, q, by have := HP.out.2; omega, by rw [HQ.out, HP.out.1, Nat.mul_add]; omega, by rw [i1], HJ3, HS3, HN3⟩
      · clear hs hn hHeld hy HS HN HJ
        have HJX := Aside0.mk hJx3
        clear hJx3
        gi_wp2
        go_wp2
        exact bodyPost_ret (results_none rfl _ _ _) rfl ⟨⟨_, rfl⟩, .inr HJX.out⟩
end Go.Proofs.Ythijjpiddelefaa.Chunk
namespace Go.Proofs.Ythijjpiddelefaa.Sponge
open Go.RowKit Go.Proofs.Ythijjpiddelefaa.PKec Go.Proofs.YthijjpiddelefaaW.PrintWords Go.Proofs.YthijjpiddelefaaW.PrintLast Go.Proofs.YthijjpiddelefaaW.PrintMore Byte Sl Arr Mem Gives RotC KecT ArrEq OctMath Store SWord Keccak CodeMath SpMath HandKit
set_option linter.unusedVariables false
set_option linter.unusedSimpArgs false
set_option maxHeartbeats 4000000
set_option maxRecDepth 100000
/-- A row of bytes of the call's own, behind the block at b. -/
def Rw (w' : World) (b : Nat) (v : Value) (l : List Int) : Prop := Kd.R (Kd.int .u8) 5 w' b (fun k => b + 1 ≤ k) v l
section
variable {b : Nat} {W w1 : World} {v : Value} {l : List Int}
theorem Rw.of (ho : Kd.R (Kd.int .u8) 5 w1 W.heap.size (fun _ => True) v l) (hs : b + 1 ≤ W.heap.size) : Rw w1 b v l := Kd.R_mono (Kd.R_lower (Kd.R_bound ho) (by omega)) (fun k hk => Nat.le_trans hs hk.2.1)
theorem Rw.drew (h : Rw W b v l) : Rw W.drew b v l := Kd.R_drew h
theorem Rw.drewN (h : Rw W b v l) (n : Nat) : Rw (W.drewN n) b v l := Kd.R_drewN h n
theorem Rw.set (h : Rw W b v l) (i : Nat) (u : Value) : Rw (W.setCell ⟨b, i, none⟩ u) b v l := Kd.R_far h (fun k hk => by show k ≠ b; omega) u
theorem Rw.row (h : Rw W b v l) (cs : Array Value) : Rw (W.setRow b cs) b v l := Kd.R_step h (fun k hk _ => setRow_other _ _ _ _ (by omega))
theorem Rw.below (h : Rw W b v l) (hb : Below W.heap.size W w1) : Rw w1 b v l := Kd.R_below h hb
theorem Rw.reads (h : Rw W b v l) : ∃ A c, v = .slice A l.length c ∧ l.length ≤ c ∧ Kd.C (Kd.int .u8) W A l.length l := Kd.R_reads h
theorem Rw.away (h : Rw W b v l) : some b ≠ v.ownBlock := fun e => by have := h.1 b e.symm; omega
theorem Mem_grown {k : IntKind} {g : Nat} {t : TypeId} {cs : List Int} (h : Mem k W g t cs) {row : Option Nat} (hg : W.grownBy w1 row) (hne : some g ≠ row) : Mem k w1 g t cs := (hg.block g h.lt hne).trans h
end
theorem rload_c (A : Option Addr) (c : Nat) (l : List Int) (p : Nat) (w : World) (hC : Kd.C (Kd.int .u8) w A l.length l) (hc : l.length ≤ c) (hb : IsB l) (hl : l.length ≤ 140737488351232) : Calls Try.prog 60 #[.slice A l.length c, .int .i64 (p : Int)] w fun e w' => e = .returned (.int .u64 ((loadV l (p : Int) : Nat) : Int)) ∧ Drawn0 w w' :=
  visorref01_Load.calls 12 A c l p _ w hC hc (RLoad_eq hb hl p 12 (by decide))
theorem rstore_c (x : Int) (hx : IsWord x) (w : World) : Calls Try.prog 62 #[.int .u64 x, .int .i64 8] w fun e w' => ∃ v0_ : Value, e = .returned v0_ ∧ Kd.R (Kd.int .u8) 5 w' w.heap.size (fun _ => True) v0_ (stL x 8) ∧ Below w.heap.size w w' := by
  obtain ⟨y, rfl⟩ := I64_of x hx.1 hx.2
  have := RStore_eq y 8 9 (by decide)
  rw [show min (8 : Int).toNat 8 = 8 by decide, ← stL_dg y 8 (by decide)] at this
  exact visorref01_Store.calls 9 _ _ _ w this
def allB (l : List Int) : Bool := l.all fun x => decide (0 ≤ x ∧ x < 256)
theorem allB_iff (l : List Int) : allB l = true ↔ IsB l := by
  unfold allB IsB
  simp
def visorref15_Sum.f (m : List Int) (rate : Int) (mark : Int) (n : Int) : Option (List Int) := if m.length ≤ 1000000000 ∧ 8 ≤ rate ∧ rate ≤ 192 ∧ rate % 8 = 0 ∧ 0 ≤ n ∧ n ≤ 1000000 ∧ allB m = true ∧ 0 ≤ mark ∧ mark < 256 then some (sumL m rate.toNat mark n.toNat) else none
theorem rsum_c (A0 : Option Addr) (c0 : Nat) (m : List Int) (rate : Nat) (mark : Int) (n : Nat) (w : World) (hr0 : Kd.C (Kd.int .u8) w A0 m.length m) (hc0 : m.length ≤ c0) (hm : m.length ≤ 1000000000) (h8 : 8 ≤ rate) (h192 : rate ≤ 192) (hmod : rate % 8 = 0) (hn : n ≤ 1000000) (hmb : IsB m) (hmk : 0 ≤ mark ∧ mark < 256) :
    Calls Try.prog 33 #[.slice A0 m.length c0, .int .i64 rate, .int .u8 mark, .int .i64 n] w fun e w' => ∃ v0_ : Value, e = .returned (v0_) ∧ Kd.R (Kd.int .u8) 5 w' w.heap.size (fun _ => True) v0_ (sumL m rate mark n) ∧ Below w.heap.size w w' := by
  obtain ⟨kf, hkf⟩ := (rfill_ev m rate mark (by omega) (by omega) (by omega)).rounds
  have HF0 := Aside0.mk hkf
  have HR0 := Aside0.mk hr0
  have HC0 := Aside0.mk hc0
  have HLB := Aside0.mk (fillL_b m rate mark hmb hmk)
  have HLL := Aside0.mk (fillL_length m rate mark (by omega))
  obtain ⟨NBl, hNB⟩ : ∃ q, q = m.length / rate + 1 := ⟨_, rfl⟩
  have hNBm : NBl * rate ≤ 1000000200 := by
    have h1 := Nat.div_mul_le_self m.length rate
    rw [hNB, Nat.add_mul]; omega
  rw [← hNB] at HLL
  have HSUM := Aside0.mk (show sumL m rate mark n = (outL (absorb (fillL m rate mark) rate NBl) (rate / 8) (turnsN n rate)).take n by unfold sumL; rw [hNB])
  obtain ⟨q, hq⟩ : ∃ q, q = rate / 8 := ⟨_, rfl⟩
  have hq8 : 8 * q = rate := by omega
  have hq25 : q ≤ 24 := by omega
  rw [← hq] at HSUM
  have HABQ := Aside0.mk (show ∀ l j, absorb l rate (j + 1) = permTo (xorTo (absorb l rate j) l (rate * j) q) 24 from fun l j => by rw [absorb, hq])
  generalize hl : fillL m rate mark = l at *
  have M1 := Aside0.mk (Mem.new .u64 w 72 zst)
  have HB := Aside0.mk (below_alloc (Below.refl w.heap.size w) (.cells (cellsOf .u64 zst) 72))
  have N1 := Aside0.mk (Mem.put M1.out zst)
  have NB := Aside0.mk (below_setRow HB.out (g := w.heap.size) (Nat.le_refl _) (cellsOf .u64 zst))
  have HN := Aside0.mk (turns_ge n rate (by omega))
  have HT := Aside0.mk (fun j => turns_lt n rate j (by omega))
  have HQ := Aside0.mk hq
  have hqd : (rate : Int) / 8 = (q : Int) := by omega
  have hrate0 : (0 : Int) ≤ (rate : Int) := by omega
  clear hr0 hc0 hkf hl hNB hq
  go_enter Try.func33, Try.ntmps33
  go_wp2_with (first
    | ((with_reducible refine gate_dst (N := 15) rfl ?_); refine wpList_build_zero rfl 72 rfl (cellsOf .u64 zst) built25 ?_)
    | ((with_reducible refine gate_store (t := 72) (p := 9) rfl ?_); refine Mem.store (l' := zst) M1.out rfl 72 (.tmp 9) (.tmp 15) rfl rfl rfl info_st rfl ?_)
    | (go_at_call 32; (refine (visorref15_Fill.calls kf A0 c0 m (rate : Int) mark _ _ (Kd.C_below HR0.out NB.out) HC0.out HF0.out).mono ?_); rintro e w1 ⟨vl, rfl, ho, hb⟩; have HF := Aside0.mk (Rw.of (b := w.heap.size) ho N1.out.lt); have N1 := Aside0.mk (Mem.below N1.out hb); have NB := Aside0.mk (below_step NB.out hb); clear ho hb))
  clear M1 HB HF0 HR0 HC0
  obtain ⟨Al, cl, rfl, hcl, hrd⟩ := HF.out.reads
  clear hrd
  have HCL := Aside0.mk hcl
  clear hcl
  go_loopg [11, 12] NBl (fun kq i kk w' => ∃ j : Nat, j + kq = NBl ∧ i = .int .i64 ((rate * j : Nat) : Int) ∧ Aside0 (Mem .u64 w' w.heap.size 72 (absorb l rate j)) ∧ Aside0 (Rw w' w.heap.size (.slice Al l.length cl) l) ∧ Aside0 (Below w.heap.size w w'))
  case atStart => exact ⟨0, by omega, by simp, N1, HF, NB⟩
  case round =>
    clear N1 HF NB
    obtain ⟨j, hj, rfl, M1, HF, HB⟩ := hrel
    cases gk with
    | zero =>
      obtain rfl : j = NBl := by omega
      have hll := HLL.out
      have hnl2 : ¬ rate * j < l.length := by rw [hll, Nat.mul_comm]; omega
      have HA := Aside0.mk (absorb_length l rate j)
      have HAW := Aside0.mk (absorb_words l rate HLB.out j)
      have HE := Aside0.mk hnl2
      clear HF HCL HLL HLB HABQ hj hll
      generalize absorb l rate j = a at *
      obtain ⟨i0, hi0⟩ : ∃ z : Nat, z = rate * j := ⟨_, rfl⟩
      rw [← hi0] at HE hnl2 ⊢
      clear hi0 HE
      go_wp2_with (first
        | ((with_reducible refine gate_dst (N := 47) rfl ?_); refine Kd.R_lit (Kd.int .u8) w.heap.size 5 ?hg (N := 47) ?hd (w0 := w) (xs := ([] : List Int)) (inner := []) (ok := fun k => w.heap.size + 1 ≤ k) (okp := fun _ => False) ?hr ?hp (fun _ hk => hk.elim) M1.out.lt HB.out HB.out.size (by simp) ?_; (case hd => rfl); (case hg => rfl); (case hr => first | (go_simp; done) | (go_simp; rfl)); (case hp => exact (Reps.none _ _)); intro v1 w3 ho4 hb hg_ hnew_; have M1 := Aside0.mk (Mem_grown M1.out hg_ (by simp)); have HO := Aside0.mk (show Rw w3 w.heap.size v1 [] from ho4); have HB := Aside0.mk hb; clear hb ho4 hg_ hnew_))
      clear hnl2
      go_loopg [13, 14] (turnsN n rate) (fun kq ov kk w' => ∃ j : Nat, j + kq = turnsN n rate ∧ Aside0 (Mem .u64 w' w.heap.size 72 (sq a j)) ∧ Aside0 (Rw w' w.heap.size ov (outL a q j)) ∧ Aside0 (Below w.heap.size w w'))
      case atStart => exact ⟨0, by omega, M1, HO, HB⟩
      case round =>
        clear M1 HO HB
        obtain ⟨j, hj, M1, HO, HB⟩ := hrel
        have hol := outL_length a q j
        obtain ⟨Ao, co, rfl, hco, hrd⟩ := HO.out.reads
        clear hrd
        cases gk with
        | zero =>
          obtain rfl : j = turnsN n rate := by omega
          have hge := HN.out
          rw [hq8] at hol
          have hnlen : n ≤ (outL a q (turnsN n rate)).length := by rw [hol]; exact hge
          have hd1 : ¬ (outL a q (turnsN n rate)).length < n := by omega
          have hc1 : (n : Int) ≤ (co : Int) := by omega
          have hn0 : (0 : Int) ≤ (n : Int) := by omega
          have HTK := Aside0.mk (Kd.R_take (m := n) HO.out hnlen)
          clear hge hol hco hnlen HN HT
          generalize outL a q (turnsN n rate) = o at *
          go_wp2
          go_ret
          exact ⟨_, rfl, by rw [HSUM.out]; exact Kd.R_mono HTK.out (fun _ _ => trivial), HB.out⟩
        | succ k1 =>
          have hlt := HT.out j (by omega)
          have HJ := Aside0.mk hj
          rw [hq8] at hol
          have hd1 : (outL a q j).length < n := by rw [hol]; omega
          have HOL := Aside0.mk (show (outL a q j).length ≤ 1000000 by rw [hol]; omega)
          have HSL := Aside0.mk (sq_length a HA.out j)
          have HSW := Aside0.mk (sq_words a HAW.out j)
          have HON := Aside0.mk (show outL a q (j + 1) = outL a q j ++ told (sq a j) q from rfl)
          have HSN := Aside0.mk (show sq a (j + 1) = permTo (sq a j) 24 from rfl)
          clear hj hol hlt hco
          generalize sq a j = s at *
          generalize outL a q j = o at *
          go_wp2
          have HO1 : Aside0 (Rw _ w.heap.size (.slice Ao o.length co) (o ++ told s 0)) := ⟨by show Rw _ _ _ (o ++ []); rw [List.append_nil]; exact HO.out⟩
          clear hd1 HO
          go_loopg [13, 14] q (fun kq ov kv w' => ∃ k : Nat, k + kq = q ∧ kv = .int .i64 k ∧ Aside0 (Mem .u64 w' w.heap.size 72 s) ∧ Aside0 (Rw w' w.heap.size ov (o ++ told s k)) ∧ Aside0 (Below w.heap.size w w'))
          case atStart => exact ⟨0, by omega, rfl, M1, HO1, HB⟩
          case round =>
            clear M1 HO1 HB
            obtain ⟨k, hk, rfl, M1, HO, HB⟩ := hrel
            cases gk with
            | zero =>
              obtain rfl : k = q := by omega
              have hPL := permTo_length s HSL.out 24
              have HCP := Aside0.mk (rpermute_c s HSL.out HSW.out)
              rw [arrV_eq, arrV_eq] at HCP
              have HPL := Aside0.mk hPL
              clear hPL hk
              generalize permTo s 24 = p at *
              have hkd : ¬ (k : Int) < (k : Int) := by omega
              go_wp2_with (first
                | ((with_reducible refine gate_dst (N := 64) rfl ?_); refine Mem.load M1.out rfl 72 (.tmp 9) rfl rfl Try.underlying72 (by rw [HSL.out]; exact info_st) ?_)
                | (go_at_call 61; (with_reducible refine (HCP.out.q _).mono ?_); rintro e w4 ⟨rfl, hb4⟩; have M1 := Aside0.mk (Mem.below M1.out hb4); have HO := Aside0.mk (HO.out.below hb4); have HB := Aside0.mk (below_step HB.out hb4); clear hb4)
                | ((with_reducible refine gate_store (t := 72) (p := 9) rfl ?_); refine Mem.store (l' := p) M1.out rfl 72 (.tmp 9) (.tmp 65) rfl rfl rfl (by rw [HPL.out]; exact info_st) (by rw [HPL.out, HSL.out]) ?_))
              go_roundg k1
              case measure => omega
              case rel => exact ⟨j + 1, by have := HJ.out; omega, ⟨by rw [HSN.out]; exact Mem.put M1.out p⟩, ⟨by rw [HON.out]; exact HO.out.row _⟩, ⟨below_setRow HB.out (Nat.le_refl _) _⟩⟩
            | succ k2 =>
              have hkl : k < q := by omega
              have HK := Aside0.mk hk
              clear hk
              have hkl2 : (k : Int) < (q : Int) := by omega
              have hk25 : (k : Int) < 25 := by omega
              have hk0 : (0 : Int) ≤ (k : Int) := by omega
              have hx := M1.out.cell k (by rw [HSL.out]; omega)
              have HXW := Aside0.mk (words_getD HSW.out k)
              have HTN := Aside0.mk (show told s (k + 1) = told s k ++ stL (s.getD k 0) 8 from rfl)
              have HCS := Aside0.mk (rstore_c (s.getD k 0) HXW.out)
              have hfit : (o ++ told s k).length + (stL (s.getD k 0) 8).length ≤ 140737488355328 := by
                rw [List.length_append, told_length, stL_length]
                have := HOL.out
                omega
              have HFT := Aside0.mk hfit
              have HSTL := Aside0.mk (stL_length (s.getD k 0) 8)
              clear hfit
              obtain ⟨Ap, cp, rfl, hcp, hrd⟩ := HO.out.reads
              clear hrd hcp
              generalize stL (s.getD k 0) 8 = st at *
              generalize s.getD k 0 = x at *
              generalize hot : o ++ told s k = ot at *
              have HOT := Aside0.mk hot
              clear hot
              go_wp2_with (first
                | (go_at_call 62; (with_reducible refine (HCS.out _).mono ?_); rintro e w4 ⟨vs, rfl, hs, hb4⟩; have M1 := Aside0.mk (Mem.below M1.out hb4); have HO := Aside0.mk (HO.out.below hb4); have HB := Aside0.mk (below_step HB.out hb4); obtain ⟨As, cs, rfl, hcs, hCs⟩ := Kd.R_reads hs; have HCs := Aside0.mk hCs; clear hb4 hs hcs hCs)
                | ((with_reducible refine gate_builtin (b := .append) (xs := #[.tmp 58, .tmp 62]) rfl ?_); refine Kd.R_append_rows (Kd.int .u8) (w0 := w) w.heap.size rfl (.tmp 58) (.tmp 62) 22 5 (.int .u8 0) 1 rfl Try.underlying22 info_u8 rfl (by decide) (by omega) _ ot st As st.length cs (fun k => w.heap.size + 1 ≤ k) (fun _ => False) rfl rfl HO.out HCs.out (fun _ _ h => h) (fun _ h => h.elim) (fun k hk => Nat.le_trans M1.out.lt hk) HB.out HB.out.size ?aL ?_; (case aL => have := HFT.out; omega); intro v2 w5 ho hb hg hat; have M1 := Aside0.mk (Mem_grown M1.out hg HO.out.away); have HB := Aside0.mk hb; have HO2 := Aside0.mk (show Rw w5 w.heap.size v2 (ot ++ st) from ho); clear HO ho hb hg hat))
              go_roundg k2
              case measure => omega
              case rel => exact ⟨k + 1, by have := HK.out; omega, by go_num, M1, ⟨by rw [HTN.out, ← List.append_assoc, HOT.out]; exact HO2.out⟩, HB⟩
    | succ k1 =>
      have hjl : j < NBl := by omega
      have HJ := Aside0.mk hj
      clear hj
      obtain ⟨i0, hi0⟩ : ∃ z : Nat, z = rate * j := ⟨_, rfl⟩
      have hile : i0 + rate ≤ l.length := by
        rw [HLL.out, hi0, Nat.mul_comm NBl rate]
        have := Nat.mul_le_mul (Nat.le_refl rate) (show j + 1 ≤ NBl by omega)
        rw [Nat.mul_add] at this
        omega
      have hlm : l.length ≤ 1000000200 := by rw [HLL.out]; exact hNBm
      have HLM := Aside0.mk hlm
      have hd1 : i0 < l.length := by omega
      have HI := Aside0.mk hile
      have HAN := Aside0.mk (HABQ.out l j)
      have HA := Aside0.mk (absorb_length l rate j)
      have HAW := Aside0.mk (absorb_words l rate HLB.out j)
      have HNX := Aside0.mk (show rate * (j + 1) = i0 + rate by rw [Nat.mul_add, hi0]; omega)
      rw [← hi0] at HAN ⊢
      clear hi0 hile hlm
      generalize absorb l rate j = a at *
      go_wp2
      go_loopg [12] q (fun kq kv w' => ∃ k : Nat, k + kq = q ∧ kv = .int .i64 k ∧ Aside0 (Mem .u64 w' w.heap.size 72 (xorTo a l i0 k)) ∧ Aside0 (Rw w' w.heap.size (.slice Al l.length cl) l) ∧ Aside0 (Below w.heap.size w w'))
      case atStart => exact ⟨0, by omega, rfl, M1, HF, HB⟩
      case round =>
        clear M1 HF HB
        obtain ⟨k, hk, rfl, M1, HF, HB⟩ := hrel
        cases gk with
        | zero =>
          obtain rfl : k = q := by omega
          have HSL := Aside0.mk (show (xorTo a l i0 k).length = 25 by rw [xorTo_length, HA.out])
          have HSW := Aside0.mk (xorTo_words a l i0 HAW.out HLB.out k)
          generalize xorTo a l i0 k = s at *
          have hPL := permTo_length s HSL.out 24
          have HCP := Aside0.mk (rpermute_c s HSL.out HSW.out)
          rw [arrV_eq, arrV_eq] at HCP
          have HPL := Aside0.mk hPL
          clear hPL hk
          generalize permTo s 24 = p at *
          have hkd : ¬ (k : Int) < (k : Int) := by omega
          have fN : IntKind.i64.wrap ((i0 : Int) + (rate : Int)) = ((i0 + rate : Nat) : Int) := by have := HI.out; have := HLM.out; rw [IntKind.wrap_i64]; omega
          go_wp2_with (first
            | ((with_reducible refine gate_dst (N := 45) rfl ?_); refine Mem.load M1.out rfl 72 (.tmp 9) rfl rfl Try.underlying72 (by rw [HSL.out]; exact info_st) ?_)
            | (go_at_call 61; (with_reducible refine (HCP.out.q _).mono ?_); rintro e w4 ⟨rfl, hb4⟩; have M1 := Aside0.mk (Mem.below M1.out hb4); have HF := Aside0.mk (HF.out.below hb4); have HB := Aside0.mk (below_step HB.out hb4); clear hb4)
            | ((with_reducible refine gate_store (t := 72) (p := 9) rfl ?_); refine Mem.store (l' := p) M1.out rfl 72 (.tmp 9) (.tmp 46) rfl rfl rfl (by rw [HPL.out]; exact info_st) (by rw [HPL.out, HSL.out]) ?_))
          go_roundg k1
          case measure => omega
          case rel => exact ⟨j + 1, by have := HJ.out; omega, by rw [HNX.out]; first | rfl | (have := HI.out; have := HLM.out; go_num) | (have := HI.out; have := HLM.out; simp [wrap64]; omega), ⟨by rw [HAN.out]; exact Mem.put M1.out p⟩, HF.out.row _ |> Aside0.mk, ⟨below_setRow HB.out (Nat.le_refl _) _⟩⟩
        | succ k2 =>
          have hkl : k < q := by omega
          have HK := Aside0.mk hk
          clear hk
          have hkl2 : (k : Int) < (q : Int) := by omega
          have hk25 : (k : Int) < 25 := by omega
          have hk0 : (0 : Int) ≤ (k : Int) := by omega
          have hx := M1.out.cell k (by rw [xorTo_length, HA.out]; omega)
          have hf := M1.out.free k
          have HV := Aside0.mk (show xorTo a l i0 (k + 1) = (xorTo a l i0 k).set k (Go.bits .xor .u64 ((xorTo a l i0 k).getD k 0) ((loadV l ((i0 + 8 * k : Nat) : Int) : Nat) : Int)) from rfl)
          obtain ⟨k8, hk8⟩ : ∃ z : Nat, z = 8 * k := ⟨_, rfl⟩
          obtain ⟨p, hp⟩ : ∃ z : Nat, z = i0 + k8 := ⟨_, rfl⟩
          rw [← hk8, ← hp] at HV
          have hik := HI.out
          have hlm := HLM.out
          have f1 : IntKind.i64.wrap (8 * (k : Int)) = (k8 : Int) := by rw [IntKind.wrap_i64]; omega
          have f2 : IntKind.i64.wrap ((i0 : Int) + (k8 : Int)) = (p : Int) := by rw [IntKind.wrap_i64]; omega
          have HLMM := Aside0.mk (show l.length ≤ 140737488351232 by omega)
          clear hk8 hp hik hlm hkl
          have C3 := Aside0.mk (fun (w : World) (hC : Kd.C (Kd.int .u8) w Al l.length l) => rload_c Al cl l p w hC HCL.out HLB.out HLMM.out)
          generalize ((loadV l (p : Int) : Nat) : Int) = y at *
          generalize (xorTo a l i0 k).getD k 0 = x at *
          generalize xorTo a l i0 k = s at *
          go_wp2
          refine start_ (n := 13) (S := fun w' => w'.cell? ⟨w.heap.size, k, none⟩ = some (.int .u64 x)) (ds := [12]) #[false, false, false, false, false, false, false, false, false, false, false, false, false] (by kernel_rfl) rfl rfl (hx) (fun hHeld => ?_)
          refine pure_ (i := 0) (N := some 33) (v := ?_) (a' := ?_) #[true, false, false, false, false, false, false, false, false, false, false, false, false] rfl rfl (by kernel_rfl) (fun _ _ _ h => h) (Or.inl ⟨by rfl, ?_⟩) ?_ ?_
          rotate_left
          · intro w'
            go_simp
            with_reducible rfl
          rotate_left
          · simp only [Act.put, List.setIfInBounds_toArray, List.set_cons_zero, List.set_cons_succ, i64_w, i32_w]
            rfl
          refine pure_ (i := 1) (N := some 34) (v := ?_) (a' := ?_) #[true, true, false, false, false, false, false, false, false, false, false, false, false] rfl rfl (by kernel_rfl) (fun _ _ _ h => h) (Or.inl ⟨by rfl, ?_⟩) ?_ ?_
          rotate_left
          · intro w'
            go_simp
            with_reducible rfl
          rotate_left
          · simp only [Act.put, List.setIfInBounds_toArray, List.set_cons_zero, List.set_cons_succ, i64_w, i32_w]
            rfl
          refine pure_ (i := 2) (N := some 35) (v := ?_) (a' := ?_) #[true, true, true, false, false, false, false, false, false, false, false, false, false] rfl rfl (by kernel_rfl) (fun _ _ _ h => h) (Or.inl ⟨by rfl, ?_⟩) ?_ ?_
          rotate_left
          · intro w'
            go_simp
            with_reducible rfl
          rotate_left
          · simp only [Act.put, List.setIfInBounds_toArray, List.set_cons_zero, List.set_cons_succ, i64_w, i32_w]
            rfl
          refine pure_ (i := 4) (N := some 37) (v := ?_) (a' := ?_) #[true, true, true, false, true, false, false, false, false, false, false, false, false] rfl rfl (by kernel_rfl) (fun _ _ _ h => h) (Or.inl ⟨by rfl, ?_⟩) ?_ ?_
          rotate_left
          · intro w'
            go_simp
            with_reducible rfl
          rotate_left
          · simp only [Act.put, List.setIfInBounds_toArray, List.set_cons_zero, List.set_cons_succ, i64_w, i32_w]
            rfl
          refine pure_ (i := 5) (N := some 38) (v := ?_) (a' := ?_) #[true, true, true, false, true, true, false, false, false, false, false, false, false] rfl rfl (by kernel_rfl) (fun _ _ _ h => h) (Or.inl ⟨by rfl, ?_⟩) ?_ ?_
          rotate_left
          · intro w'
            go_simp
            with_reducible rfl
          rotate_left
          · simp only [Act.put, List.setIfInBounds_toArray, List.set_cons_zero, List.set_cons_succ, i64_w, i32_w]
            rfl
          refine pure_ (i := 6) (N := some 39) (v := ?_) (a' := ?_) #[true, true, true, false, true, true, true, false, false, false, false, false, false] rfl rfl (by kernel_rfl) (fun _ _ _ h => h) (Or.inl ⟨by rfl, ?_⟩) ?_ ?_
          rotate_left
          · intro w'
            go_simp
            with_reducible rfl
          rotate_left
          · simp only [Act.put, List.setIfInBounds_toArray, List.set_cons_zero, List.set_cons_succ, i64_w, i32_w]
            rfl
          refine pure_ (i := 7) (N := some 40) (v := ?_) (a' := ?_) #[true, true, true, false, true, true, true, true, false, false, false, false, false] rfl rfl (by kernel_rfl) (fun _ _ _ h => h) (Or.inl ⟨by rfl, ?_⟩) ?_ ?_
          rotate_left
          · intro w'
            go_simp
            with_reducible rfl
          rotate_left
          · simp only [Act.put, List.setIfInBounds_toArray, List.set_cons_zero, List.set_cons_succ, i64_w, i32_w]
            rfl
          refine pure_ (i := 8) (N := some 41) (v := ?_) (a' := ?_) #[true, true, true, false, true, true, true, true, true, false, false, false, false] rfl rfl (by kernel_rfl) (fun _ _ _ h => h) (Or.inl ⟨by rfl, ?_⟩) ?_ ?_
          rotate_left
          · intro w'
            go_simp
            with_reducible rfl
          rotate_left
          · simp only [Act.put, List.setIfInBounds_toArray, List.set_cons_zero, List.set_cons_succ, i64_w, i32_w]
            rfl
          refine take_ (i := 3) (N := some 36) (v := ?_) (a' := ?_) #[true, true, true, true, true, true, true, true, true, false, false, false, false] rfl rfl (by kernel_rfl) (fun _ _ _ h => h) (Or.inl ⟨by rfl, ?_⟩) hHeld ?_ ?_
          rotate_left
          · intro w' s0
            go_simp
            with_reducible rfl
          rotate_left
          · simp only [Act.put, List.setIfInBounds_toArray, List.set_cons_zero, List.set_cons_succ, i64_w, i32_w]
            rfl
          refine one_ (i := 9) (N := some 42) #[true, true, true, true, true, true, true, true, true, true, false, false, false] rfl rfl (by kernel_rfl) (by decide) (fun K hK => ?_)
          refine goes_ Try.func60 (by kernel_rfl) rfl #[.slice Al l.length cl, .int .i64 p] (by rfl) rfl rfl (by simp only [List.map_toArray, List.map_cons, List.map_nil]; rfl) ?_
          with_reducible refine ((C3.out _ (by obtain ⟨_, _, he, _, hC⟩ := (HF.out.drew).reads; injection he with h1 h2 h3; rw [h1]; exact hC))).mono ?_
          rintro e w3 ⟨rfl, ⟨⟨n3, rfl⟩⟩⟩
          refine ⟨_, rfl, ?_⟩
          refine hK.out _ _ (hHeld) (fun hHeld => ?_)
          clear hK K
          refine norm_ (a' := ?_) ?_ ?_
          rotate_left
          · show Act.put _ (some 42) _ = _
            simp only [Act.put, List.setIfInBounds_toArray, List.set_cons_zero, List.set_cons_succ, i64_w, i32_w]
            rfl
          refine pure_ (i := 10) (N := some 43) (v := ?_) (a' := ?_) #[true, true, true, true, true, true, true, true, true, true, true, false, false] rfl rfl (by kernel_rfl) (fun _ _ _ h => h) (Or.inl ⟨by rfl, ?_⟩) ?_ ?_
          rotate_left
          · intro w'
            go_simp
            with_reducible rfl
          rotate_left
          · simp only [Act.put, List.setIfInBounds_toArray, List.set_cons_zero, List.set_cons_succ, i64_w, i32_w]
            rfl
          refine pure_ (i := 11) (N := some 44) (v := ?_) (a' := ?_) #[true, true, true, true, true, true, true, true, true, true, true, true, false] rfl rfl (by kernel_rfl) (fun _ _ _ h => h) (Or.inl ⟨by rfl, ?_⟩) ?_ ?_
          rotate_left
          · intro w'
            go_simp
            with_reducible rfl
          rotate_left
          · simp only [Act.put, List.setIfInBounds_toArray, List.set_cons_zero, List.set_cons_succ, i64_w, i32_w]
            rfl
          refine last_ (i := 12) (N := none) #[true, true, true, true, true, true, true, true, true, true, true, true, true] rfl rfl (by kernel_rfl) (by decide) (fun K hK => ?_)
          refine skip_ (w1 := ?_) (by rfl) rfl ?_ ?_
          rotate_left
          · go_simp
            rfl
          refine hK.out _ _ ?_
          clear hK K
          refine done_ (by kernel_rfl) ?_
          clear f1 f2
          go_wp2
          go_roundg k2
          case measure => omega
          case rel => exact ⟨k + 1, by have := HK.out; omega, by go_num, ⟨by rw [HV.out]; exact Mem.set (Mem.drewN M1.out _) _ _⟩, ⟨(HF.out.drewN _).set _ _⟩, ⟨below_set (pw_below_drewN HB.out _) (Nat.le_refl _)⟩⟩
theorem visorref15_Sum.calls (A0 : Option Addr) (c0 : Nat) (l0 : List Int) (a1 : Int) (a2 : Int) (a3 : Int) (r : List Int) (w : World) (hr0 : Kd.C (Kd.int .u8) w A0 l0.length l0) (hc0 : l0.length ≤ c0) (h : visorref15_Sum.f l0 a1 a2 a3 = some r) :
    Calls Try.prog 33 #[.slice A0 l0.length c0, .int .i64 a1, .int .u8 a2, .int .i64 a3] w fun e w' => ∃ v0_ : Value, e = .returned (v0_) ∧ Kd.R (Kd.int .u8) 5 w' w.heap.size (fun _ => True) v0_ r ∧ Below w.heap.size w w' := by
  unfold visorref15_Sum.f at h
  split at h
  · rename_i hh
    obtain ⟨h1, h2, h3, h4, h5, h6, h7, h8, h9⟩ := hh
    obtain ⟨rate, rfl⟩ : ∃ q : Nat, a1 = (q : Int) := ⟨a1.toNat, by omega⟩
    obtain ⟨n, rfl⟩ : ∃ q : Nat, a3 = (q : Int) := ⟨a3.toNat, by omega⟩
    have hr := Option.some.inj h
    rw [Int.toNat_natCast, Int.toNat_natCast] at hr
    rw [← hr]
    exact rsum_c A0 c0 l0 rate a2 n w hr0 hc0 h1 (by omega) (by omega) (by omega) (by omega) ((allB_iff _).1 h7) ⟨h8, h9⟩
  · cases h
end Go.Proofs.Ythijjpiddelefaa.Sponge
namespace Go.Proofs.Ythijjpiddelefaa.Sponge
open Go.RowKit Go.Proofs.Ythijjpiddelefaa.PKec Go.Proofs.YthijjpiddelefaaW.PrintWords Go.Proofs.YthijjpiddelefaaW.PrintLast Go.Proofs.YthijjpiddelefaaW.PrintMore Byte Sl Arr Mem Gives Copy OctMath Store SWord Keccak CodeMath SpMath HandKit
set_option linter.unusedVariables false
set_option linter.unusedSimpArgs false
set_option maxHeartbeats 4000000
set_option maxRecDepth 100000
theorem over_zeros (N : Nat) (m : List Int) (h : m.length ≤ N) : over (List.replicate N 0) m = m ++ List.replicate (N - m.length) 0 := by
  unfold over
  rw [List.length_replicate, List.take_of_length_le h]
  simp [splice]
theorem fill_mid (m : List Int) (rate : Nat) (mark : Int) (h : 0 < rate) : (over (List.replicate ((m.length / rate + 1) * rate) 0) m).set m.length mark = padZ (m ++ [mark]) rate := by
  have hb := blocks_eq m.length rate h
  obtain ⟨N, hN⟩ : ∃ N, N = (m.length / rate + 1) * rate := ⟨_, rfl⟩
  rw [← hN] at hb ⊢
  rw [over_zeros N m (by omega), List.set_append_right _ _ (Nat.le_refl _), Nat.sub_self]
  unfold padZ
  have e : (m ++ [mark]).length = m.length + 1 := by simp
  rw [e, show N - m.length = padN (m.length + 1) rate + 1 by omega, List.replicate_succ, List.set_cons_zero, List.append_assoc]
  rfl
theorem fill_nums (L rate d N : Nat) (h8 : 8 ≤ rate) (h192 : rate ≤ 192) (hd : d = L / rate) (hN : N = (d + 1) * rate) (hL : L ≤ 1000000000) : wrap64 (d : Int) = (d : Int) ∧ wrap64 ((d : Int) + 1) = ((d + 1 : Nat) : Int) ∧ wrap64 (((d + 1 : Nat) : Int) * (rate : Int)) = (N : Int) ∧ wrap64 ((N : Int) - 1) = ((N - 1 : Nat) : Int) ∧ L < N ∧ N ≤ 1000000200 := by
  have hdr : d * rate ≤ L := by rw [hd]; exact Nat.div_mul_le_self _ _
  have hNm : N ≤ 1000000200 := by rw [hN, Nat.add_mul]; omega
  have hdm : d ≤ 1000000000 := by rw [hd]; exact Nat.le_trans (Nat.div_le_self _ _) hL
  have hNL : L < N := by
    have := Nat.lt_div_mul_add (a := L) (b := rate) (by omega)
    rw [← hd] at this
    rw [hN, Nat.add_mul]; omega
  have e : (((d + 1 : Nat) : Int)) * (rate : Int) = (N : Int) := by rw [hN]; simp
  rw [e]
  clear hdr hN hd e
  exact ⟨w64 (by omega) (by omega), by rw [w64 (by omega) (by omega)]; omega, w64 (by omega) (by omega), by rw [w64 (by omega) (by omega)]; omega, hNL, hNm⟩
def Rateds (rate : Int) : Prop := 8 ≤ rate ∧ rate ≤ 192 ∧ rate % 8 = 0
instance (r : Int) : Decidable (Rateds r) := by unfold Rateds; infer_instance
theorem rated_yes {rate : Int} (h : Rateds rate) : sponge_rated.f rate = some true := by
  obtain ⟨h1, h2, h3⟩ := h
  unfold sponge_rated.f
  rw [if_pos (by omega), if_pos (by omega), Int.tmod_eq_emod_of_nonneg (by omega), h3]
  rfl
theorem rated_no {rate : Int} (h : ¬ Rateds rate) : sponge_rated.f rate = some false := by
  unfold Rateds at h
  unfold sponge_rated.f
  by_cases h1 : rate ≥ 8
  · rw [if_pos h1]
    by_cases h2 : rate ≤ 192
    · rw [if_pos h2, Int.tmod_eq_emod_of_nonneg (by omega)]
      have : rate % 8 ≠ 0 := fun e => h ⟨h1, h2, e⟩
      simp [this]
    · rw [if_neg h2]
  · rw [if_neg h1]
def sponge_Fill.f (m : List Int) (rate : Int) (mark : Int) : Option (List Int × Int) := if Rateds rate then (if m.length ≤ 1000000000 then some (fillL m rate.toNat mark, 0) else none) else some ([], 1)
theorem fill_no (A0 : Option Addr) (c0 : Nat) (m : List Int) (rate : Int) (mark : Int) (w : World) (h : ¬ Rateds rate) :
    Calls Try.prog 26 #[.slice A0 m.length c0, .int .i64 rate, .int .u8 mark] w fun e w' => ∃ v0_ : Value, e = .returned (.tuple #[v0_, .int .i64 1]) ∧ Kd.R (Kd.int .u8) 5 w' w.heap.size (fun _ => True) v0_ [] ∧ Below w.heap.size w w' := by
  have C1 := Aside0.mk (sponge_rated.calls rate false · (rated_no h))
  have HB := Aside0.mk (Below.refl w.heap.size w)
  clear h
  go_enter Try.func26, Try.ntmps26
  go_wp2_with (first
    | (go_at_call 55; (with_reducible refine (C1.out _).mono ?_); rintro e w1 ⟨rfl, hd⟩; have HB := Aside0.mk (show Below w.heap.size w w1 from hd.below); clear hd))
  exact bodyPost_ret (results_tmp2 rfl _ _ _) rfl ⟨_, rfl, Kd.R_nil _ _ _ _ _, HB.out⟩
theorem fill_yes (A0 : Option Addr) (c0 : Nat) (m : List Int) (rate : Nat) (mark : Int) (w : World) (hr0 : Kd.C (Kd.int .u8) w A0 m.length m) (hc0 : m.length ≤ c0) (h : Rateds (rate : Int)) (hm : m.length ≤ 1000000000) :
    Calls Try.prog 26 #[.slice A0 m.length c0, .int .i64 rate, .int .u8 mark] w fun e w' => ∃ v0_ : Value, e = .returned (.tuple #[v0_, .int .i64 0]) ∧ Kd.R (Kd.int .u8) 5 w' w.heap.size (fun _ => True) v0_ (fillL m rate mark) ∧ Below w.heap.size w w' := by
  have C1 := Aside0.mk (sponge_rated.calls (rate : Int) true · (rated_yes h))
  have h8' : 8 ≤ rate := by have := h.1; omega
  have h192' : rate ≤ 192 := by have := h.2.1; omega
  clear h
  have HB := Aside0.mk (Below.refl w.heap.size w)
  have HR0 := Aside0.mk hr0
  obtain ⟨L, hL⟩ : ∃ L, L = m.length := ⟨_, rfl⟩
  obtain ⟨d, hd⟩ : ∃ d, d = m.length / rate := ⟨_, rfl⟩
  obtain ⟨N, hN⟩ : ∃ N, N = (d + 1) * rate := ⟨_, rfl⟩
  obtain ⟨hs0, hs1, hs4, hs5, hNL, hNm⟩ := fill_nums m.length rate d N h8' h192' hd hN hm
  have HMID := Aside0.mk (fill_mid m rate mark (by omega))
  rw [← hd, ← hN] at HMID
  obtain ⟨d1, hd1⟩ : ∃ z, z = d + 1 := ⟨_, rfl⟩
  rw [← hd1] at hs1 hs4
  clear hd1
  have HPL := Aside0.mk (show (padZ (m ++ [mark]) rate).length = N by rw [← HMID.out, List.length_set, over_length, List.length_replicate])
  have HFL := Aside0.mk (show fillL m rate mark = (padZ (m ++ [mark]) rate).set (N - 1) (Go.bits .xor .u8 ((padZ (m ++ [mark]) rate).getD (N - 1) 0) 128) by unfold fillL lastX; rw [HPL.out])
  have hq1 : (L : Int) / (rate : Int) = (d : Int) := by rw [hL, hd]; rfl
  have hq2 : Int.tdiv (L : Int) (rate : Int) = (d : Int) := by rw [Int.tdiv_eq_ediv_of_nonneg (by omega)]; exact hq1
  have hz1 : ((rate : Int) = 0) = False := by apply eq_false; omega
  have hz2 : ((rate : Int) == 0) = false := by rw [beq_eq_false_iff_ne]; omega
  have hz3 : (rate = 0) = False := by apply eq_false; omega
  have HLM := Aside0.mk hL
  rw [← hL] at HMID hr0 HR0 hc0 hNL ⊢
  clear hd hN hr0 hm hL h8' h192'
  have hN0 : (0 : Int) ≤ (N : Int) := by omega
  have hLN : (L : Int) < (N : Int) := by omega
  have hL0 : (0 : Int) ≤ (L : Int) := by omega
  have hNN : ((N - 1 : Nat) : Int) < (N : Int) := by omega
  have hN2 : (0 : Int) ≤ ((N - 1 : Nat) : Int) := by omega
  have hN3 : (0 : Int) ≤ (N : Int) - 1 := by omega
  have hN4 : (1 : Int) ≤ (N : Int) := by omega
  have hNp : 0 < N := by omega
  go_enter Try.func26, Try.ntmps26
  go_wp2_with (first
    | (go_at_call 55; (with_reducible refine (C1.out _).mono ?_); rintro e w1 ⟨rfl, hd⟩; have HB := Aside0.mk (show Below w.heap.size w w1 from hd.below); clear hd)
    | ((with_reducible refine gate_dst (N := 19) rfl ?_); go_loud (refine Kd.R_make (Kd.int .u8) (w0 := w) w.heap.size 5 rfl (N := 19) rfl 22 _ _ rfl (N : Int) (by go_simp) (by go_simp) Try.underlying22 (.int .u8 0) 1 info_u8 rfl (by decide) (by omega) 0 (ok := fun _ => True) (okp := fun _ => True) rfl (fun _ hk => hk) trivial (by omega) (by omega) HB.out HB.out.size ?_; intro v w1 ho hb hg_ hnew_; clear hg_ hnew_; rw [Int.toNat_natCast] at ho; have HB := Aside0.mk hb; have HO := Aside0.mk ho; clear hb ho))
    | ((with_reducible refine gate_builtin (b := .copy) (xs := #[.tmp 20, .tmp 21]) rfl ?_); go_loud (refine R_copy (k := .u8) (w0 := w) rfl (.tmp 20) (.tmp 21) 22 22 rfl 5 Try.underlying22 size_u8 (by rfl) (by rfl) HO.out (Kd.C_below HR0.out HB.out) HB.out ?_; intro w2 ho hb; clear HO HB; have HB := Aside0.mk hb; obtain ⟨g, cap, hv, hbg, _, _⟩ := Kd.R_form ho (by rw [over_length, List.length_replicate]; exact hNp); rw [over_length, List.length_replicate] at hv; subst hv; have HG := Aside0.mk hbg; obtain ⟨hx, hf⟩ := Kd.R_celln (0 : Int) ho (L : Int) hL0 hLN; rw [Int.toNat_natCast] at hx hf; have h3 := (Kd.R_putg ho (L : Int) mark).1; rw [Int.toNat_natCast, HMID.out] at h3; obtain ⟨hy0, hfy⟩ := Kd.R_celln (0 : Int) h3 ((N - 1 : Nat) : Int) hN2 hNN; rw [Int.toNat_natCast] at hy0 hfy; have hy := show _ = some (Value.int .u8 ((padZ (m ++ [mark]) rate).getD ((N - 1 : Nat) : Int).toNat 0)) from hy0; rw [Int.toNat_natCast] at hy; have h4 := (Kd.R_putg h3 ((N - 1 : Nat) : Int) (Go.bits .xor .u8 ((padZ (m ++ [mark]) rate).getD (N - 1) 0) 128)).1; rw [Int.toNat_natCast, ← HFL.out] at h4; have HO := Aside0.mk h4; clear h4 h3 hy0 hb ho hbg)))
  rw [List.getD_eq_getElem?_getD] at HO
  exact bodyPost_ret (results_tmp2 rfl _ _ _) rfl ⟨_, rfl, HO.out, below_set (below_set HB.out HG.out) HG.out⟩
theorem sponge_Fill.calls (A0 : Option Addr) (c0 : Nat) (l0 : List Int) (a1 a2 : Int) (r1 : List Int) (r2 : Int) (w : World) (hr0 : Kd.C (Kd.int .u8) w A0 l0.length l0) (hc0 : l0.length ≤ c0) (h : sponge_Fill.f l0 a1 a2 = some (r1, r2)) :
    Calls Try.prog 26 #[.slice A0 l0.length c0, .int .i64 a1, .int .u8 a2] w fun e w' => ∃ v0_ : Value, e = .returned (.tuple #[v0_, .int .i64 r2]) ∧ Kd.R (Kd.int .u8) 5 w' w.heap.size (fun _ => True) v0_ r1 ∧ Below w.heap.size w w' := by
  unfold sponge_Fill.f at h
  split at h
  · rename_i hr
    split at h
    · rename_i hl
      obtain ⟨h1, h2⟩ := Prod.mk.inj (Option.some.inj h)
      obtain ⟨rate, rfl⟩ : ∃ q : Nat, a1 = (q : Int) := ⟨a1.toNat, by have := hr.1; omega⟩
      rw [Int.toNat_natCast] at h1
      rw [← h1, ← h2]
      exact fill_yes A0 c0 l0 rate a2 w hr0 hc0 hr hl
    · cases h
  · rename_i hr
    obtain ⟨h1, h2⟩ := Prod.mk.inj (Option.some.inj h)
    rw [← h1, ← h2]
    exact fill_no A0 c0 l0 a1 a2 w hr
end Go.Proofs.Ythijjpiddelefaa.Sponge
namespace Go.Proofs.Ythijjpiddelefaa.Squeeze
open Go Go.RowKit Go.Proofs.Ythijjpiddelefaa.PKec Go.Proofs.YthijjpiddelefaaW.PrintWords Go.Proofs.YthijjpiddelefaaW.PrintLast Go.Proofs.YthijjpiddelefaaW.PrintMore Byte Sl Arr Mem Gives RotC KecT ArrEq OctMath Store SWord Keccak CodeMath SpMath HandKit RangeN RoundKit Chunk Sponge
set_option linter.unusedVariables false
set_option linter.unusedSimpArgs false
set_option maxHeartbeats 4000000
set_option maxRecDepth 100000
theorem squeezed_c (a : List Int) (hl : a.length = 25) (rate : Nat) (w : World) : Calls Try.prog 59 #[.agg (cellsOf .u64 a), .int .i64 (rate : Int)] w fun e w' => e = .returned (.func (.func 81) #[] #[.pointer (some ⟨w.heap.size, 0, none⟩), .pointer (some ⟨w.heap.size + 1, 0, none⟩)]) ∧ w' = (w.alloc (.cells (cellsOf .u64 a) 72)).alloc (.cells #[.int .i64 (rate : Int)] 3) := by
  obtain ⟨ca, hca⟩ : ∃ cs, cs = cellsOf .u64 a := ⟨_, rfl⟩
  rw [← hca]
  clear hca
  go_enter Try.func59, Try.ntmps59
  go_wp2
  go_ret
  exact ⟨rfl, rfl⟩
theorem store_c (x : Int) (w : World) : Calls Try.prog 82 #[.int .u64 x, .int .i64 8] w fun e w' => ∃ v0_ : Value, e = .returned v0_ ∧ Kd.R (Kd.int .u8) 5 w' w.heap.size (fun _ => True) v0_ (stL x 8) ∧ Below w.heap.size w w' := octet_Store.calls x 8 _ w rfl
/-- A row of bytes, made since base b. -/
def Rb (w : World) (b : Nat) (v : Value) (l : List Int) : Prop := Kd.R (Kd.int .u8) 5 w b (fun k => b ≤ k) v l
theorem Rb.of {W w1 : World} {b : Nat} {v : Value} {l : List Int} (ho : Kd.R (Kd.int .u8) 5 w1 W.heap.size (fun _ => True) v l) (hs : b ≤ W.heap.size) : Rb w1 b v l := Kd.R_mono (Kd.R_lower (Kd.R_bound ho) (by omega)) (fun k hk => Nat.le_trans hs hk.2.1)
theorem Rb.below {W w1 : World} {b : Nat} {v : Value} {l : List Int} (h : Rb W b v l) (hb : Below W.heap.size W w1) : Rb w1 b v l := Kd.R_below h hb
theorem grown_row {A B : World} {g : Nat} (cs : Array Value) (h : Below A.heap.size A B) : A.grownBy (B.setRow g cs) (some g) :=
  ⟨h.os, h.tape, h.output, by rw [setRow_size]; exact h.size, fun k hk hne => (setRow_other _ _ _ _ (fun e => hne (by rw [e]))).trans (h.block k hk)⟩
theorem below_grown {A B : World} (h : Below A.heap.size A B) (row : Option Nat) : A.grownBy B row := ⟨h.os, h.tape, h.output, h.size, fun k hk _ => h.block k hk⟩
theorem squeezed_seq (bA bR : Nat) (hne : bA ≠ bR) (a : List Int) (ha : a.length = 25) (haw : Words a) (rate q N : Nat) (hq8 : 8 * q = rate) (hq : q ≤ 24) (w : World) (hA : Mem .u64 w bA 72 a) (hR : w.heap[bR]? = some (.cells #[.int .i64 (rate : Int)] 3 (0, 0))) :
    SeqN Fence.wide 9 Try.prog 81 #[.pointer (some ⟨bA, 0, none⟩), .pointer (some ⟨bR, 0, none⟩)] (fun j v W1 => Kd.R (Kd.int .u8) 5 W1 0 (fun _ => True) v (told (sq a j) q)) (fun A B => A.grownBy B (some bA)) (Kp [bA, bR]) N False w := by
  intro l J Jx W hW hJ hJx hJN hY h0
  have HA := Aside0.mk (hA.below hW)
  have HR := Aside0.mk (show W.heap[bR]? = some (.cells #[.int .i64 (rate : Int)] 3 (0, 0)) from (hW.block bR (Array.getElem?_eq_some_iff.1 hR).1).trans hR)
  have HY := Aside0.mk hY
  have HJS := Aside0.mk hJ
  have HJN := Aside0.mk hJN
  have HJ := Aside0.mk h0
  have HSQ := Aside0.mk (fun j => sq_length a ha j)
  have HSW := Aside0.mk (fun j => sq_words a haw j)
  have HNE := Aside0.mk hne
  have hqr : (rate : Int) / 8 = (q : Int) := by omega
  have hq0 : (0 : Int) ≤ (q : Int) := by omega
  have hq25 : (q : Int) ≤ 25 := by omega
  have hr0 : (0 : Int) ≤ (rate : Int) := by omega
  clear hW hA hR hY h0 hJ hJx hJN hne
  refine callsIn_of_wp Try.func81 rfl trivial ((wpIn_wide (n := 9)).2 ?_)
  simp only [Try.ntmps81, List.size_toArray, List.length_cons, List.length_nil, Nat.reduceAdd, Nat.reduceSub, Array.replicate_succ, Array.replicate_zero, List.push_toArray, List.append_toArray, List.nil_append, List.cons_append]
  go_wp2
  go_loopg [4] (N + 1) (fun kq ov w' => ∃ j : Nat, j + kq = N + 1 ∧ Aside0 (J j w') ∧ Aside0 (Mem .u64 w' bA 72 (sq a j)) ∧ Aside0 (w'.heap[bR]? = some (.cells #[.int .i64 (rate : Int)] 3 (0, 0))))
  case atStart => exact ⟨0, by omega, HJ, HA, HR⟩
  case round =>
    clear HJ HA HR
    obtain ⟨j, hj, HJ, HA, HR⟩ := hrel
    cases gk with
    | zero => exact absurd (HJN.out j _ HJ.out) (by omega)
    | succ k1 =>
      have HJK := Aside0.mk hj
      have HSL := Aside0.mk (HSQ.out j)
      have HWW := Aside0.mk (HSW.out j)
      have HSN := Aside0.mk (show sq a (j + 1) = permTo (sq a j) 24 from rfl)
      have HY := Aside0.mk (fun v W1 => HY.out j v W1)
      have hr := cell_of HR.out
      clear hj
      generalize sq a j = s at *
      go_wp2
      obtain ⟨wz, rfl⟩ : ∃ z, z = wr := ⟨_, rfl⟩
      have HO := Aside0.mk (show Rb wz wz.heap.size (.slice none 0 0) (told s 0) from Kd.R_nil _ _ _ _ _)
      have HB := Aside0.mk (Below.refl wz.heap.size wz)
      go_loopg [4, 11] q (fun kq ov kv w' => ∃ k : Nat, k + kq = q ∧ kv = .int .i64 (k : Int) ∧ Aside0 (Rb w' wz.heap.size ov (told s k)) ∧ Aside0 (Below wz.heap.size wz w'))
      case atStart => exact ⟨0, by omega, rfl, HO, HB⟩
      case round =>
        clear HO HB
        obtain ⟨k, hk, rfl, HO, HB⟩ := hrel
        obtain ⟨Ao, co, rfl, hco, hrd⟩ := Kd.R_reads HO.out
        clear hrd
        cases gk with
        | zero =>
          obtain rfl : k = q := by omega
          have hkd : ¬ (k : Int) < (k : Int) := by omega
          have HTL := Aside0.mk (told_length s k)
          have HJW := HJS.out j _ _ HJ.out (below_grown HB.out _)
          obtain ⟨fn, tmps, assign, body, hy, hR⟩ := HY.out _ wr HJW (Kd.R_mono (Kd.R_lower HO.out (Nat.zero_le _)) (fun _ _ => trivial))
          have HRR := Aside0.mk hR
          have HYY := Aside0.mk hy
          have HA := Aside0.mk (HA.out.below HB.out)
          have HR := Aside0.mk ((HB.out.block bR (Array.getElem?_eq_some_iff.1 HR.out).1).trans HR.out)
          clear hk hco hR hy HJW hr
          generalize told s k = o at *
          go_upto_region 6 with (fail)
          have hy := HYY.out
          clear HYY
          refine (wpIn_wide (n := 9)).1 ?_
          gi_wp2
          refine HRR.out.mono ?_
          rintro e W3 (⟨rfl, hJ3, hk3⟩ | ⟨rfl, hJx3⟩)
          · have HA3 := Aside0.mk (show Mem .u64 W3 bA 72 s from hk3 bA (by simp) _ HA.out rfl)
            have HR3 := Aside0.mk (hk3 bR (by simp) _ HR.out rfl)
            have HJ3 := Aside0.mk hJ3
            have HPL := Aside0.mk (permTo_length s HSL.out 24)
            have HCP := Aside0.mk (permute_c s HSL.out HWW.out)
            rw [arrV_eq, arrV_eq] at HCP
            clear hy HA HR HJ HO HB hk3 hJ3 HRR HY
            generalize permTo s 24 = p at *
            gi_wp2
            go_wp2_with (first
              | ((with_reducible refine gate_dst (N := 24) rfl ?_); go_loud (refine Mem.load HA3.out rfl 72 (.tmp 1) rfl rfl Try.underlying72 (by rw [HSL.out]; exact info_st) ?_))
              | (go_at_call 58; (with_reducible refine (HCP.out.q _).mono ?_); rintro e w4 ⟨rfl, hb4⟩; have HA4 := Aside0.mk (Mem.below HA3.out hb4); have HB4 := Aside0.mk hb4; clear hb4)
              | ((with_reducible refine gate_store (t := 72) (p := 1) rfl ?_); go_loud (refine Mem.store (l' := p) HA4.out rfl 72 (.tmp 1) (.tmp 25) rfl rfl rfl (by rw [HPL.out]; exact info_st) (by rw [HPL.out, HSL.out]) ?_)))
            go_roundg k1
            case measure => omega
            case rel => exact ⟨j + 1, by have := HJK.out; omega, ⟨HJS.out (j + 1) _ _ HJ3.out (grown_row _ HB4.out)⟩, ⟨by rw [HSN.out]; exact Mem.put HA4.out p⟩, ⟨(setRow_other _ _ _ _ (fun e => HNE.out e.symm)).trans ((HB4.out.block bR (Array.getElem?_eq_some_iff.1 HR3.out).1).trans HR3.out)⟩⟩
          · have HJX := Aside0.mk hJx3
            clear hJx3 hy HA HR HJ HO HB HRR HY
            gi_wp2
            go_wp2
            exact bodyPost_ret (results_none rfl _ _ _) rfl ⟨⟨_, rfl⟩, .inr HJX.out⟩
        | succ k2 =>
          have hkl : k < q := by omega
          have HK := Aside0.mk hk
          clear hk
          have hkl2 : (k : Int) < (q : Int) := by omega
          have hk0 : (0 : Int) ≤ (k : Int) := by omega
          have hx := (HA.out.below HB.out).cell k (by rw [HSL.out]; omega)
          have HTN := Aside0.mk (show told s (k + 1) = told s k ++ stL (s.getD k 0) 8 from rfl)
          have HCS := Aside0.mk (store_c (s.getD k 0))
          have hfit : (told s k).length + (stL (s.getD k 0) 8).length ≤ 140737488355328 := by
            rw [told_length, stL_length]; omega
          have HFT := Aside0.mk hfit
          clear hfit hco
          generalize stL (s.getD k 0) 8 = st at *
          generalize s.getD k 0 = x at *
          generalize hot : told s k = ot at *
          have HOT := Aside0.mk hot
          clear hot
          go_wp2_with (first
            | (go_at_call 82; (with_reducible refine (HCS.out _).mono ?_); rintro e w4 ⟨vs, rfl, hs, hb4⟩; have HO := Aside0.mk (HO.out.below hb4); have HB := Aside0.mk (below_step HB.out hb4); obtain ⟨As, cs, rfl, hcs, hCs⟩ := Kd.R_reads hs; have HCs := Aside0.mk hCs; clear hb4 hs hcs hCs)
            | ((with_reducible refine gate_builtin (b := .append) (xs := #[.tmp 15, .tmp 17]) rfl ?_); go_loud (refine Kd.R_append_rows (Kd.int .u8) (w0 := wz) wz.heap.size rfl (.tmp 15) (.tmp 17) 22 5 (.int .u8 0) 1 rfl Try.underlying22 info_u8 rfl (by decide) (by omega) _ ot st As st.length cs (fun k => wz.heap.size ≤ k) (fun _ => False) rfl rfl HO.out HCs.out (fun _ _ h => h) (fun _ h => h.elim) (fun k hk => Nat.le_trans HB.out.size hk) HB.out HB.out.size ?aL ?_; (case aL => have := HFT.out; omega); intro v2 w5 ho hb hg hat; have HB := Aside0.mk hb; have HO2 := Aside0.mk (show Rb w5 wz.heap.size v2 (ot ++ st) from ho); clear HO ho hb hg hat)))
          go_roundg k2
          case measure => omega
          case rel => exact ⟨k + 1, by have := HK.out; omega, by go_num, ⟨by rw [HTN.out]; exact HO2.out⟩, HB⟩
end Go.Proofs.Ythijjpiddelefaa.Squeeze
namespace Go.Proofs.Ythijjpiddelefaa.SpSum
open Go Go.RowKit Go.Proofs.Ythijjpiddelefaa.PKec Go.Proofs.YthijjpiddelefaaW.PrintWords Go.Proofs.YthijjpiddelefaaW.PrintLast Go.Proofs.YthijjpiddelefaaW.PrintMore Byte Sl Arr Mem Gives RotC KecT ArrEq OctMath Store SWord Keccak CodeMath SpMath HandKit RangeN RoundKit Chunk Sponge Squeeze
attribute [local go_sem] Oper.semAt_some
set_option linter.unusedVariables false
set_option linter.unusedSimpArgs false
set_option maxHeartbeats 4000000
set_option maxRecDepth 100000
theorem Mem.one {k : IntKind} {w : World} {g : Nat} {t : TypeId} {x : Int} (h : Mem k w g t [x]) : w.cell? ⟨g, 0, none⟩ = some (.int k x) := h.cell 0 (Nat.zero_lt_one)
theorem sum_no1 (A0 : Option Addr) (c0 : Nat) (m : List Int) (rate mark n : Int) (w : World) (h : ¬ Rateds rate) :
    Calls Try.prog 27 #[.slice A0 m.length c0, .int .i64 rate, .int .u8 mark, .int .i64 n] w fun e w' => ∃ v0_ : Value, e = .returned (.tuple #[v0_, .int .i64 1]) ∧ Kd.R (Kd.int .u8) 5 w' w.heap.size (fun _ => True) v0_ [] ∧ Below w.heap.size w w' := by
  have C1 := Aside0.mk (fun w => fill_no A0 c0 m rate mark w h)
  have HB := Aside0.mk (below_alloc (below_alloc (Below.refl w.heap.size w) (.cells #[.int .i64 rate] 3)) (.cells #[.int .i64 n] 3))
  clear h
  go_enter Try.func27, Try.ntmps27
  go_wp2_with (first
    | (go_at_call 26; (with_reducible refine (C1.out _).mono ?_); rintro e w1 ⟨v1, rfl, ho, hb⟩; have HB := Aside0.mk (below_step HB.out hb); clear ho hb))
  exact bodyPost_ret (results_tmp2 rfl _ _ _) rfl ⟨_, rfl, Kd.R_nil _ _ _ _ _, HB.out⟩
theorem sum_no2 (A0 : Option Addr) (c0 : Nat) (m : List Int) (rate : Nat) (mark n : Int) (w : World) (hr0 : Kd.C (Kd.int .u8) w A0 m.length m) (hc0 : m.length ≤ c0) (h : Rateds (rate : Int)) (hm : m.length ≤ 1000000000) (hn : n < 0 ∨ 65536 < n) :
    Calls Try.prog 27 #[.slice A0 m.length c0, .int .i64 rate, .int .u8 mark, .int .i64 n] w fun e w' => ∃ v0_ : Value, e = .returned (.tuple #[v0_, .int .i64 1]) ∧ Kd.R (Kd.int .u8) 5 w' w.heap.size (fun _ => True) v0_ [] ∧ Below w.heap.size w w' := by
  have HB := Aside0.mk (below_alloc (below_alloc (Below.refl w.heap.size w) (.cells #[.int .i64 rate] 3)) (.cells #[.int .i64 n] 3))
  have C1 := Aside0.mk (fun w2 (hb : Below w.heap.size w w2) => fill_yes A0 c0 m rate mark w2 (Kd.C_below hr0 hb) hc0 h hm)
  have MN := Aside0.mk (Mem.new2 .i64 w (.cells #[.int .i64 rate] 3) 3 [n])
  clear h hr0
  rcases hn with hn | hn
  all_goals
    go_enter Try.func27, Try.ntmps27
    go_wp2_with (first
      | (go_at_call 26; (with_reducible refine (C1.out _ HB.out).mono ?_); rintro e w1 ⟨v1, rfl, ho, hb⟩; have MN := Aside0.mk (Mem.below MN.out hb); have hcn := Mem.one MN.out; have HB := Aside0.mk (below_step HB.out hb); clear ho hb))
    exact bodyPost_ret (results_tmp2 rfl _ _ _) rfl ⟨_, rfl, Kd.R_nil _ _ _ _ _, HB.out⟩
theorem fillL_pos (m : List Int) (rate : Nat) (mark : Int) (h : 8 ≤ rate) : 0 < (fillL m rate mark).length := by
  rw [fillL_length _ _ _ (by omega), Nat.add_mul]; omega
theorem box_at2 (w : World) (o1 o2 o3 : Obj) : (((w.alloc o1).alloc o2).alloc o3).heap[w.heap.size + 1]? = some o2 := by
  have h := World.alloc_heap_new (w.alloc o1) o2
  rw [World.size_alloc] at h
  exact (Below.heap_alloc _ _ _ (by simp)).trans h
theorem box_at3 (w : World) (o1 o2 o3 : Obj) : (((w.alloc o1).alloc o2).alloc o3).heap[w.heap.size + 1 + 1]? = some o3 := by
  have h := World.alloc_heap_new ((w.alloc o1).alloc o2) o3
  rw [World.size_alloc, World.size_alloc] at h
  exact h
theorem loadV_sub {l : List Int} {i0 rate k : Nat} (hk : 8 * k + 8 ≤ rate) (hl : i0 + rate ≤ l.length) : loadV ((l.drop i0).take rate) ((8 * k : Nat) : Int) = loadV l ((i0 + 8 * k : Nat) : Int) := by
  have hlen : ((l.drop i0).take rate).length = rate := by simp; omega
  have key : ∀ d i, i + d ≤ 8 → bs ((l.drop i0).take rate) ((8 * k : Nat) : Int) i d = bs l ((i0 + 8 * k : Nat) : Int) i d := by
    intro d
    induction d with
    | zero => intro i _; rfl
    | succ d ih =>
      intro i hi
      unfold bs
      rw [ih (i + 1) (by omega)]
      congr 1
      unfold B
      rw [hlen, if_pos (by omega), if_pos (by omega)]
      unfold Go.Proofs.YthijjpiddelefaaW.PrintWords.rd
      rw [show (((8 * k : Nat) : Int) + (i : Int)).toNat = 8 * k + i by omega, show (((i0 + 8 * k : Nat) : Int) + (i : Int)).toNat = i0 + (8 * k + i) by omega, List.getD_eq_getElem?_getD, List.getD_eq_getElem?_getD, List.getElem?_take_of_lt (by omega), List.getElem?_drop]
  unfold loadV
  rw [hlen, if_neg (by omega), if_neg (by omega), key 8 0 (by omega)]
theorem load_c (A : Option Addr) (c : Nat) (l : List Int) (p : Nat) (w : World) (hC : Kd.C (Kd.int .u8) w A l.length l) (hc : l.length ≤ c) (hb : IsB l) (hl : l.length ≤ 140737488351232) : Calls Try.prog 57 #[.slice A l.length c, .int .i64 (p : Int)] w fun e w' => e = .returned (.int .u64 ((loadV l (p : Int) : Nat) : Int)) ∧ Drawn0 w w' :=
  octet_Load.calls 12 A c l p _ w hC hc (Load_eq hb hl p 12 (by decide))
theorem sub_c {w : World} {gl cap b L : Nat} {ok : Nat → Prop} {l : List Int} (h : Kd.R (Kd.int .u8) 5 w b ok (.slice (some ⟨gl, 0, none⟩) L cap) l) (i0 r : Nat) (hr : i0 + r ≤ L) (hr0 : 0 < r) : Kd.C (Kd.int .u8) w (some ⟨gl, i0, none⟩) r ((l.drop i0).take r) := by
  obtain ⟨hn, hc, _⟩ := Kd.R_reads' h
  have h2 := Kd.Q_drop (k := i0) (Kd.Q_of_R h) (by omega)
  rw [if_neg (by omega)] at h2
  have h3 := Kd.Q_take (m := r) h2 (by simp; omega)
  have h4 := (Kd.Q_reads' h3).2.2
  have hl : ((l.drop i0).take r).length = r := by simp; omega
  rw [hl] at h4
  have e : (some (⟨gl, 0, none⟩ : Addr)).map (·.add (i0 * (Kd.int .u8).sz)) = some ⟨gl, i0, none⟩ := by
    show some (Addr.add ⟨gl, 0, none⟩ (i0 * 1)) = _
    simp [Addr.add]
    exact fun h => h.symm
  rw [e] at h4
  exact h4
theorem wp_make0 {P : Program} {ops : Array Oper} {rest : List Oper} {op : Oper} {a : Act} {Q' : Exit → Act → World → Prop} {α : Type} (d : Kd α) {W : World} (w0 : World) (base e : Nat) (hgd : op.guard = none) (t : TypeId) (x y : Operand) (ho : op.op = .makeSlice t x y) (c : Nat) (hx : a.eval x = .int .i64 0) (hy : a.eval y = .int .i64 (c : Int))
    (ht : P.underlying t = some (.slice e)) (z : Value) (bytes : Nat) (hinfo : (P.info? e).map (fun i => (i.zero, i.size, i.bytes)) = some (some z, d.sz, bytes)) (hb0 : 0 < bytes) (hl : bytes * c ≤ 281474976710656) (ok : Nat → Prop) (hfresh : ok W.heap.size) (HB : Below base w0 W) (hbase : base ≤ W.heap.size)
    (h : ∀ w1, d.R e w1 base ok (.slice (some ⟨W.heap.size, 0, none⟩) 0 c) [] → Below base w0 w1 → W.grownBy w1 none → wpList P ops Q' rest (a.put op.dst (.slice (some ⟨W.heap.size, 0, none⟩) 0 c)) w1) : wpList P ops Q' (op :: rest) a W := by
  obtain ⟨i0, hi, hzz⟩ := Option.map_eq_some_iff.1 hinfo
  simp only [Prod.mk.injEq] at hzz
  obtain ⟨hz0, hz1, hz2⟩ := hzz
  have hc : c ≤ 281474976710656 := Nat.le_trans (Nat.le_mul_of_pos_left c hb0) hl
  obtain ⟨w', hr, hown, hg⟩ := run_make_own (P := P) W base t e i0 z d.sz ht hi hz0 hz1 .i64 .i64 c (by rw [hz2]; exact hl) (by simp only [maxLen]; omega) hbase
  refine wpList_plain hgd fun K hK => ?_
  unfold Oper.wp execOp
  simp only [ho, hx, hy, Sem.run_bind, Sem.run_pure, hr, Result.andThen_ok]
  refine hK _ _ (h w' ⟨fun k hk => ?_, [], hown, Reps.none _ _⟩ (HB.grown hg hbase (fun k e => by cases e)) hg)
  have := Option.some.inj (show some W.heap.size = some k from hk)
  rw [← this]; exact hfresh
/-- A slice's head as a value. -/
def encH (p : Addr × Nat × Nat) : Value := .slice (some p.1) p.2.1 p.2.2
theorem box_set (w : World) (u v : Value) (t : TypeId) : ((w.alloc (.cells #[u] t)).setCell ⟨w.heap.size, 0, none⟩ v).heap[w.heap.size]? = some (.cells #[v] t (0, 0)) := by
  show ((w.heap.push _).modify w.heap.size _)[w.heap.size]? = _
  rw [Array.getElem?_modify, if_pos rfl, Array.getElem?_push_size]
  rfl
theorem Boxv.cell {w : World} {b : Nat} {v : Value} {t : TypeId} (h : w.heap[b]? = some (.cells #[v] t (0, 0))) : w.cell? ⟨b, 0, none⟩ = some v := cell_of h
theorem Boxv.free {w : World} {b : Nat} {v : Value} {t : TypeId} (h : w.heap[b]? = some (.cells #[v] t (0, 0))) : w.frozen? ⟨b, 0, none⟩ = false := by
  unfold World.frozen?
  rw [h]
  simp
theorem Boxv.put {w : World} {b : Nat} {v : Value} {t : TypeId} (h : w.heap[b]? = some (.cells #[v] t (0, 0))) (u : Value) : (w.setCell ⟨b, 0, none⟩ u).heap[b]? = some (.cells #[u] t (0, 0)) := by
  have hlt := (Array.getElem?_eq_some_iff.1 h).1
  rw [Array.getElem?_eq_getElem hlt] at h
  have h0 := Option.some.inj h
  show (w.heap.modify b _)[b]? = _
  rw [Array.getElem?_modify, if_pos rfl, Array.getElem?_eq_getElem hlt, h0]
  rfl
theorem Boxv.other {w : World} {b g i : Nat} {o : Obj} (h : w.heap[b]? = some o) (hne : b ≠ g) (u : Value) : (w.setCell ⟨g, i, none⟩ u).heap[b]? = some o := (Below.heap_setCell w ⟨g, i, none⟩ u b hne).trans h
theorem heap_below {w w' : World} {b : Nat} {o : Obj} (h : w.heap[b]? = some o) (hb : Below w.heap.size w w') : w'.heap[b]? = some o := (hb.block b (Array.getElem?_eq_some_iff.1 h).1).trans h
theorem lasts_old {B D : Nat} (o : Obj) (hD : D < B) : Lasts B (fun w => w.heap[D]? = some o) := fun _ X Y row hs hg hr =>
  (hg.block D (Array.getElem?_eq_some_iff.1 hs).1 (fun e => by have := (hr D e.symm).1; omega)).trans hs
theorem lasts_size {B : Nat} (b : Nat) : Lasts B (fun w => b < w.heap.size) := fun _ X Y row hs hg hr => Nat.lt_of_lt_of_le hs hg.size
theorem heap_grown {A B : World} {b g : Nat} {o : Obj} (h : A.heap[b]? = some o) (hg : A.grownBy B (some g)) (hne : b ≠ g) : B.heap[b]? = some o :=
  (hg.block b (Array.getElem?_eq_some_iff.1 h).1 (fun e => hne (Option.some.inj e))).trans h
/-- With what is known of the row: it is the call's own. -/
theorem sum_own (A0 : Option Addr) (c0 : Nat) (m : List Int) (rate : Nat) (mark : Int) (n : Nat) (w : World) (hr0 : Kd.C (Kd.int .u8) w A0 m.length m) (hc0 : m.length ≤ c0) (h : Rateds (rate : Int)) (hm : m.length ≤ 1000000000) (hn : n ≤ 65536) (hmb : IsB m) (hmk : 0 ≤ mark ∧ mark < 256) :
    Calls Try.prog 27 #[.slice A0 m.length c0, .int .i64 rate, .int .u8 mark, .int .i64 n] w fun e w' => ∃ (A_ : Option Addr) (cc : Nat), e = .returned (.tuple #[.slice A_ n n, .int .i64 0]) ∧ n = (sumL m rate mark n).length ∧ Kd.R (Kd.int .u8) 5 w' w.heap.size (fun k_ => (w.heap.size ≤ k_)) (.slice A_ n cc) (sumL m rate mark n) ∧ Below w.heap.size w w' := by
  have h8 : 8 ≤ rate := by have := h.1; omega
  have h192 : rate ≤ 192 := by have := h.2.1; omega
  have hmod : rate % 8 = 0 := by have := h.2.2; omega
  have HB := Aside0.mk (below_alloc (below_alloc (Below.refl w.heap.size w) (.cells #[.int .i64 rate] 3)) (.cells #[.int .i64 n] 3))
  have C1 := Aside0.mk (fun w2 (hb : Below w.heap.size w w2) => fill_yes A0 c0 m rate mark w2 (Kd.C_below hr0 hb) hc0 h hm)
  have MN := Aside0.mk (Mem.new2 .i64 w (.cells #[.int .i64 rate] 3) 3 [(n : Int)])
  have MR := Aside0.mk ((Mem.new .i64 w 3 [(rate : Int)]).alloc (.cells #[.int .i64 n] 3))
  have HLB := Aside0.mk (fillL_b m rate mark hmb hmk)
  have HLL := fillL_length m rate mark (by omega)
  obtain ⟨NBl, hNB⟩ : ∃ q, q = m.length / rate + 1 := ⟨_, rfl⟩
  have hNBm : NBl * rate ≤ 1000000200 := by
    have h1 := Nat.div_mul_le_self m.length rate
    rw [hNB, Nat.add_mul]; omega
  rw [← hNB] at HLL
  have HSUM := Aside0.mk (show sumL m rate mark n = (outL (absorb (fillL m rate mark) rate NBl) (rate / 8) (turnsN n rate)).take n by unfold sumL; rw [hNB])
  obtain ⟨q, hq⟩ : ∃ q, q = rate / 8 := ⟨_, rfl⟩
  have hq8 : 8 * q = rate := by omega
  have hq24 : q ≤ 24 := by omega
  rw [← hq] at HSUM
  have HABQ := Aside0.mk (show ∀ l j, absorb l rate (j + 1) = permTo (xorTo (absorb l rate j) l (rate * j) q) 24 from fun l j => by rw [absorb, hq])
  have HLP := Aside0.mk (fillL_pos m rate mark h8)
  generalize hl : fillL m rate mark = l at *
  obtain ⟨L, hL⟩ : ∃ L, L = l.length := ⟨_, rfl⟩
  have HLM := Aside0.mk (show L = rate * NBl by rw [hL, HLL, Nat.mul_comm])
  have HLE := Aside0.mk hL
  have HLX := Aside0.mk (show L ≤ 1000000200 by rw [hL, HLL]; exact hNBm)
  have HN := Aside0.mk (turns_ge n rate (by omega))
  have HT := Aside0.mk (fun j => turns_lt n rate j (by omega))
  have CHK := Aside0.mk (fun gl cap w2 => chunk_c (some ⟨gl, 0, none⟩) L cap rate (by omega) w2)
  have hn0 : decide ((n : Int) < 0) = false := decide_eq_false (by omega)
  have hn1 : decide (65536 < (n : Int)) = false := decide_eq_false (by omega)
  rw [← hL] at HLP
  have HMM := Aside0.mk (And.intro h8 (And.intro h192 hn))
  clear hr0 hc0 hl hNB hq h hmb hmk hm HLL hNBm hL h8 h192 hmod hn
  refine callsIn_wide.1 (callsIn_of_wp_marks (n := 10) Try.func27 rfl trivial ((wpIn_wide (n := 10)).2 ?_))
  simp only [Try.ntmps27, List.size_toArray, List.length_cons, List.length_nil, Nat.reduceAdd, Nat.reduceSub, Array.replicate_succ, Array.replicate_zero, List.push_toArray, List.append_toArray, List.nil_append, List.cons_append]
  go_wp2_with (first
    | (go_at_call 26; (with_reducible refine (C1.out _ HB.out).mono ?_); rintro e w1 ⟨v1, rfl, ho, hb⟩; have MN := Aside0.mk (Mem.below MN.out hb); have MR := Aside0.mk (Mem.below MR.out hb); have hcn := Mem.one MN.out; have hcr := Mem.one MR.out; have hcr2 := fun o => Mem.one (MR.out.alloc o); obtain ⟨gl, cap, hv, hbg, hgl, _⟩ := Kd.R_form ho (by rw [← HLE.out]; exact HLP.out); rw [← HLE.out] at hv; subst hv; have HLR := Aside0.mk (Kd.R_bound ho); have HGL := Aside0.mk (And.intro hbg hgl); have HB := Aside0.mk (below_step HB.out hb); clear ho hb hbg hgl)
    | (go_at_call 56; (with_reducible refine (CHK.out _ _ _).mono ?_); rintro e wc ⟨rfl, hwc⟩; have HWC := Aside0.mk hwc; clear hwc))
  have HSZ := Aside0.mk (show w.heap.size + 2 ≤ w1.heap.size by
    have h1 := (Mem.lt MN.out)
    omega)
  have HBC := Aside0.mk (show Below w1.heap.size w1 wc by rw [HWC.out]; exact below_alloc (below_alloc (below_alloc (Below.refl _ _) _) _) _)
  have MA := Aside0.mk (show Mem .u64 wc w1.heap.size 72 zst by rw [HWC.out]; exact ((Mem.new .u64 w1 72 zst).alloc _).alloc _)
  have HS := Aside0.mk (show wc.heap[w1.heap.size + 1]? = some (.cells #[.slice (some ⟨gl, 0, none⟩) L cap] 22 (0, 0)) by rw [HWC.out]; exact box_at2 _ _ _ _)
  have HNN := Aside0.mk (show wc.heap[w1.heap.size + 1 + 1]? = some (.cells #[.int .i64 (rate : Int)] 3 (0, 0)) by rw [HWC.out]; exact box_at3 _ _ _ _)
  have HCS := Aside0.mk (show wc.heap.size = w1.heap.size + 3 by rw [HWC.out, World.size_alloc, World.size_alloc, World.size_alloc])
  have MR := Aside0.mk (MR.out.below HBC.out)
  have MN := Aside0.mk (MN.out.below HBC.out)
  have HL := Aside0.mk (show Kd.R (Kd.int .u8) 5 wc 0 (fun k => k < w1.heap.size) (.slice (some ⟨gl, 0, none⟩) L cap) l from Kd.R_lower (Kd.R_mono (Kd.R_below HLR.out HBC.out) (fun k hk => hk.2.2.1)) (Nat.zero_le _))
  have HB := Aside0.mk (below_step HB.out HBC.out)
  clear HWC HLR hcn hcr hcr2 HBC HGL CHK
  generalize w1.heap.size = bA at *
  have hseq := chunk_seq (bA + 1) (bA + 1 + 1) gl 0 rate NBl L cap (by have := HMM.out.1; omega) HLM.out (Kd.R_reads' HL.out).2.1 HLX.out wc HS.out HNN.out
  refine' range_wp (lb := #[.pointer (some ⟨bA + 1, 0, none⟩), .pointer (some ⟨bA + 1 + 1, 0, none⟩)]) rfl (enters_of Try.func76 (by kernel_rfl) rfl) hseq (fun A B h b o _ ho _ => (h.block b (Array.getElem?_eq_some_iff.1 ho).1).trans ho) (Below.refl _ _)
    (fun j W => j ≤ NBl ∧ Aside0 (Mem .u64 W bA 72 (absorb l rate j)) ∧ Aside0 (Kd.R (Kd.int .u8) 5 W 0 (fun k => k < bA) (.slice (some ⟨gl, 0, none⟩) L cap) l) ∧ Aside0 (Mem .i64 W w.heap.size 3 [(rate : Int)]) ∧ Aside0 (Mem .i64 W (w.heap.size + 1) 3 [(n : Int)]) ∧ Aside0 (Below w.heap.size w W))
    (fun _ _ => False) (fun j => lasts_and (lasts_pure _) (lasts_and (lasts_aside (lasts_mem _ _ _ _)) (lasts_and (lasts_aside (lasts_R rfl _ _)) (lasts_and (lasts_aside (lasts_mem _ _ _ _)) (lasts_and (lasts_aside (lasts_mem _ _ _ _)) (lasts_aside (lasts_below _ (by have := HCS.out; have := HSZ.out; omega)))))))) (fun _ => lasts_pure False) (fun j v => lasts_pure _)
    (fun j A B ⟨h0, h1, h2, h3, h4, h5⟩ hst => ⟨h0, ⟨h1.out.below hst⟩, ⟨Kd.R_below h2.out hst⟩, ⟨h3.out.below hst⟩, ⟨h4.out.below hst⟩, ⟨below_step h5.out hst⟩⟩)
    (fun _ _ _ h _ => h) (fun j A h => h.1) ⟨Nat.zero_le _, MA, HL, MR, MN, HB⟩ _ ?assign ?body ?done ?stop
  case assign =>
    intro l2 v W K hK
    gi_wp2
    exact hK
  case stop =>
    rintro D c W hD h _
    exact h.elim
  case body =>
    rintro l2 j v W ⟨hj, MA, HL, MR, MN, HB⟩ ⟨hjN, rfl⟩
    clear hseq
    have hil : rate * j + rate ≤ L := by
      rw [HLM.out]
      have := Nat.mul_le_mul (Nat.le_refl rate) (show j + 1 ≤ NBl by omega)
      rw [Nat.mul_add] at this
      omega
    have HAN := Aside0.mk (HABQ.out l j)
    have HA := Aside0.mk (absorb_length l rate j)
    have HAW := Aside0.mk (absorb_words l rate HLB.out j)
    obtain ⟨i0, hi0⟩ : ∃ z : Nat, z = rate * j := ⟨_, rfl⟩
    rw [← hi0] at HAN hil
    rw [Nat.zero_add, ← hi0]
    have hll : i0 + rate ≤ l.length := by rw [← HLE.out]; exact hil
    have HSB := Aside0.mk (show IsB ((l.drop i0).take rate) from (HLB.out.drop _).take _)
    have HSL := Aside0.mk (show ((l.drop i0).take rate).length = rate by simp; omega)
    have HSV := Aside0.mk (fun k (hk : k < q) => loadV_sub (l := l) (i0 := i0) (rate := rate) (k := k) (by omega) hll)
    have HSC := Aside0.mk (fun W2 (h : Kd.R (Kd.int .u8) 5 W2 0 (fun k => k < bA) (.slice (some ⟨gl, 0, none⟩) L cap) l) => sub_c h i0 rate hil (by have := HMM.out.1; omega))
    obtain ⟨Ib, hQ⟩ : ∃ Ib : World → Prop, Ib = (fun W => j + 1 ≤ NBl ∧ Aside0 (Mem .u64 W bA 72 (absorb l rate (j + 1))) ∧ Aside0 (Kd.R (Kd.int .u8) 5 W 0 (fun k => k < bA) (.slice (some ⟨gl, 0, none⟩) L cap) l) ∧ Aside0 (Mem .i64 W w.heap.size 3 [(rate : Int)]) ∧ Aside0 (Mem .i64 W (w.heap.size + 1) 3 [(n : Int)]) ∧ Aside0 (Below w.heap.size w W)) := ⟨_, rfl⟩
    rw [← hQ]
    have HQ := Aside0.mk hQ
    generalize hC14 : Code.region 14 _ _ = c14
    have HC14 := Aside0.mk hC14
    have HJ := Aside0.mk hjN
    have hcr := Mem.one MR.out
    have hqr : (rate : Int) / 8 = (q : Int) := by omega
    have hrate0 : (0 : Int) ≤ (rate : Int) := by omega
    have HRD := Aside0.mk (Rd.refl [bA + 1, bA + 1 + 1] W)
    have HI := Aside0.mk (And.intro hi0 hil)
    generalize hab : absorb l rate j = a at *
    have HAB := Aside0.mk hab
    generalize (l.drop i0).take rate = sub at *
    have HRS := Aside0.mk (And.intro HMM.out.1 HMM.out.2.1)
    clear hi0 hil hll hQ hj hjN hab hC14
    gi_wp2
    gi_loopw [41] (fun kv wr => ∃ k : Nat, k ≤ q ∧ kv = .int .i64 (k : Int) ∧ Aside0 (Mem .u64 wr bA 72 (xorTo a l i0 k)) ∧ Aside0 (Kd.R (Kd.int .u8) 5 wr 0 (fun k => k < bA) (.slice (some ⟨gl, 0, none⟩) L cap) l) ∧ Aside0 (Mem .i64 wr w.heap.size 3 [(rate : Int)]) ∧ Aside0 (Mem .i64 wr (w.heap.size + 1) 3 [(n : Int)]) ∧ Aside0 (Below w.heap.size w wr) ∧ Aside0 (Rd [bA + 1, bA + 1 + 1] W wr)) (fun kv _ => q - (intOf kv).toNat)
    case atStart => exact ⟨0, Nat.zero_le _, rfl, MA, HL, MR, MN, HB, HRD⟩
    case round =>
      clear MA HL MR MN HB HRD hcr
      obtain ⟨k, hk, rfl, MA, HL, MR, MN, HB, HRD⟩ := hrel
      by_cases hkq : k < q
      · have hkl2 : (k : Int) < (q : Int) := by omega
        have hk25 : (k : Int) < 25 := by omega
        have hk0 : (0 : Int) ≤ (k : Int) := by omega
        have hx := MA.out.cell k (by rw [xorTo_length, HA.out]; omega)
        have hf := MA.out.free k
        have HV := Aside0.mk (show xorTo a l i0 (k + 1) = (xorTo a l i0 k).set k (Go.bits .xor .u64 ((xorTo a l i0 k).getD k 0) ((loadV l ((i0 + 8 * k : Nat) : Int) : Nat) : Int)) from rfl)
        have HSK := HSV.out k hkq
        have HKQ := Aside0.mk hkq
        obtain ⟨k8, hk8⟩ : ∃ z : Nat, z = 8 * k := ⟨_, rfl⟩
        rw [← hk8] at HV HSK
        have f1 : IntKind.i64.wrap (8 * (k : Int)) = (k8 : Int) := by rw [IntKind.wrap_i64]; omega
        have C3 := Aside0.mk (fun (w : World) (hC : Kd.C (Kd.int .u8) w (some ⟨gl, i0, none⟩) rate sub) => load_c (some ⟨gl, i0, none⟩) rate sub k8 w (by rw [HSL.out]; exact hC) (Nat.le_of_eq HSL.out) HSB.out (by rw [HSL.out]; have := HRS.out.2; omega))
        rw [HSK, HSL.out] at C3
        clear hk8 HSK hk hkq
        generalize ((loadV l ((i0 + k8 : Nat) : Int) : Nat) : Int) = y at *
        generalize (xorTo a l i0 k).getD k 0 = x at *
        generalize xorTo a l i0 k = s at *
        gi_wp2
        refine start_in (by rfl) (m := 10) (S := fun w' => w'.cell? ⟨bA, k, none⟩ = some (.int .u64 x)) (ds := [9]) #[false, false, false, false, false, false, false, false, false, false] (by kernel_rfl) rfl rfl (hx) (fun hHeld => ?_)
        refine pure_ (i := 0) (N := some 44) (v := ?_) (a' := ?_) #[true, false, false, false, false, false, false, false, false, false] rfl rfl (by kernel_rfl) (fun _ _ _ h => h) (Or.inl ⟨by rfl, ?_⟩) ?_ ?_
        rotate_left
        · intro w'
          go_simp
          with_reducible rfl
        rotate_left
        · simp only [Act.put, List.setIfInBounds_toArray, List.set_cons_zero, List.set_cons_succ, i64_w, i32_w]
          rfl
        refine pure_ (i := 1) (N := some 45) (v := ?_) (a' := ?_) #[true, true, false, false, false, false, false, false, false, false] rfl rfl (by kernel_rfl) (fun _ _ _ h => h) (Or.inl ⟨by rfl, ?_⟩) ?_ ?_
        rotate_left
        · intro w'
          go_simp
          with_reducible rfl
        rotate_left
        · simp only [Act.put, List.setIfInBounds_toArray, List.set_cons_zero, List.set_cons_succ, i64_w, i32_w]
          rfl
        refine pure_ (i := 3) (N := some 47) (v := ?_) (a' := ?_) #[true, true, false, true, false, false, false, false, false, false] rfl rfl (by kernel_rfl) (fun _ _ _ h => h) (Or.inl ⟨by rfl, ?_⟩) ?_ ?_
        rotate_left
        · intro w'
          go_simp
          with_reducible rfl
        rotate_left
        · simp only [Act.put, List.setIfInBounds_toArray, List.set_cons_zero, List.set_cons_succ, i64_w, i32_w]
          rfl
        refine pure_ (i := 4) (N := some 48) (v := ?_) (a' := ?_) #[true, true, false, true, true, false, false, false, false, false] rfl rfl (by kernel_rfl) (fun _ _ _ h => h) (Or.inl ⟨by rfl, ?_⟩) ?_ ?_
        rotate_left
        · intro w'
          go_simp
          with_reducible rfl
        rotate_left
        · simp only [Act.put, List.setIfInBounds_toArray, List.set_cons_zero, List.set_cons_succ, i64_w, i32_w]
          rfl
        refine pure_ (i := 5) (N := some 49) (v := ?_) (a' := ?_) #[true, true, false, true, true, true, false, false, false, false] rfl rfl (by kernel_rfl) (fun _ _ _ h => h) (Or.inl ⟨by rfl, ?_⟩) ?_ ?_
        rotate_left
        · intro w'
          go_simp
          with_reducible rfl
        rotate_left
        · simp only [Act.put, List.setIfInBounds_toArray, List.set_cons_zero, List.set_cons_succ, i64_w, i32_w]
          rfl
        refine take_ (i := 2) (N := some 46) (v := ?_) (a' := ?_) #[true, true, true, true, true, true, false, false, false, false] rfl rfl (by kernel_rfl) (fun _ _ _ h => h) (Or.inl ⟨by rfl, ?_⟩) hHeld ?_ ?_
        rotate_left
        · intro w' s0
          go_simp
          with_reducible rfl
        rotate_left
        · simp only [Act.put, List.setIfInBounds_toArray, List.set_cons_zero, List.set_cons_succ, i64_w, i32_w]
          rfl
        refine one_ (i := 6) (N := some 50) #[true, true, true, true, true, true, true, false, false, false] rfl rfl (by kernel_rfl) (by decide) (fun K hK => ?_)
        refine goes_ Try.func57 (by kernel_rfl) rfl #[.slice (some ⟨gl, i0, none⟩) rate rate, .int .i64 k8] (by rfl) rfl rfl (by simp only [List.map_toArray, List.map_cons, List.map_nil]; rfl) ?_
        with_reducible refine ((C3.out _ (HSC.out _ (Kd.R_drew HL.out)))).mono ?_
        rintro e w3 ⟨rfl, ⟨⟨n3, rfl⟩⟩⟩
        refine ⟨_, rfl, ?_⟩
        refine hK.out _ _ (hHeld) (fun hHeld => ?_)
        clear hK K
        refine norm_ (a' := ?_) ?_ ?_
        rotate_left
        · show Act.put _ (some 50) _ = _
          simp only [Act.put, List.setIfInBounds_toArray, List.set_cons_zero, List.set_cons_succ, i64_w, i32_w]
          rfl
        refine pure_ (i := 7) (N := some 51) (v := ?_) (a' := ?_) #[true, true, true, true, true, true, true, true, false, false] rfl rfl (by kernel_rfl) (fun _ _ _ h => h) (Or.inl ⟨by rfl, ?_⟩) ?_ ?_
        rotate_left
        · intro w'
          go_simp
          with_reducible rfl
        rotate_left
        · simp only [Act.put, List.setIfInBounds_toArray, List.set_cons_zero, List.set_cons_succ, i64_w, i32_w]
          rfl
        refine pure_ (i := 8) (N := some 52) (v := ?_) (a' := ?_) #[true, true, true, true, true, true, true, true, true, false] rfl rfl (by kernel_rfl) (fun _ _ _ h => h) (Or.inl ⟨by rfl, ?_⟩) ?_ ?_
        rotate_left
        · intro w'
          go_simp
          with_reducible rfl
        rotate_left
        · simp only [Act.put, List.setIfInBounds_toArray, List.set_cons_zero, List.set_cons_succ, i64_w, i32_w]
          rfl
        refine last_ (i := 9) (N := none) #[true, true, true, true, true, true, true, true, true, true] rfl rfl (by kernel_rfl) (by decide) (fun K hK => ?_)
        refine skip_ (w1 := ?_) (by rfl) rfl ?_ ?_
        rotate_left
        · go_simp
          rfl
        refine hK.out _ _ ?_
        clear hK K
        refine done_ (by kernel_rfl) ?_
        refine shut_normal ?_
        gi_wp2
        go_roundw
        case rel => exact ⟨k + 1, by have := HKQ.out; omega, by go_num, ⟨by rw [HV.out]; exact Mem.set (Mem.drewN MA.out _) _ _⟩, ⟨Kd.R_far (Kd.R_drewN HL.out _) (fun g hg => by show g ≠ bA; omega) _⟩, ⟨Mem.other (Mem.drewN MR.out _) (by have := HSZ.out; omega) _ _⟩, ⟨Mem.other (Mem.drewN MN.out _) (by have := HSZ.out; omega) _ _⟩, ⟨below_set (pw_below_drewN HB.out _) (by have := HSZ.out; omega)⟩, ⟨Rd.set (HRD.out.drewN _) (Mem.drewN MA.out _) (by simp; omega) _ _⟩⟩
        case measure => simp [intOf]; have := HKQ.out; omega
      · obtain rfl : k = q := by omega
        have hkd : ¬ (k : Int) < (k : Int) := by omega
        have HSL := Aside0.mk (show (xorTo a l i0 k).length = 25 by rw [xorTo_length, HA.out])
        have HSW := Aside0.mk (xorTo_words a l i0 HAW.out HLB.out k)
        generalize xorTo a l i0 k = s at *
        have HPL := Aside0.mk (permTo_length s HSL.out 24)
        have HCP := Aside0.mk (permute_c s HSL.out HSW.out)
        rw [arrV_eq, arrV_eq] at HCP
        clear hk hkq
        generalize permTo s 24 = p at *
        gi_wp2
        rw [← HC14.out]
        refine region_in (by rfl) ?_
        go_wp2_with (first
          | ((with_reducible refine gate_dst (N := 54) rfl ?_); go_loud (refine Mem.load MA.out rfl 72 (.tmp 12) rfl rfl Try.underlying72 (by rw [HSL.out]; exact info_st) ?_))
          | (go_at_call 58; (with_reducible refine (HCP.out.q _).mono ?_); rintro e w4 ⟨rfl, hb4⟩; have MA := Aside0.mk (Mem.below MA.out hb4); have HB := Aside0.mk (below_step HB.out hb4); have HL := Aside0.mk (Kd.R_below HL.out hb4); have MR := Aside0.mk (Mem.below MR.out hb4); have MN := Aside0.mk (Mem.below MN.out hb4); have HRD := Aside0.mk (HRD.out.below hb4); clear hb4)
          | ((with_reducible refine gate_store (t := 72) (p := 12) rfl ?_); go_loud (refine Mem.store (l' := p) MA.out rfl 72 (.tmp 12) (.tmp 55) rfl rfl rfl (by rw [HPL.out]; exact info_st) (by rw [HPL.out, HSL.out]) ?_)))
        refine shut_normal ?_
        gi_wp2
        refine ⟨Rd.row HRD.out MA.out (by simp; omega) _, ?_⟩
        rw [HQ.out]
        refine ⟨by have := HJ.out; omega, ⟨by rw [HAN.out]; exact Mem.put MA.out p⟩, ⟨Kd.R_step HL.out (fun g hg _ => setRow_other _ _ _ _ (by omega))⟩, ⟨Mem.row MR.out (by have := HSZ.out; omega) _⟩, ⟨Mem.row MN.out (by have := HSZ.out; omega) _⟩, ⟨below_setRow HB.out (by have := HSZ.out; omega) _⟩⟩
  case done =>
    rintro D1 W hD1 _ ⟨_, MA, HL, MR, MN, HB⟩ hK
    have HK1 := Aside0.mk hK
    have HD1L := Aside0.mk (show w.heap.size ≤ D1 by have := HCS.out; have := HSZ.out; omega)
    have HSA := Aside0.mk (absorb_length l rate NBl)
    have HSW := Aside0.mk (absorb_words l rate HLB.out NBl)
    generalize absorb l rate NBl = st at *
    obtain ⟨BZ, hBZ⟩ : ∃ z, z = W.heap.size := ⟨_, rfl⟩
    have HBZ := Aside0.mk (show w.heap.size ≤ BZ ∧ D1 < BZ ∧ bA < BZ ∧ w.heap.size + 1 < BZ by
      have h1 := HB.out.size
      have h2 := (Array.getElem?_eq_some_iff.1 hK).1
      have h3 := MA.out.lt
      have h4 := MN.out.lt
      omega)
    have HBE := Aside0.mk hBZ
    obtain ⟨nr, hnr⟩ : ∃ z, z = n + rate := ⟨_, rfl⟩
    have f1 : wrap64 ((n : Int) + (rate : Int)) = (nr : Int) := by have := HMM.out; rw [w64 (by omega) (by omega)]; omega
    have HNR := Aside0.mk (show 1 * nr ≤ 281474976710656 by have := HMM.out; omega)
    have hcr := Mem.one MR.out
    have hcn := Mem.one MN.out
    have hn0 : (0 : Int) ≤ (n : Int) := by omega
    have hr0 : (0 : Int) ≤ (rate : Int) := by omega
    clear hseq HL hD1 hBZ hnr hK HABQ
    dsimp only
    go_upto_region 16 with (first
      | ((with_reducible refine gate_dst (N := 59) rfl ?_); go_loud (refine wp_make0 (Kd.int .u8) (W := W) w w.heap.size 5 rfl 22 (.const (.int .i64 0)) (.tmp 58) rfl nr rfl (by go_simp) Try.underlying22 (.int .u8 0) 1 info_u8 (by decide) HNR.out (fun k => BZ ≤ k) (Nat.le_of_eq HBE.out) HB.out HB.out.size ?_; intro w5 ho hb hg; have HO := Aside0.mk ho; have HB5 := Aside0.mk hb; have HG := Aside0.mk hg; clear ho hb hg)))
    have MA5 := Mem_grown MA.out HG.out (by simp)
    have MR5 := Mem_grown MR.out HG.out (by simp)
    have MN5 := Mem_grown MN.out HG.out (by simp)
    have K5 := (HG.out.block D1 (Array.getElem?_eq_some_iff.1 HK1.out).1 (by simp)).trans HK1.out
    have hs5 : BZ ≤ w5.heap.size := by rw [HBE.out]; exact HG.out.size
    generalize hwz : World.alloc w5 _ = wz
    have MA := Aside0.mk (show Mem .u64 wz bA 72 st by rw [← hwz]; exact MA5.alloc _)
    have MR := Aside0.mk (show Mem .i64 wz w.heap.size 3 [(rate : Int)] by rw [← hwz]; exact MR5.alloc _)
    have MN := Aside0.mk (show Mem .i64 wz (w.heap.size + 1) 3 [(n : Int)] by rw [← hwz]; exact MN5.alloc _)
    have HK1 := Aside0.mk (show wz.heap[D1]? = some (.deferred (some [])) by rw [← hwz]; exact heap_below K5 (below_alloc (Below.refl _ _) _))
    have HBX := Aside0.mk (show wz.heap[w5.heap.size]? = some (.cells #[.slice (some ⟨BZ, 0, none⟩) 0 nr] 22 (0, 0)) by rw [← hwz, HBE.out]; exact World.alloc_heap_new _ _)
    have HO := Aside0.mk (show Kd.R (Kd.int .u8) 5 wz w.heap.size (fun k => BZ ≤ k) (.slice (some ⟨BZ, 0, none⟩) 0 nr) [] by rw [← hwz, HBE.out]; exact Kd.R_alloc (by have h := HO.out; rw [HBE.out] at h; exact h) _)
    have HB := Aside0.mk (show Below w.heap.size w wz by rw [← hwz]; exact below_alloc HB5.out _)
    have HZS := Aside0.mk (show w5.heap.size < wz.heap.size by rw [← hwz, World.size_alloc]; omega)
    have HBO := Aside0.mk hs5
    generalize w5.heap.size = bO at *
    have hcr := Mem.one MR.out
    have SQ := Aside0.mk (fun w2 => squeezed_c st HSA.out rate w2)
    clear MA5 MR5 MN5 K5 hs5 hwz HB5 HG f1 HNR hcn
    go_wp2_with (first
      | ((with_reducible refine gate_dst (N := 60) rfl ?_); go_loud (refine Mem.load MA.out rfl 72 (.tmp 12) rfl rfl Try.underlying72 (by rw [HSA.out]; exact info_st) ?_))
      | (go_at_call 59; (with_reducible refine (SQ.out _).mono ?_); rintro e wc ⟨rfl, hwc⟩; have HWC := Aside0.mk hwc; clear hwc))
    have HBC := Aside0.mk (show Below wz.heap.size wz wc by rw [HWC.out]; exact below_alloc (below_alloc (Below.refl _ _) _) _)
    have MQ := Aside0.mk (show Mem .u64 wc wz.heap.size 72 st by rw [HWC.out]; exact (Mem.new .u64 wz 72 st).alloc _)
    have HRQ := Aside0.mk (show wc.heap[wz.heap.size + 1]? = some (.cells #[.int .i64 (rate : Int)] 3 (0, 0)) by rw [HWC.out]; have h := World.alloc_heap_new (wz.alloc (.cells (cellsOf .u64 st) 72)) (.cells #[.int .i64 (rate : Int)] 3); rw [World.size_alloc] at h; exact h)
    have HCS := Aside0.mk (show wc.heap.size = wz.heap.size + 2 by rw [HWC.out, World.size_alloc, World.size_alloc])
    have MN := Aside0.mk (MN.out.below HBC.out)
    have HK1 := Aside0.mk (heap_below HK1.out HBC.out)
    have HBX := Aside0.mk (heap_below HBX.out HBC.out)
    have HO := Aside0.mk (Kd.R_mono (Kd.R_bound (Kd.R_below HO.out HBC.out)) (ok' := fun k => BZ ≤ k ∧ k ≠ wz.heap.size ∧ k ≠ wz.heap.size + 1) (fun k hk => by
      obtain ⟨h0, _, _, t, ht, cells, hc⟩ := hk
      have hm : t = 5 := by simpa [Kd.int, Kd.scalar] using ht
      subst hm
      refine ⟨h0, fun e => ?_, fun e => ?_⟩
      · have := MQ.out
        rw [← e] at this
        rw [show wc.heap[k]? = _ from this] at hc
        cases hc
      · have := HRQ.out
        rw [← e] at this
        rw [show wc.heap[k]? = _ from this] at hc
        cases hc))
    have HB := Aside0.mk (below_step HB.out HBC.out)
    have HQS := Aside0.mk (show wz.heap.size + 1 < wc.heap.size by have := HCS.out; omega)
    clear HWC HBC MA MR hcr SQ
    generalize wz.heap.size = bQ at *
    have hseq := squeezed_seq bQ (bQ + 1) (by omega) st HSA.out HSW.out rate q (turnsN n rate) hq8 hq24 wc MQ.out HRQ.out
    refine' range_wp (lb := #[.pointer (some ⟨bQ, 0, none⟩), .pointer (some ⟨bQ + 1, 0, none⟩)]) rfl (enters_of Try.func81 (by kernel_rfl) rfl) hseq
      (fun A B h b o hb ho _ => (h.block b (Array.getElem?_eq_some_iff.1 ho).1 (fun e => by have e := Option.some.inj e; have := HCS.out; omega)).trans ho) (Below.refl _ _)
      (fun j W => j ≤ turnsN n rate ∧ ∃ v, Aside0 (W.heap[bO]? = some (.cells #[v] 22 (0, 0))) ∧ Aside0 (Kd.R (Kd.int .u8) 5 W w.heap.size (fun k => BZ ≤ k ∧ k ≠ bQ ∧ k ≠ bQ + 1) v (outL st q j)) ∧ Aside0 (Mem .i64 W (w.heap.size + 1) 3 [(n : Int)]) ∧ Aside0 (W.heap[D1]? = some (.deferred (some []))) ∧ Aside0 (Below w.heap.size w W) ∧ Aside0 (bQ + 1 < W.heap.size))
      (fun c W => c = .exit 5 ∧ ∃ j v, (j ≤ turnsN n rate ∧ n ≤ 8 * q * j) ∧ Aside0 (W.heap[bO]? = some (.cells #[v] 22 (0, 0))) ∧ Aside0 (Kd.R (Kd.int .u8) 5 W w.heap.size (fun k => BZ ≤ k ∧ k ≠ bQ ∧ k ≠ bQ + 1) v (outL st q j)) ∧ Aside0 (Mem .i64 W (w.heap.size + 1) 3 [(n : Int)]) ∧ Aside0 (W.heap[D1]? = some (.deferred (some []))) ∧ Aside0 (Below w.heap.size w W) ∧ Aside0 (bQ + 1 < W.heap.size))
      ?hI ?hIx (fun j v => lasts_R rfl _ _) ?hIs ?hIxs (fun j A h => h.1) ⟨Nat.zero_le _, _, HBX, HO, MN, HK1, HB, HQS⟩ _ ?assign2 ?body2 ?done2 ?stop2
    case hI => exact fun j => lasts_and (lasts_pure _) (lasts_ex fun v => lasts_and (lasts_aside (lasts_cells _ _ _ _)) (lasts_and (lasts_aside (lasts_R rfl _ _)) (lasts_and (lasts_aside (lasts_mem _ _ _ _)) (lasts_and (lasts_aside (lasts_old _ (by have := HBZ.out.2.1; have := HBO.out; have := HZS.out; have := HCS.out; omega))) (lasts_and (lasts_aside (lasts_below _ (by have := HBZ.out.1; have := HBO.out; have := HZS.out; have := HCS.out; omega))) (lasts_aside (lasts_size _)))))))
    case hIx => exact fun c => lasts_and (lasts_pure _) (lasts_ex fun j => lasts_ex fun v => lasts_and (lasts_pure _) (lasts_and (lasts_aside (lasts_cells _ _ _ _)) (lasts_and (lasts_aside (lasts_R rfl _ _)) (lasts_and (lasts_aside (lasts_mem _ _ _ _)) (lasts_and (lasts_aside (lasts_old _ (by have := HBZ.out.2.1; have := HBO.out; have := HZS.out; have := HCS.out; omega))) (lasts_and (lasts_aside (lasts_below _ (by have := HBZ.out.1; have := HBO.out; have := HZS.out; have := HCS.out; omega))) (lasts_aside (lasts_size _))))))))
    case hIs =>
      rintro j A B ⟨h0, v, h1, h2, h3, h4, h5, h6⟩ hst
      exact ⟨h0, v, ⟨heap_grown h1.out hst (by have := HZS.out; omega)⟩, ⟨Kd.R_grown h2.out hst (fun k hk e => hk.2.1 (Option.some.inj e))⟩, ⟨Mem_grown h3.out hst (fun e => by have e := Option.some.inj e; have := HBZ.out.2.2.2; have := HBO.out; have := HZS.out; omega)⟩, ⟨heap_grown h4.out hst (by have := HBZ.out.2.1; have := HBO.out; have := HZS.out; omega)⟩, ⟨h5.out.grown hst h5.out.size (fun k e => by have e := Option.some.inj e; have := HBZ.out.1; have := HBO.out; have := HZS.out; omega)⟩, ⟨Nat.lt_of_lt_of_le h6.out hst.size⟩⟩
    case hIxs =>
      rintro c A B ⟨hc, j, v, h0, h1, h2, h3, h4, h5, h6⟩ hst
      exact ⟨hc, j, v, h0, ⟨heap_grown h1.out hst (by have := HZS.out; omega)⟩, ⟨Kd.R_grown h2.out hst (fun k hk e => hk.2.1 (Option.some.inj e))⟩, ⟨Mem_grown h3.out hst (fun e => by have e := Option.some.inj e; have := HBZ.out.2.2.2; have := HBO.out; have := HZS.out; omega)⟩, ⟨heap_grown h4.out hst (by have := HBZ.out.2.1; have := HBO.out; have := HZS.out; omega)⟩, ⟨h5.out.grown hst h5.out.size (fun k e => by have e := Option.some.inj e; have := HBZ.out.1; have := HBO.out; have := HZS.out; omega)⟩, ⟨Nat.lt_of_lt_of_le h6.out hst.size⟩⟩
    case assign2 =>
      intro l2 v W K hK
      gi_wp2
      exact hK
    case done2 =>
      rintro D W hD h _
      exact h.elim
    case body2 =>
      rintro l2 j v2 W2 ⟨hj, v, HBX, HO, MN, HK1, HB, HQS⟩ hv2
      obtain ⟨A2, c2, rfl, hc2, hC2⟩ := Kd.R_reads hv2
      have HC2 := Aside0.mk hC2
      have HV2 := Aside0.mk hv2
      obtain ⟨Ao, co, rfl, hco, hrd⟩ := Kd.R_reads HO.out
      have hbx := Boxv.cell HBX.out
      have hcn := Mem.one MN.out
      have hol := outL_length st q j
      have HTL := Aside0.mk (told_length (sq st j) q)
      have HON := Aside0.mk (show outL st q (j + 1) = outL st q j ++ told (sq st j) q from rfl)
      have HBO2 := Aside0.mk (And.intro HBO.out HZS.out)
      have HRD := Aside0.mk (Rd.refl [bQ, bQ + 1] W2)
      by_cases hge : n ≤ 8 * q * j
      · have h1 : (n : Int) ≤ ((outL st q j).length : Int) := by rw [hol]; omega
        have HJ := Aside0.mk (And.intro hj hge)
        clear hseq hC2 hv2 hrd hol hge hj
        generalize hot : outL st q j = ot at *
        have HOT := Aside0.mk hot
        clear hot
        gi_wp2
        exact ⟨HRD.out, rfl, j, _, HJ.out, HBX, ⟨by rw [HOT.out]; exact HO.out⟩, MN, HK1, HB, HQS⟩
      · have h1 : ((outL st q j).length : Int) < (n : Int) := by rw [hol]; omega
        have h2 : (decide ((n : Int) ≤ ((outL st q j).length : Int))) = false := decide_eq_false (by omega)
        have HJ := Aside0.mk (show j + 1 ≤ turnsN n rate by
          have h3 := HN.out
          rcases Nat.lt_or_ge j (turnsN n rate) with h | h
          · omega
          · exfalso
            have e : j = turnsN n rate := by omega
            rw [e, hq8] at hge
            omega)
        have HFT := Aside0.mk (show (outL st q j).length + (told (sq st j) q).length ≤ 140737488355328 by
          have := HTL.out
          have := HMM.out.2.2
          omega)
        have HOB := Aside0.mk (fun r (hr : (Value.slice Ao (outL st q j).length co).ownBlock = some r) => show r ∉ [bQ, bQ + 1] ∧ r ≠ bO ∧ r ≠ D1 ∧ r ≠ w.heap.size + 1 ∧ ∃ cs t f, W2.heap[r]? = some (.cells cs t f) by
          obtain ⟨cells, hc⟩ := Kd.R_typed HO.out r hr
          have ho := HO.out.1 r hr
          have b1 := HBZ.out
          have b2 := HBO2.out
          refine ⟨?_, ?_, by omega, by omega, cells, _, _, hc⟩
          · intro hm
            rcases List.mem_cons.1 hm with e | hm
            · exact ho.2.1 e
            · exact ho.2.2 (by simpa using hm)
          · intro e
            subst e
            rw [HBX.out] at hc
            cases hc)
        clear hseq hC2 hv2 hrd hol hge hj
        generalize outL st q j = ot at *
        generalize told (sq st j) q = st2 at *
        generalize hC19 : Code.region 19 _ _ = c19
        have HC19 := Aside0.mk hC19
        clear hC19
        gi_wp2
        rw [← HC19.out]
        refine region_in (by rfl) ?_
        go_wp2_with (first
          | ((with_reducible refine gate_builtin (b := .append) (xs := #[.tmp 68, .tmp 69]) rfl ?_); go_loud (refine Kd.R_append_rows (Kd.int .u8) (w0 := w) w.heap.size rfl (.tmp 68) (.tmp 69) 22 5 (.int .u8 0) 1 rfl Try.underlying22 info_u8 rfl (by decide) (by omega) _ ot st2 A2 st2.length c2 (fun k => BZ ≤ k ∧ k ≠ bQ ∧ k ≠ bQ + 1) (fun _ => False) rfl rfl HO.out HC2.out (fun _ _ h => h) (fun _ h => h.elim) (fun k hk => ⟨by have := HBZ.out; have := HBO2.out; have := HQS.out; omega, by have := HQS.out; omega, by have := HQS.out; omega⟩) HB.out HB.out.size ?aL ?_; (case aL => have := HFT.out; omega); intro v3 w5 ho hb hg hat; obtain ⟨A3, c3, rfl, _, _⟩ := Kd.R_reads ho; have HRD := Aside0.mk (HRD.out.grown hg (fun r hr => ⟨(HOB.out r hr).1, (HOB.out r hr).2.2.2.2⟩)); have HBX5 := (hg.block bO (Array.getElem?_eq_some_iff.1 HBX.out).1 (fun e => (HOB.out bO e.symm).2.1 rfl)).trans HBX.out; have hbx5 := Boxv.cell HBX5; have hbf5 := Boxv.free HBX5; have HBX := Aside0.mk HBX5; have MN := Aside0.mk (Mem_grown MN.out hg (fun e => (HOB.out _ e.symm).2.2.2.1 rfl)); have HK1 := Aside0.mk ((hg.block D1 (Array.getElem?_eq_some_iff.1 HK1.out).1 (fun e => (HOB.out D1 e.symm).2.2.1 rfl)).trans HK1.out); have HQS := Aside0.mk (Nat.lt_of_lt_of_le HQS.out hg.size); have HB := Aside0.mk hb; have HO := Aside0.mk ho; clear HBX5 hbx hcn ho hb hg hat)))
        refine shut_normal ?_
        gi_wp2
        refine ⟨HRD.out.set HBX.out (by have := HBO2.out; simp; omega) _ _, HJ.out, _, ⟨Boxv.put HBX.out _⟩, ⟨?_⟩, ⟨Mem.other MN.out (by have := HBZ.out; have := HBO2.out; omega) _ _⟩, ⟨Boxv.other HK1.out (by have := HBZ.out; have := HBO2.out; omega) _⟩, ⟨below_set HB.out (by have := HBZ.out; have := HBO2.out; omega)⟩, ⟨by rw [setCell_size]; exact HQS.out⟩⟩
        rw [HON.out]
        have h5 := Kd.R_set HO.out HBX.out (by intro q hq; simp [Kd.int, Kd.scalar] at hq; subst hq; decide) 0 (Value.slice A3 (ot.length + st2.length) c3)
        rw [List.length_append] at h5
        exact h5
    case stop2 =>
      rintro D c W2 hD ⟨rfl, j, v, ⟨hj, hnj⟩, HBX, HO, MN, HK1, HB, HQS⟩ hK2
      obtain ⟨Ao, co, rfl, hco, hrd⟩ := Kd.R_reads HO.out
      have hbx := Boxv.cell HBX.out
      have hcn := Mem.one MN.out
      have hol := outL_length st q j
      have HTK := Aside0.mk (show (outL st q j).take n = (outL st q (turnsN n rate)).take n from (outL_take st q n j (turnsN n rate) hnj hj).symm)
      have h1 : (n : Int) ≤ ((outL st q j).length : Int) := by rw [hol]; omega
      have h2 : (n : Int) ≤ (co : Int) := by omega
      have HNL := Aside0.mk (show n ≤ (outL st q j).length by omega)
      have HD := Aside0.mk (And.intro hD hK2)
      clear hseq hol hco hrd hnj hj hD hK2
      generalize outL st q j = ot at *
      dsimp only
      go_wp2
      have HD1 := (Array.getElem?_eq_some_iff.1 HD.out.2).1
      have hDD : D1 ≠ D := by have := HBZ.out; have := HBO.out; have := HZS.out; have := HCS.out; have := HD.out.1; omega
      have hBD : w.heap.size ≤ D := by have := HBZ.out; have := HBO.out; have := HZS.out; have := HCS.out; have := HD.out.1; omega
      have HK3 := (World.putObj_heap_other hDD (w := W2) (o := .deferred none)).trans HK1.out
      refine ⟨by simp, .inl ⟨_, _, rfl, run_takeDeferred HD.out.2, ?_⟩⟩
      refine ⟨by simp, .inl ⟨_, _, rfl, run_takeDeferred HK3, ?_⟩⟩
      have HO2 := (lasts_R (B := 0) (d := Kd.int .u8) rfl (e := 5) (b := w.heap.size) (ok := fun k => BZ ≤ k ∧ k ≠ bQ ∧ k ≠ bQ + 1) (.slice Ao ot.length co) ot).putObj (s := ()) (.deferred none) HO.out (Nat.zero_le _) HD.out.2 rfl
      have HO3 := (lasts_R (B := 0) (d := Kd.int .u8) rfl (e := 5) (b := w.heap.size) (ok := fun k => BZ ≤ k ∧ k ≠ bQ ∧ k ≠ bQ + 1) (.slice Ao ot.length co) ot).putObj (s := ()) (.deferred none) HO2 (Nat.zero_le _) HK3 rfl
      have HB2 := (lasts_below (B := w.heap.size) w (Nat.le_refl _)).putObj (s := ()) (.deferred none) HB.out hBD HD.out.2 rfl
      have HB3 := (lasts_below (B := w.heap.size) w (Nat.le_refl _)).putObj (s := ()) (.deferred none) HB2 HD1L.out HK3 rfl
      have HT3 := Kd.R_take (m := n) HO3 HNL.out
      rw [HTK.out, ← HSUM.out] at HT3
      have hlen : n = (sumL m rate mark n).length := (Kd.R_reads' HT3).1
      exact ⟨_, results_tmp2 rfl _ _ _, Ao, _, rfl, hlen, Kd.R_mono HT3 (fun k hk => Nat.le_trans HBZ.out.1 hk.1), HB3⟩
theorem sum_yes (A0 : Option Addr) (c0 : Nat) (m : List Int) (rate : Nat) (mark : Int) (n : Nat) (w : World) (hr0 : Kd.C (Kd.int .u8) w A0 m.length m) (hc0 : m.length ≤ c0) (h : Rateds (rate : Int)) (hm : m.length ≤ 1000000000) (hn : n ≤ 65536) (hmb : IsB m) (hmk : 0 ≤ mark ∧ mark < 256) :
    Calls Try.prog 27 #[.slice A0 m.length c0, .int .i64 rate, .int .u8 mark, .int .i64 n] w fun e w' => ∃ v0_ : Value, e = .returned (.tuple #[v0_, .int .i64 0]) ∧ Kd.V (Kd.int .u8) 5 w' w.heap.size (fun k_ => (w.heap.size ≤ k_)) v0_ (sumL m rate mark n) ∧ Below w.heap.size w w' :=
  (sum_own A0 c0 m rate mark n w hr0 hc0 h hm hn hmb hmk).mono fun e w' ⟨A_, cc, he, hl, hR, hB⟩ => ⟨_, he, ⟨A_, n, by rw [← hl], Nat.le_of_eq hl.symm, by rw [← hl]; exact Kd.R_F hR⟩, hB⟩
def sponge_Sum.f (m : List Int) (rate mark n : Int) : Option (List Int × Int) := if Rateds rate then (if m.length ≤ 1000000000 ∧ allB m = true ∧ 0 ≤ mark ∧ mark < 256 then (if 0 ≤ n ∧ n ≤ 65536 then some (sumL m rate.toNat mark n.toNat, 0) else some ([], 1)) else none) else some ([], 1)
theorem sponge_Sum.calls (A0 : Option Addr) (c0 : Nat) (l0 : List Int) (a1 a2 a3 : Int) (r1 : List Int) (r2 : Int) (w : World) (hr0 : Kd.C (Kd.int .u8) w A0 l0.length l0) (hc0 : l0.length ≤ c0) (h : sponge_Sum.f l0 a1 a2 a3 = some (r1, r2)) :
    Calls Try.prog 27 #[.slice A0 l0.length c0, .int .i64 a1, .int .u8 a2, .int .i64 a3] w fun e w' => ∃ v0_ : Value, e = .returned (.tuple #[v0_, .int .i64 r2]) ∧ Kd.V (Kd.int .u8) 5 w' w.heap.size (fun k_ => (w.heap.size ≤ k_)) v0_ r1 ∧ Below w.heap.size w w' := by
  have hnil : ∀ w' v0_, Kd.R (Kd.int .u8) 5 w' w.heap.size (fun _ => True) v0_ [] → Kd.V (Kd.int .u8) 5 w' w.heap.size (fun k_ => (w.heap.size ≤ k_)) v0_ [] := fun w' v0_ hR => Kd.V_mono (Kd.R_V (Kd.R_bound hR)) (fun k hk => hk.2.1)
  unfold sponge_Sum.f at h
  split at h
  · rename_i hr
    obtain ⟨rate, rfl⟩ : ∃ q : Nat, a1 = (q : Int) := ⟨a1.toNat, by have := hr.1; omega⟩
    split at h
    · rename_i hl
      split at h
      · rename_i hn
        obtain ⟨n, rfl⟩ : ∃ q : Nat, a3 = (q : Int) := ⟨a3.toNat, by omega⟩
        obtain ⟨h1, h2⟩ := Prod.mk.inj (Option.some.inj h)
        rw [Int.toNat_natCast, Int.toNat_natCast] at h1
        rw [← h1, ← h2]
        exact sum_yes A0 c0 l0 rate a2 n w hr0 hc0 hr hl.1 (by omega) ((allB_iff _).1 hl.2.1) hl.2.2
      · rename_i hn
        obtain ⟨h1, h2⟩ := Prod.mk.inj (Option.some.inj h)
        rw [← h1, ← h2]
        exact (sum_no2 A0 c0 l0 rate a2 a3 w hr0 hc0 hr hl.1 (by omega)).mono fun e w' ⟨v, h1, h2, h3⟩ => ⟨v, h1, hnil _ _ h2, h3⟩
    · cases h
  · rename_i hr
    obtain ⟨h1, h2⟩ := Prod.mk.inj (Option.some.inj h)
    rw [← h1, ← h2]
    exact (sum_no1 A0 c0 l0 a1 a2 a3 w hr).mono fun e w' ⟨v, h1, h2, h3⟩ => ⟨v, h1, hnil _ _ h2, h3⟩
end Go.Proofs.Ythijjpiddelefaa.SpSum
