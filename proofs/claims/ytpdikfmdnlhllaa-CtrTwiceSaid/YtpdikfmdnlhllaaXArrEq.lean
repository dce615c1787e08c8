/-
  Arrays of whole numbers: compared, built as zeros, read whole. Plain lemmas; no condition.
-/
import Derived.Test.YtpdikfmdnlhllaaXMem
import Derived.ChangeKeysEq
namespace Go.Proofs.Ytpdikfmdnlhllaa.ArrEq
open Go.RowKit Go.Proofs.YtpdikfmdnlhllaaW.PrintWords Arr Mem
variable {k : IntKind} {P : Program}
theorem run_eqItems_int {e : TypeId} {k' : IntKind} {inf : TypeInfo} (d : Nat) (he : P.underlying e = some (.int k')) (hi : P.info? e = some inf) (hs : inf.size = 1) (a b : List Int) (w : World) : ∀ is : List Nat, (∀ i ∈ is, i < a.length ∧ i < b.length) →
    (Op.eqItems (d + 1) e 1 (cellsOf k a) (cellsOf k b) is).run P w = .ok (is.all fun i => a.getD i 0 == b.getD i 0) w
  | [], _ => by simp [Op.eqItems]
  | i :: is, h => by
    have hagg : (isAgg e).run P w = .ok false w := by
      unfold isAgg
      rw [Sem.run_bind, run_underlying he w]
      rfl
    have hp : ∀ l : List Int, i < l.length → (part e (cellsOf k l) (i * 1)).run P w = .ok (.int k (l.getD i 0)) w := by
      intro l hl
      have hc : (cellsOf k l)[i]? = some (.int k (l.getD i 0)) := by
        rw [cellsOf_get, List.getElem?_eq_getElem hl, List.getD_eq_getElem?_getD, List.getElem?_eq_getElem hl]; rfl
      simp [part, Sem.run_bind, hagg, hc, go_sem]
    have hrec := run_eqItems_int d he hi hs a b w is (fun j hj => h j (List.mem_cons_of_mem _ hj))
    simp only [Op.eqItems, Sem.run_bind, hp a (h i (List.mem_cons_self ..)).1, hp b (h i (List.mem_cons_self ..)).2, Result.andThen_ok, run_equalIn_int w d e k k' _ _ he, List.all_cons]
    cases a.getD i 0 == b.getD i 0
    · simp
    · simpa using hrec
theorem all_eq (a b : List Int) (h : a.length = b.length) : ((List.range a.length).all fun i => a.getD i 0 == b.getD i 0) = decide (a = b) := by
  rw [Bool.eq_iff_iff, List.all_eq_true, decide_eq_true_iff]
  constructor
  · intro hh
    refine List.ext_getElem h fun i h1 h2 => ?_
    have := hh i (List.mem_range.2 h1)
    simpa [List.getD_eq_getElem?_getD, h1, h2] using this
  · rintro rfl i _
    simp
/-- Two arrays, compared. -/
theorem run_equal_arr {t e : TypeId} {n : Nat} {k' : IntKind} (ht : P.underlying t = some (.array n e)) (he : P.underlying e = some (.int k')) (hs : (P.info? e).map (·.size) = some 1) (a b : List Int) (ha : a.length = n) (hb : b.length = n) (w : World) :
    (Op.equal t (.agg (cellsOf k a)) (.agg (cellsOf k b))).run P w = .ok (decide (a = b)) w := by
  cases hq : P.info? e with
  | none => simp [hq] at hs
  | some inf =>
    have hsz : inf.size = 1 := by simpa [hq] using hs
    have hco : P.cellsOf e = 1 := by simp [Program.cellsOf, hq, hsz]
    unfold Op.equal
    rw [show Op.maxDepth = 9999 + 1 from rfl, run_equalIn_array w 9999 _ _ ht hq, hco, run_eqItems_int 9998 he hq hsz a b w _ (fun i hi => by rw [List.mem_range] at hi; omega), ← all_eq a b (by omega), ha]
theorem run_eql_arr {t e : TypeId} {n : Nat} {k' : IntKind} (ht : P.underlying t = some (.array n e)) (he : P.underlying e = some (.int k')) (hs : (P.info? e).map (·.size) = some 1) (a b : List Int) (ha : a.length = n) (hb : b.length = n) (w : World) :
    (binOp .eql t (.agg (cellsOf k a)) (.agg (cellsOf k b))).run P w = .ok (.bool (decide (a = b))) w := by
  rw [run_eql_struct]
  have := run_equal_arr (k := k) ht he hs a b ha hb w
  unfold Op.equal at this
  rw [show Op.maxDepth = 10000 from rfl] at this
  rw [this]; rfl
theorem run_neq_arr {t e : TypeId} {n : Nat} {k' : IntKind} (ht : P.underlying t = some (.array n e)) (he : P.underlying e = some (.int k')) (hs : (P.info? e).map (·.size) = some 1) (a b : List Int) (ha : a.length = n) (hb : b.length = n) (w : World) :
    (binOp .neq t (.agg (cellsOf k a)) (.agg (cellsOf k b))).run P w = .ok (.bool (!decide (a = b))) w := by
  rw [run_neq_struct]
  have := run_equal_arr (k := k) ht he hs a b ha hb w
  unfold Op.equal at this
  rw [show Op.maxDepth = 10000 from rfl] at this
  rw [this]; rfl
/-- A zero value is built. -/
theorem wpList_build_zero {ops : Array Oper} {rest : List Oper} {o : Oper} {a : Act} {w : World} {Q : Exit → Act → World → Prop} (hg : o.guard = none) (t : TypeId) (ho : o.op = .build t #[]) (cs : Array Value) (hb : P.built t [] = some cs)
    (h : wpList P ops Q rest (a.put o.dst (.agg cs)) w) : wpList P ops Q (o :: rest) a w :=
  wpList_build hg t #[] ho (by simp only [List.map_toArray, List.map_nil]; rw [hb]; rfl) (by simp only [List.map_toArray, List.map_nil]; rw [hb]; exact h)
end Go.Proofs.Ytpdikfmdnlhllaa.ArrEq
