/-
  The built-in copy onto a row of one's own, from a row that is read, in terms of the print's kinds. Plain lemmas; no condition.
-/
import Derived.Laws.CopyOwn
import Derived.Test.YtpdikfmdnlhllaaWWords
namespace Go.Proofs.Ytpdikfmdnlhllaa.Copy
open Go.RowKit Go.Proofs.YtpdikfmdnlhllaaW.PrintWords
variable {P : Program} {ops : Array Oper} {rest : List Oper} {o : Oper} {a : Act} {Q : Exit → Act → World → Prop} {w w0 : World}

theorem reps_vals {k : IntKind} {xs : List Int} {inner : List Value} {R : Int → List Value → Prop} (hR : ∀ x c, R x c → c = [.int k x]) (h : Reps R 1 xs inner) : inner = xs.map (Value.int k) := by
  obtain ⟨hl, hp⟩ := h
  refine List.ext_getElem? fun j => ?_
  rcases Nat.lt_or_ge j xs.length with hj | hj
  · have h1 := hR _ _ (hp j _ (List.getElem?_eq_getElem hj))
    have h2 : inner[j]? = ((inner.drop (j * 1)).take 1)[0]? := by simp
    rw [h2, h1]
    simp [List.getElem?_eq_getElem hj]
  · rw [List.getElem?_eq_none (by omega), List.getElem?_eq_none (by simpa using hj)]
theorem reps_of {k : IntKind} {R : Int → List Value → Prop} (hR : ∀ x, R x [.int k x]) (xs : List Int) : Reps R 1 xs (xs.map (Value.int k)) := by
  refine ⟨by simp, fun j p hj => ?_⟩
  have : ((xs.map (Value.int k)).drop (j * 1)).take 1 = [.int k p] := by
    have hlt := (List.getElem?_eq_some_iff.1 hj).1
    have hp := (List.getElem?_eq_some_iff.1 hj).2
    rw [Nat.mul_one, List.drop_eq_getElem_cons (by simpa using hlt)]
    simp [hp]
  rw [this]; exact hR p

/-- What the row reads as behind a copy: as many as both have come from the source. -/
def over (xs ys : List Int) : List Int := splice xs 0 (ys.take xs.length)
theorem over_length (xs ys : List Int) : (over xs ys).length = xs.length := by
  unfold over; exact length_splice _ _ _ (by simp; omega)

theorem R_copy {k : IntKind} {e base : Nat} {ok : Nat → Prop} {v : Value} {xs ys : List Int} {A : Option Addr} {m c : Nat} (hgd : o.guard = none) (d s : Operand) (dT sT : TypeId)
    (ho : o.op = .call { callee := .builtin .copy, args := #[d, s], argTypes := #[dT, sT] }) (elem : TypeId) (hu : P.underlying dT = some (.slice elem)) (hsz : (P.info? elem).map (·.size) = some 1)
    (hd : a.eval d = v) (hs : a.eval s = .slice A m c) (HR : (Kd.int k).R e w base ok v xs) (HC : (Kd.int k).C w A m ys) (HB : Below base w0 w)
    (h : ∀ w1, (Kd.int k).R e w1 base ok v (over xs ys) → Below base w0 w1 → wpList P ops Q rest (a.put o.dst (goInt (min m xs.length : Nat))) w1) : wpList P ops Q (o :: rest) a w := by
  obtain ⟨hok, inner, ho1, hr⟩ := HR
  obtain rfl := reps_vals (k := k) (fun x c hx => hx) hr
  have hm : ys.length = m := HC.1
  have hs1 : (Kd.int k).sz = 1 := rfl
  rcases ho1.2 with ⟨rfl, h0⟩ | ⟨g, cap, cur, rfl, hbg, hh, hnc, hcm, hcs, htk⟩
  · have hx0 : xs = [] := List.eq_nil_of_length_eq_zero h0
    subst hx0
    refine wpList_copy_nothing hgd d s dT sT ho elem hu hsz none A 0 0 m c hd hs (by simp) ?_
    have e0 : over [] ys = [] := List.eq_nil_of_length_eq_zero (by rw [over_length]; rfl)
    have := h w (by rw [e0]; exact ⟨hok, [], ho1, Reps.none _ _⟩) HB
    simpa using this
  · have hn : ((ys.take xs.length).map (Value.int k)).length = Nat.min m xs.length := by simp [hm, Nat.min_comm]
    refine wpList_copy_splice hgd d s dT sT ho elem hu hsz (some ⟨g, 0, none⟩) A xs.length cap m c hd hs g 0 cur.toList e (by simpa using hh) ((ys.take xs.length).map (Value.int k)) hn ?_ (by rw [hs1] at hcs; simp [hcs]; omega) ?_ base w0 HB hbg ?_
    · intro hpos
      refine ⟨rfl, ?_⟩
      have hm0 : 0 < m := by simp at hpos; omega
      obtain ⟨ad, hA, hc⟩ := HC.2.2 hm0
      refine ⟨ad, hA, fun j u hj => ?_⟩
      rw [List.getElem?_map, Option.map_eq_some_iff] at hj
      obtain ⟨p, hp, rfl⟩ := hj
      have hp' : ys[j]? = some p := by
        rw [List.getElem?_take] at hp
        split at hp
        · exact hp
        · cases hp
      obtain ⟨c', hl, hK, hcell⟩ := hc j p hp'
      have hK' : c' = [.int k p] := hK
      subst hK'
      have := hcell 0 _ rfl
      simpa [Kd.int, Kd.scalar] using this
    · intro u hu'
      obtain ⟨x, _, rfl⟩ := List.mem_map.1 hu'
      rfl
    · intro w' hw' hb'
      have hw2 := hw'.out
      have hlen : (List.map (Value.int k) (List.take xs.length ys)).length = min m xs.length := by rw [hn]
      rw [hlen]
      refine h w' ⟨hok, (over xs ys).map (Value.int k), ?_, reps_of (k := k) (R := (Kd.int k).M w' base _) (fun x => rfl) _⟩ hb'
      rw [hs1] at hcs htk
      refine ⟨by simp [over_length, hs1], .inr ⟨g, cap, _, by rw [over_length], hbg, hw2, by rw [over_length]; exact hnc, hcm, ?_, ?_⟩⟩
      · rw [hs1]
        simp [splice]
        omega
      · have ht : cur.toList.take xs.length = xs.map (Value.int k) := by simpa using htk
        rw [over_length]
        show List.take (xs.length * 1) _ = _
        rw [Nat.mul_one]
        show List.take xs.length (splice cur.toList 0 _) = _
        unfold over splice
        simp only [List.take_zero, List.nil_append, Nat.zero_add, List.length_map, List.map_append, List.map_drop]
        rw [← ht]
        generalize hq : List.map (Value.int k) (List.take xs.length ys) = q
        have hql : q.length ≤ xs.length := by rw [← hq]; simp; omega
        have hql2 : (List.take xs.length ys).length = q.length := by rw [← hq]; simp
        rw [hql2, List.take_append, List.take_of_length_le hql, List.drop_take]
end Go.Proofs.Ytpdikfmdnlhllaa.Copy
