/-
  Rows that are set by many cells; cuts behind any code; slices of slices, in cells. No conditions.
-/
import Derived.Test.YtljbedladifgmaaGreatQCl
namespace Go.Proofs.YtljbedladifgmaaGreat.Eng
open Go Go.RowKit
set_option linter.unusedVariables false
set_option linter.unusedSimpArgs false
set_option linter.unusedSectionVars false
section
variable {P : Program} {c : Cx} {l : TL} {H : List Asrt} {Q : Exit → Act → World → Prop} {X : Act → World → Prop} {G : Act → World → Prop}
variable {ty : TypeId} {pos : String} {af : Array Edge} {d : Nat} {v : Value} {dst : Option Tmp} {mm : Nat}
theorem splice_take {cur vs : List Value} {j k : Nat} (h : j + vs.length ≤ k) (hk : k ≤ cur.length) : (splice cur j vs).take k = splice (cur.take k) j vs := by
  unfold splice
  have h1 : (cur.take j ++ vs).length = j + vs.length := by rw [List.length_append, List.length_take]; omega
  rw [List.take_append, List.take_of_length_le (by omega), h1, List.take_take, Nat.min_eq_left (by omega), List.drop_take]
theorem splice_length {cur vs : List Value} {j : Nat} (h : j + vs.length ≤ cur.length) : (splice cur j vs).length = cur.length := by
  unfold splice
  rw [List.length_append, List.length_append, List.length_take, List.length_drop]
  omega
/-- Many cells of a row are set. -/
theorem J.cellsR {T m : Nat} {z : List Value} [i : Ty P T true m z] {x y : Operand} {ao : Option Addr} {n cap E sz j : Nat} {C C' vs : List Value} {H' : List Asrt} (hx : ev l x = some (.pointer (some ((ao.getD ⟨0, 0, none⟩).add j)))) (hy : ev l y = some (.agg vs.toArray)) (hv : vs.length = m) (h0 : 0 < m) (h1 : vs.all (·.oneCell') = true)
    (hu : Upd (row (.slice ao n cap) E sz n C) (row (.slice ao n cap) E sz n C') H H') (hj : j + m ≤ C.length) (hC : splice C j vs = C')
    (K : J c l H' X) : J c l H (OW P Q ⟨none, .store T x y, ty, pos, af, none⟩ X) := by
  subst hC
  subst hv
  obtain ⟨R, p1, p2⟩ := hu.perm
  refine J.perm p1 ?_
  have K' := J.perm p2 K
  refine J.mk fun a w s => ?_
  obtain ⟨fp, ⟨f, g0, rfl, hr, hg⟩, hn, hi, hf⟩ := s.2.2
  rcases hr with ⟨e1, e2, h3, e4⟩ | ⟨g, cp, h1', rfl, hl, hc, hm, cur, hcur, hs, ht⟩
  · rw [h3] at hj
    have h9 : j + vs.length ≤ 0 := hj
    omega
  · cases h1'
    have hadd : ((some (⟨g, 0, none⟩ : Addr)).getD ⟨0, 0, none⟩).add j = ⟨g, j, none⟩ := by
      show (⟨g, 0, none⟩ : Addr).add j = _
      rw [addr_add, Nat.zero_add]
    rw [hadd] at hx
    have hcl : n * sz ≤ cur.toList.length := by
      have h2 := congrArg List.length ht
      rw [List.length_take, hl] at h2
      omega
    have s2 : St c l (blk g cur.toList E :: R) a w := ⟨s.1, s.2.1, [g] ++ g0, ⟨[g], g0, rfl, ⟨rfl, by simpa using hcur⟩, hg⟩, hn, hi, hf⟩
    refine (J.storeN (T := T) hx hy .here rfl rfl (by omega) h1 ?_).out a w s2
    refine J.mk fun a w s => K'.out a w ⟨s.1, s.2.1, s.2.2.conv fun h fp hh => ?_⟩
    obtain ⟨hfp, hb⟩ := hh
    refine .inr ⟨g, cap, rfl, hfp, ?_, hc, hm, _, hb, ?_, ?_⟩
    · rw [splice_length hj, hl]
    · simpa using (splice_length (cur := cur.toList) (vs := vs) (j := j) (by omega)).trans (by simpa using hs)
    · rw [← ht, splice_take (by omega) hcl]
/-- What follows, once, behind any code that begins with this region. -/
theorem J.cutS {id : Nat} {ops : Array Oper} {md : Bool} {z y : Code} {α : Type} (p : α → Prop) (L : α → TL) (HH : α → List Asrt) (K1 : J c l H ((Code.seq (Code.region id ops md) z).wp P (Exit.then (Mid c p L HH) Q))) (K2 : ∀ x, p x → J c (L x) (HH x) (y.wp P Q)) : J c l H ((Code.seq (Code.seq (Code.region id ops md) z) y).wp P Q) :=
  J.seq (J.mk fun a w s => Code.wp_mono (fun e a' w' q => by
    cases e with
    | normal => obtain ⟨x, hp, hx⟩ := q; exact (K2 x hp).out a' w' hx
    | exit id => exact q
    | goto l => exact q
    | ret => exact q
    | panic ch => exact q
    | outgrown => exact q) (K1.out a w s))
theorem J.capR {ao : Option Addr} {n m cap E sz : Nat} {C : List Value} (hm : In (row (.slice ao n cap) E sz m C) H) (K : n ≤ cap → J c l H G) : J c l H G := J.mk fun a w s => (K (s.2.2.rd_row hm).2.1).out a w s
theorem Rd.offG {w : World} {ao : Option Addr} {C D : List Value} (h : Rd w ao C) {i k m : Nat} (hm : m = 0 → k = 0) (e : (C.drop i).take k = D) : Rd w (offA ao i m) D := by
  subst e
  unfold offA
  split
  · rename_i h0
    rw [hm h0, List.take_zero]
    exact Rd.nil _ _
  · cases ao with
    | none =>
      rw [h.1 rfl]
      simp only [List.drop_nil, List.take_nil]
      exact Rd.nil _ _
    | some a => exact Rd.some_ ((h.2 a rfl).sub i k)
theorem RH.offG {w0 : World} {own : List Nat} {ao : Option Addr} {C D : List Value} (h : RH w0 own H (fun w => Rd w ao C)) {i k m : Nat} (hm : m = 0 → k = 0) (e : (C.drop i).take k = D) : RH w0 own H (fun w => Rd w (offA ao i m) D) := fun w s => (h w s).offG hm e
end
end Go.Proofs.YtljbedladifgmaaGreat.Eng
