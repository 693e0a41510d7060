/-
  Stops with an error, in general. No conditions.
-/
import Derived.Test.YtfcaeifpclpnoaaQEs
namespace Go.Proofs.Ytfcaeifpclpnoaa.Eng
open Go Go.RowKit
set_option linter.unusedVariables false
set_option linter.unusedSimpArgs false
set_option linter.unusedSectionVars false
section
variable {P : Program} {c : Cx} {l : TL} {H : List Asrt} {Q : Exit → Act → World → Prop} {X : Act → World → Prop}
variable {ty : TypeId} {pos : String} {af : Array Edge} {d : Nat} {v : Value} {dst : Option Tmp} {mm : Nat}
/-- A cell of a row is set. -/
theorem J.cellR {T : Nat} {z : List Value} [i : Ty P T false 1 z] {x y : Operand} {ao : Option Addr} {n cap E sz j : Nat} {C C' : List Value} {H' : List Asrt} (hx : ev l x = some (.pointer (some ((ao.getD ⟨0, 0, none⟩).add j)))) (hy : ev l y = some v) (h1 : v.oneCell' = true)
    (hu : Upd (row (.slice ao n cap) E sz n C) (row (.slice ao n cap) E sz n C') H H') (hj : j < C.length) (hC : splice C j [v] = C')
    (K : J c l H' X) : J c l H (OW P Q ⟨none, .store T x y, ty, pos, af, none⟩ X) := by
  subst hC
  obtain ⟨R, p1, p2⟩ := hu.perm
  exact J.perm p1 (J.rowStore1 (T := T) hx hy h1 .here hj (J.perm p2 K))
/-- It ends so, or stops with an error. -/
def RetX (T : Nat) (err : Int) (R : Ending → List Asrt → Prop) : Ending → List Asrt → Prop := fun e H => (err = 0 ∧ ∃ v, e = .returned v ∧ R e H) ∨ (err ≠ 0 ∧ e = .panicked (mustCh T err) ∧ H = [])
theorem J.stopX {T : Nat} {err e : Int} {R : Ending → List Asrt → Prop} (he : err ≠ 0) (hr : e = err) : J c l H (fun _ w => ∃ H3, RetX T err R (.panicked (mustCh T e)) H3 ∧ Sat c.w0 c.own H3 w) := J.post (.inr ⟨he, by rw [hr], rfl⟩) .nil
theorem J.fineX {T : Nat} {err : Int} {R : Ending → List Asrt → Prop} {r : Value} {H2 R' : List Asrt} (he : err = 0) (hR : R (.returned r) H2) (ho : Outs H2 H R') : J c l H (fun _ w => ∃ H3, RetX T err R (.returned r) H3 ∧ Sat c.w0 c.own H3 w) := J.post (.inl ⟨he, _, rfl, hR⟩) ho
/-- A call that may stop, of what is at hand. -/
theorem J.retX {f T : Nat} [i : Enters P f] {xs : List Operand} {ts : Array TypeId} {vs : List Value} {H1 H2 : List Asrt} {err : Int} {pre : World → Prop} {R : Ending → List Asrt → Prop} (hS : ∀ w, pre w → CSpec P f vs H1 w (RetX T err R)) (hd : Nat.blt d c.n = true) (hx : evs l xs = some vs) (ho : Outs H1 H H2) (hp : RH c.w0 c.own H pre)
    (K : err = 0 → ∀ v H3, R (.returned v) H3 → J c ((d, v) :: l) (H3 ++ H2) X) (K2 : err ≠ 0 → J c l H2 (Q (.panic (mustCh T err)))) : J c l H (OW P Q ⟨some d, .call ⟨.value (.func f), xs.toArray, ts⟩, ty, pos, af, none⟩ X) :=
  J.callS hd hx ho (fun w s => hS w (hp w s))
    (fun v H3 h => by
      rcases h with ⟨h0, u, h1, h2⟩ | ⟨_, h1, _⟩
      · exact K h0 v H3 h2
      · cases h1)
    (fun ch H3 h => by
      rcases h with ⟨_, u, h1, _⟩ | ⟨h0, h1, h2⟩
      · cases h1
      · cases h1; subst h2; exact K2 h0)
    (fun H3 h => by
      rcases h with ⟨_, u, h1, _⟩ | ⟨_, h1, _⟩ <;> cases h1)
/-- A call that may stop, and turns one block. -/
theorem J.retE1 {f T : Nat} [i : Enters P f] {xs : List Operand} {ts : Array TypeId} {vs : List Value} {H1 R : List Asrt} {A : Asrt} {err : Int} {p : Prop} (hS : ∀ w, p → CSpec P f vs H1 w (RetE T err v [A])) (hd : Nat.blt d c.n = true) (hx : evs l xs = some vs) (ho : Outs H1 H R) (hp : p)
    (K : err = 0 → J c ((d, v) :: l) (A :: R) X) (K2 : err ≠ 0 → J c l R (Q (.panic (mustCh T err)))) : J c l H (OW P Q ⟨some d, .call ⟨.value (.func f), xs.toArray, ts⟩, ty, pos, af, none⟩ X) := J.retE hS hd hx ho hp K K2
/-- A state in between. -/
def Mid {α : Type} (c : Cx) (p : α → Prop) (L : α → TL) (HH : α → List Asrt) : Act → World → Prop := fun a w => ∃ x, p x ∧ St c (L x) (HH x) a w
theorem J.meet {α : Type} {p : α → Prop} {L : α → TL} {HH : α → List Asrt} {R : List Asrt} (x : α) (hs : Eng.sub l (L x)) (ho : Outs (HH x) H R) (hp : p x) : J c l H (Mid c p L HH) := J.mk fun a w s =>
  ⟨x, hp, ⟨s.1.size, fun d v h => s.1.get d v (hs d v h)⟩, s.2.1, Sat.drops (H' := R) ((s.2.2.perm ho.perm).perm List.perm_append_comm)⟩
/-- What follows, once. -/
theorem J.seqCut {id : Nat} {ops : Array Oper} {md : Bool} {y : Code} {α : Type} (p : α → Prop) (L : α → TL) (HH : α → List Asrt) (K1 : J c l H ((Code.region id ops md).wp P (Exit.then (Mid c p L HH) Q))) (K2 : ∀ x, p x → J c (L x) (HH x) (y.wp P Q)) : J c l H ((Code.seq (Code.region id ops md) y).wp P Q) :=
  J.seq (J.mk fun a w s => Code.wp_mono (fun e a' w' q => by
    cases e with
    | normal => obtain ⟨x, hp, hx⟩ := q; exact (K2 x hp).out a' w' hx
    | exit id => exact q
    | goto l => exact q
    | ret => exact q
    | panic ch => exact q
    | outgrown => exact q) (K1.out a w s))
/-- A slice's cells of a row that is one's own. -/
theorem RH.row' {w0 : World} {own : List Nat} {v : Value} {ao : Option Addr} {n m cap E sz : Nat} {C : List Value} (hm : In (Eng.row v E sz m C) H) (hv : v = .slice ao n cap) : RH w0 own H (fun w => Rd w ao C) := by
  subst hv
  exact RH.row hm
end
end Go.Proofs.Ytfcaeifpclpnoaa.Eng
