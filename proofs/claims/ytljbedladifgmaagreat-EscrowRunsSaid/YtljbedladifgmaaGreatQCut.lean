/-
  Rows that are set by many cells; cuts behind any code; slices of slices, in cells. No conditions.
-/
import Derived.Test.YtljbedladifgmaaGreatQCl
namespace Go.Proofs.YtljbedladifgmaaGreat.Eng
open Go Go.RowKit
set_option linter.unusedVariables false
set_option linter.unusedSimpArgs false
set_option linter.unusedSectionVars false
section
variable {P : Program} {c : Cx} {l : TL} {H : List Asrt} {Q : Exit → Act → World → Prop} {X : Act → World → Prop} {G : Act → World → Prop}
variable {ty : TypeId} {pos : String} {af : Array Edge} {d : Nat} {v : Value} {dst : Option Tmp} {mm : Nat}
/-- What follows, once, behind any code that begins with this region. -/
theorem J.cutS {id : Nat} {ops : Array Oper} {md : Bool} {z y : Code} {α : Type} (p : α → Prop) (L : α → TL) (HH : α → List Asrt) (K1 : J c l H ((Code.seq (Code.region id ops md) z).wp P (Exit.then (Mid c p L HH) Q))) (K2 : ∀ x, p x → J c (L x) (HH x) (y.wp P Q)) : J c l H ((Code.seq (Code.seq (Code.region id ops md) z) y).wp P Q) :=
  J.seq (J.mk fun a w s => Code.wp_mono (fun e a' w' q => by
    cases e with
    | normal => obtain ⟨x, hp, hx⟩ := q; exact (K2 x hp).out a' w' hx
    | exit id => exact q
    | goto l => exact q
    | ret => exact q
    | panic ch => exact q
    | outgrown => exact q) (K1.out a w s))
theorem J.capR {ao : Option Addr} {n m cap E sz : Nat} {C : List Value} (hm : In (row (.slice ao n cap) E sz m C) H) (K : n ≤ cap → J c l H G) : J c l H G := J.mk fun a w s => (K (s.2.2.rd_row hm).2.1).out a w s
end
end Go.Proofs.YtljbedladifgmaaGreat.Eng
