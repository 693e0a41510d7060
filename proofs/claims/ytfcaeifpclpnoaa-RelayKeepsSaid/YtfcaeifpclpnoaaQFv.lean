/-
  Function values: a call of one. No conditions.
-/
import Derived.Test.YtfcaeifpclpnoaaQSle
namespace Go.Proofs.Ytfcaeifpclpnoaa.Eng
open Go Go.RowKit
set_option linter.unusedVariables false
set_option linter.unusedSimpArgs false
set_option linter.unusedSectionVars false
/-- A function with what it holds. -/
abbrev fnv (f : Nat) (cs : List Value) : Value := .func (.func f) #[] cs.toArray
section
variable {P : Program} {c : Cx} {l : TL} {H : List Asrt} {Q : Exit → Act → World → Prop} {X : Act → World → Prop}
variable {ty : TypeId} {pos : String} {af : Array Edge} {d : Nat} {v : Value} {dst : Option Tmp} {mm : Nat}
theorem run_callV {f : Nat} {cs : List Value} [i : Enters P f] {o : Nat} {xs : List Operand} {ts : Array TypeId} {vs : List Value} {a : Act} {n : Nat} (r : TRel n l a) (ho : ev l (.tmp o) = some (fnv f cs)) (hx : evs l xs = some vs) (w : World) :
    (execOp a.eval ⟨dst, .call ⟨.value (.tmp o), xs.toArray, ts⟩, ty, pos, af, none⟩).run P w = .ok (.enter f (vs ++ cs).toArray) w := by
  have h := r.evs hx
  simp [execOp, resolve, r.ev ho, Deferred.ofValue, invoke, i.run, h]
theorem J.callV {f : Nat} {cs : List Value} [i : Enters P f] {o : Nat} {xs : List Operand} {ts : Array TypeId} {vs : List Value} {r : Value} (hf : ev l (.tmp o) = some (fnv f cs)) (hd : Nat.blt d c.n = true) (hx : evs l xs = some vs)
    (hS : RH c.w0 c.own H (fun w => CSpec P f (vs ++ cs) [] w (Gives r)))
    (K : J c ((d, r) :: l) H X) :
    J c l H (OW P Q ⟨some d, .call ⟨.value (.tmp o), xs.toArray, ts⟩, ty, pos, af, none⟩ X) := J.mk fun a w s => by
  unfold OW Oper.wp
  rw [run_callV s.1 hf hx w]
  obtain ⟨fp, hh, hn, hi, hf⟩ := s.2.2
  have hc := hS w ⟨fp, hh, hn, hi, hf⟩ [] rfl (by simp) (by simp)
  refine Calls.mono hc fun e w' ⟨H3, hR, h3⟩ => ?_
  obtain ⟨rfl, rfl⟩ := hR
  have h4 := Sat.call (f := []) hn hi hf hh h3
  exact K _ _ ⟨s.1.put hd, s.2.1, h4⟩
/-- A field's address, of any place. -/
theorem Qv.fieldAdd {S f off n : Nat} {agg : Bool} [i : FldT P S f off agg n] {x : Operand} {ad : Addr} {j : Nat} (hx : ev l x = some (.pointer (some (ad.add j)))) : Qv P mm l (.fieldAddr S x f) (.pointer (some (ad.add (j + off)))) := fun a w _ _ _ _ s => by
  obtain ⟨fs, y, h1, h2, h3, h4, h5⟩ := run_field (P := P) (S := S) (f := f) w
  have hz : ¬ n = 0 := by have := i.pos; simpa using this
  simp [execOp, s.ev hx, Instr.fieldAt, run_und h1, h2, Instr.sureAddr, fieldPlace, h5, hz, h3, Addr.add_add]
end
end Go.Proofs.Ytfcaeifpclpnoaa.Eng
