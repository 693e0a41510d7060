/-
  Labels and scopes; rows that may be nil, read; a slice's beginning. No conditions.
-/
import Derived.Test.YtljbedladifgmaaGreatQFl
import Derived.Scope
namespace Go.Proofs.YtljbedladifgmaaGreat.Eng
open Go Go.RowKit
set_option linter.unusedVariables false

section
variable {P : Program} {c : Cx} {l : TL} {H : List Asrt} {Q : Exit → Act → World → Prop}
theorem J.label {k : Nat} (K : J c l H (Q .normal)) : J c l H ((Code.label k).wp P Q) := J.mk fun a w s => wp_label (K a w s)
theorem J.scope {x : Code} (K : J c l H (x.wp P (Exit.noGoto Q))) : J c l H ((Code.scope x).wp P Q) := J.mk fun a w s => wp_scope_straight (K a w s)
theorem J.sco_ (K : J c l H (Q .normal)) : J c l H (Exit.noGoto Q .normal) := K
theorem J.sco_ret (K : J c l H (Q .ret)) : J c l H (Exit.noGoto Q .ret) := K
theorem J.sco_exit {id : Nat} (K : J c l H (Q (.exit id))) : J c l H (Exit.noGoto Q (.exit id)) := K
theorem J.sco_panic {ch : List PanicEntry} (K : J c l H (Q (.panic ch))) : J c l H (Exit.noGoto Q (.panic ch)) := K
end

/-- A slice in a row's keeping. -/
theorem row_srcs {v : Value} {n E sz : Nat} {C : List Value} {h : Hp} {fp : List Nat} (hh : (Eng.row v E sz n C).holds h fp) : ∃ ao cap, v = .slice ao n cap ∧ Srcs (Eng.row v E sz n C) ao sz n (fun i => (C.drop (i * sz)).take sz) := by
  rcases hh with ⟨rfl, rfl, rfl, rfl⟩ | ⟨g, cap, rfl, hr⟩
  · exact ⟨none, 0, rfl, fun i hi => by omega⟩
  · refine ⟨some ⟨g, 0, none⟩, cap, rfl, fun i hi => ⟨rfl, ?_⟩⟩
    rintro h' fp' (⟨h1, _⟩ | ⟨g', cap', h1, h2⟩) j u hu
    · cases h1
    · cases h1
      exact (Srcs.row (E := E) (cap := cap) h2.2.1 i hi).2 h' fp' h2 j u hu
theorem J.rowV {c : Cx} {l : TL} {H : List Asrt} {G : Act → World → Prop} {v : Value} {n E sz : Nat} {C : List Value} (hm : In (Eng.row v E sz n C) H) (K : ∀ ao cap, v = .slice ao n cap → Srcs (Eng.row v E sz n C) ao sz n (fun i => (C.drop (i * sz)).take sz) → J c l H G) : J c l H G := J.mk fun a w s => by
  obtain ⟨fp, hh, _⟩ := s.2.2.mem hm.mem
  obtain ⟨ao, cap, e, hs⟩ := row_srcs hh
  exact K ao cap e hs a w s
theorem CSpec.rowV {P : Program} {f : Nat} {args : List Value} {w : World} {R : Ending → List Asrt → Prop} {v : Value} {n E sz : Nat} {C : List Value} {H1 : List Asrt} (K : ∀ ao cap, v = .slice ao n cap → Srcs (Eng.row v E sz n C) ao sz n (fun i => (C.drop (i * sz)).take sz) → CSpec P f args (Eng.row v E sz n C :: H1) w R) : CSpec P f args (Eng.row v E sz n C :: H1) w R := by
  rintro fp ⟨f1, g1, rfl, h1, h2⟩ h3 h4
  obtain ⟨ao, cap, e, hs⟩ := row_srcs h1
  exact K ao cap e hs (f1 ++ g1) ⟨f1, g1, rfl, h1, h2⟩ h3 h4
theorem Srcs.less {A : Asrt} {ao : Option Addr} {sz n m : Nat} {C : Nat → List Value} (h : Srcs A ao sz n C) (hm : m ≤ n) : Srcs A ao sz m C := fun i hi => h i (by omega)
theorem Srcs.eq {A : Asrt} {ao : Option Addr} {sz n : Nat} {C C' : Nat → List Value} (h : Srcs A ao sz n C) (hc : ∀ i, i < n → C i = C' i) : Srcs A ao sz n C' := fun i hi => by rw [← hc i hi]; exact h i hi
theorem J.nilRowN {c : Cx} {l : TL} {H : List Asrt} {G : Act → World → Prop} (E sz n : Nat) (C : List Value) (hn : n = 0) (hC : C = []) (K : J c l (Eng.row (.slice none 0 0) E sz n C :: H) G) : J c l H G := by
  subst hn; subst hC
  exact J.nilRow E sz K
/-- A beginning. -/
theorem Qv.sliceTo {P : Program} {m : Nat} {l : TL} {T E bytes sz : Nat} {agg : Bool} {z : List Value} [i : Sl P T E bytes] [q : Ty P E agg sz z] {x y : Operand} {ao : Option Addr} {n cap k : Nat} {j : Int} {ik : IntKind} (hx : ev l x = some (.slice ao n cap)) (hy : ev l y = some (.int ik j)) (hk : j = (k : Int)) (hc : k ≤ cap) :
    Qv P m l (.slice T x none (some y) none) (.slice ao k cap) := fun a w _ _ _ _ s => by
  subst hk
  have e0 : ∀ ad : Addr, ad.add 0 = ad := fun ad => by unfold Addr.add; split <;> simp_all
  have h1 : (0 : Int) ≤ (k : Int) ∧ (k : Int) ≤ (cap : Int) := ⟨by omega, by omega⟩
  cases ao <;> simp [execOp, s.ev hx, s.ev hy, Instr.sliceAt, Instr.slice, Instr.sliceBounds, Instr.sliceBound, asIntOf, run_und i.und, run_size (P := P) (w := w) (T := E), e0, h1, hc]
end Go.Proofs.YtljbedladifgmaaGreat.Eng
