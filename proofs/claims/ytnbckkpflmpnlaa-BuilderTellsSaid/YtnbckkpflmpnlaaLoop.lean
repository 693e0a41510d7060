/-
  The engine, part 8: loops by what holds at their head, fresh rows, plain quotients. No conditions.
-/
import Derived.Test.YtnbckkpflmpnlaaWv
namespace Go.Proofs.Ytnbckkpflmpnlaa.Eng
open Go Go.RowKit
set_option linter.unusedVariables false

section
variable {P : Program} {c : Cx} {l : TL} {H : List Asrt} {Q : Exit → Act → World → Prop}

theorem St.to {c l l' H H' R a w} (s : St c l H a w) (hs : Eng.sub l l') (ho : Outs H' H R) : St c l' H' a w :=
  ⟨(s.sub hs).1, s.2.1, Sat.drops (H' := R) ((s.2.2.perm ho.perm).perm List.perm_append_comm)⟩

/-- What holds at a loop's head: a state for each s of which I holds, and a measure. -/
theorem J.loopI {σ : Type} {x : Code} {R : List Asrt} (I : σ → Prop) (L : σ → TL) (HH : σ → List Asrt) (m : σ → Nat) (s0 : σ) (hI : I s0) (hs : Eng.sub l (L s0)) (ho : Outs (HH s0) H R)
    (round : ∀ s, I s → J c (L s) (HH s) (x.wp P (Exit.then (fun a w => ∃ s', m s' < m s ∧ I s' ∧ St c (L s') (HH s') a w) Q))) : J c l H ((Code.loop x).wp P Q) :=
  J.loop (σ := {s // I s}) (fun s => L s.1) (fun s => HH s.1) (fun s => m s.1) ⟨s0, hI⟩ (fun a w s => s.to hs ho)
    (fun s => J.mk fun a w t => Code.wp_mono (fun e a' w' q => by
      cases e with
      | normal =>
        obtain ⟨s', h1, h2, h3⟩ := q
        exact ⟨⟨s', h2⟩, h1, h3⟩
      | _ => exact q) (round s.1 s.2 a w t))
theorem J.againI {σ : Type} {I : σ → Prop} {L : σ → TL} {HH : σ → List Asrt} {m : σ → Nat} {s : σ} {R : List Asrt} (s' : σ) (hm : m s' < m s) (hI : I s') (hs : Eng.sub l (L s')) (ho : Outs (HH s') H R) :
    J c l H (fun a w => ∃ s', m s' < m s ∧ I s' ∧ St c (L s') (HH s') a w) := J.mk fun a w t => ⟨s', hm, hI, t.to hs ho⟩

/-- It gives a slice of a new row, and hands back what it was handed. -/
def Fresh (E sz n : Nat) (C : List Value) (H1 : List Asrt) : Ending → List Asrt → Prop := fun e H => ∃ v, e = .returned v ∧ H = row v E sz n C :: H1
variable {X : Act → World → Prop} {ty : TypeId} {pos : String} {af : Array Edge} {d : Nat} {v : Value} {dst : Option Tmp}
theorem J.freshW {f : Nat} [i : Enters P f] {xs : List Operand} {ts : Array TypeId} {vs : List Value} {H1 H2 : List Asrt} {E sz n : Nat} {C : List Value} (hS : ∀ w, CSpec P f vs H1 w (Fresh E sz n C H1)) (hd : Nat.blt d c.n = true) (hx : evs l xs = some vs) (ho : Outs H1 H H2)
    (K : ∀ v, J c ((d, v) :: l) (row v E sz n C :: H) X) :
    J c l H (OW P Q ⟨some d, .call ⟨.value (.func f), xs.toArray, ts⟩, ty, pos, af, none⟩ X) :=
  J.call hd hx ho (fun w _ => hS w) (fun v H3 ⟨u, h1, h2⟩ => by cases h1; subst h2; exact J.perm (ho.perm.symm.cons _) (K _)) (fun ch H3 ⟨u, h1, _⟩ => by cases h1) (fun H3 ⟨u, h1, _⟩ => by cases h1)
theorem J.freshP {f : Nat} [i : Enters P f] {xs : List Operand} {ts : Array TypeId} {vs : List Value} {H1 H2 : List Asrt} {E sz n : Nat} {C : List Value} {p : Prop} (hS : p → ∀ w, CSpec P f vs H1 w (Fresh E sz n C H1)) (hd : Nat.blt d c.n = true) (hx : evs l xs = some vs) (ho : Outs H1 H H2) (hp : p)
    (K : ∀ v, J c ((d, v) :: l) (row v E sz n C :: H) X) :
    J c l H (OW P Q ⟨some d, .call ⟨.value (.func f), xs.toArray, ts⟩, ty, pos, af, none⟩ X) := J.freshW (hS hp) hd hx ho K
theorem J.fresh' {E sz n : Nat} {C C' : List Value} {H1 R : List Asrt} {r : Value} (ho : Outs (row r E sz n C :: H1) H R) (e : C = C') : J c l H (fun _ w => ∃ H3, Fresh E sz n C' H1 (.returned (retv [r])) H3 ∧ Sat c.w0 c.own H3 w) := J.mk fun a w s =>
  ⟨row r E sz n C :: H1, ⟨r, rfl, by rw [e]⟩, Sat.drops (H' := R) ((s.2.2.perm ho.perm).perm List.perm_append_comm)⟩

/-! Plain quotients and rests -/
theorem Qv.quoP {m : Nat} {T T' : Nat} {x y : Operand} {k : IntKind} {e f : Int} (hx : ev l x = some (.int k e)) (hy : ev l y = some (.int k f)) (hf : 0 < f) (he : 0 ≤ e) (hw : k.wrap (e / f) = e / f) : Qv P m l (.binOp .quo T x y T') (.int k (e / f)) :=
  Qv.quo hx hy (by omega) (by rw [Int.tdiv_eq_ediv_of_nonneg he]; exact hw)
theorem Qv.remP {m : Nat} {T T' : Nat} {x y : Operand} {k : IntKind} {e f : Int} (hx : ev l x = some (.int k e)) (hy : ev l y = some (.int k f)) (hf : 0 < f) (he : 0 ≤ e) : Qv P m l (.binOp .rem T x y T') (.int k (e % f)) :=
  Qv.rem hx hy (by omega) (by rw [Int.tmod_eq_emod_of_nonneg he])

/-! Wide values -/
theorem Qv.buildW {T E m : Nat} {z z' : List Value} {b : Bool} [i : Ty P T true 4 z] [j : Ar P T 4 E] [t : Ty P E b 1 z'] {xs : List (Nat × Operand)} {x : Int} (hz : z = wv 0) (hx : evp l xs = some [(0, .int .u64 x)]) (h : Wo x) : Qv P m l (.build T xs.toArray) (.agg (wv x).toArray) := by
  subst hz
  rw [wv_small h]
  exact Qv.buildA hx rfl
theorem Qv.buildW0 {T E m : Nat} {z z' : List Value} {b : Bool} [i : Ty P T true 4 z] [j : Ar P T 4 E] [t : Ty P E b 1 z'] {xs : List (Nat × Operand)} (hz : z = wv 0) (hx : evp l xs = some []) : Qv P m l (.build T xs.toArray) (.agg (wv 0).toArray) := by
  subst hz
  exact Qv.buildA hx rfl
theorem J.allocW {T : Nat} {z : List Value} [i : Ty P T true 4 z] (hz : z = wv 0) (hd : Nat.blt d c.n = true)
    (K : ∀ b, J c ((d, .pointer (some ⟨b, 0, none⟩)) :: l) (blk b (wv 0) T :: H) X) : J c l H (OW P Q ⟨some d, .alloc T, ty, pos, af, none⟩ X) := by
  subst hz
  exact J.alloc hd K
end
end Go.Proofs.Ytnbckkpflmpnlaa.Eng
