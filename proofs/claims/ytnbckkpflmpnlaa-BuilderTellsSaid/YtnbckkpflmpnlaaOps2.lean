/-
  The engine, part 6: values that are made of parts, equality, calls into the library that only reckon. No conditions.
-/
import Derived.Test.YtnbckkpflmpnlaaDraw
import Derived.DeepKeys
namespace Go.Proofs.Ytnbckkpflmpnlaa.Eng
open Go Go.RowKit
set_option linter.unusedVariables false
set_option linter.unusedSectionVars false
set_option linter.unusedSimpArgs false

/-- A struct's places. -/
class StP (P : Program) (T : Nat) (pl : outParam (List (Nat × Nat))) : Prop where
  ok : (match P.underlying T with | some (.struct fs) => some (fs.toList.map fun f => (f.offset, (P.info? f.type).map (fun i => i.size))) | _ => none) = some (pl.map fun x => (x.1, some x.2))

section
variable {P : Program}

theorem fold_splice : ∀ (vs : List Value) (off : Nat) (C : List Value), off + vs.length ≤ C.length →
    (vs.zipIdx.foldl (fun (cs : Array Value) (x : Value × Nat) => cs.setIfInBounds (off + x.2) x.1) C.toArray) = (splice C off vs).toArray := by
  intro vs
  suffices h : ∀ (vs : List Value) (k off : Nat) (C : List Value), off + k + vs.length ≤ C.length →
      ((vs.zipIdx k).foldl (fun (cs : Array Value) (x : Value × Nat) => cs.setIfInBounds (off + x.2) x.1) C.toArray) = (splice C (off + k) vs).toArray by
    intro off C hl
    have := h vs 0 off C (by simpa using hl)
    simpa using this
  intro vs
  induction vs with
  | nil => intro k off C _; simp [splice]
  | cons v vs ih =>
    intro k off C hl
    simp only [List.length_cons] at hl
    simp only [List.zipIdx_cons, List.foldl_cons]
    have e : (C.toArray.setIfInBounds (off + k) v) = (C.set (off + k) v).toArray := by simp
    rw [e, ih (k + 1) off (C.set (off + k) v) (by simp; omega)]
    congr 1
    simp only [splice]
    have e1 : off + (k + 1) = off + k + 1 := by omega
    rw [e1]
    generalize off + k = n at *
    rw [List.length_cons]
    have h1 : (C.set n v).take (n + 1) = C.take n ++ [v] := by
      rw [List.take_set, List.take_succ_eq_append_getElem (by omega)]
      rw [List.set_append_right _ _ (by simp; omega)]
      simp [show n - min n C.length = 0 by omega]
    have h2 : (C.set n v).drop (n + 1 + vs.length) = C.drop (n + (vs.length + 1)) := by
      rw [List.drop_set_of_lt (by omega)]
      congr 1
      omega
    rw [h1, h2]
    simp

def bfill (place : Nat → Option (Nat × Nat)) (C : List Value) : List (Nat × Value) → Option (List Value)
  | [] => some C
  | (i, v) :: rest => match place i with
    | none => none
    | some (off, size) => if v.cells.toList.length = size ∧ off + size ≤ C.length then bfill place (splice C off v.cells.toList) rest else none

theorem fill_of {place : Nat → Option (Nat × Nat)} : ∀ {parts : List (Nat × Value)} {C C' : List Value}, bfill place C parts = some C' → Instr.fill place C.toArray parts = some C'.toArray
  | [], C, C', h => by simp only [bfill, Option.some.injEq] at h; subst h; rfl
  | (i, v) :: rest, C, C', h => by
    simp only [bfill] at h
    cases hp : place i with
    | none => rw [hp] at h; cases h
    | some x =>
      obtain ⟨off, size⟩ := x
      rw [hp] at h
      simp only at h
      split at h
      · rename_i hc
        obtain ⟨h1, h2⟩ := hc
        have ih := fill_of h
        simp only [Instr.fill, hp]
        have h1' : v.cells.size = size := by simpa using h1
        rw [if_neg (by simp [h1']; omega)]
        have e := fold_splice v.cells.toList off C (by rw [h1]; exact h2)
        rw [← ih, ← e]
        congr 1
        rw [← Array.foldl_toList]
        simp [Array.toList_zipIdx]
      · cases h

def evp (l : TL) : List (Nat × Operand) → Option (List (Nat × Value))
  | [] => some []
  | (i, x) :: xs => match ev l x, evp l xs with
    | some v, some vs => some ((i, v) :: vs)
    | _, _ => none
theorem TRel.evp {n : Nat} {l : TL} {a : Act} (h : TRel n l a) : ∀ {xs vs}, Eng.evp l xs = some vs → xs.map (fun x => (x.1, a.eval x.2)) = vs
  | [], vs, hx => by simpa [Eng.evp] using hx
  | (i, x) :: xs, vs, hx => by
    simp only [Eng.evp] at hx
    cases h1 : Eng.ev l x with
    | none => simp [h1] at hx
    | some v =>
      cases h2 : Eng.evp l xs with
      | none => simp [h1, h2] at hx
      | some us =>
        simp only [h1, h2, Option.some.injEq] at hx
        subst hx
        simp [h.ev h1, TRel.evp h h2]

variable {c : Cx} {l : TL} {H : List Asrt} {Q : Exit → Act → World → Prop}
variable {ops : Array Oper} {rest : List Oper} {ty : TypeId} {pos : String} {af : Array Edge} {d : Nat} {v : Value} {dst : Option Tmp}

theorem run_buildA {T len E m z n agg z' } [i : Ty P T true m z] [j : Ar P T len E] [t : Ty P E agg n z'] {xs : List (Nat × Operand)} {vs : List (Nat × Value)} {cs : List Value} {a : Act} {k : Nat} (r : TRel k l a) (hx : evp l xs = some vs) (hf : bfill (fun i => some (i * n, n)) z vs = some cs) (w : World) :
    (execOp a.eval ⟨dst, .build T xs.toArray, ty, pos, af, none⟩).run P w = .ok (.value (.agg cs.toArray)) w := by
  obtain ⟨zv, h1, h2⟩ := run_zeroV (P := P) (w := w) (T := T)
  have h3 := r.evp hx
  have h4 := fill_of hf
  rw [← h3] at h4
  simp only [execOp, Instr.build, Sem.run_bind, h1, Result.andThen_ok, h2, run_und j.und, run_size (P := P) (w := w) (T := E)]
  simp only [List.map_toArray]
  have e : (List.map (fun x : Nat × Operand => match x with | (i, x) => (i, a.eval x)) xs) = xs.map (fun x => (x.1, a.eval x.2)) := rfl
  rw [h4]
  rfl

theorem mapM_places {fs : List Field} {pl : List (Nat × Nat)} {w : World} (h : (fs.map fun f => (f.offset, (P.info? f.type).map (fun i => i.size))) = pl.map fun x => (x.1, some x.2)) :
    (fs.mapM (m := Sem) fun f => do pure (f.offset, ← sizeOf f.type)).run P w = .ok pl w := by
  induction fs generalizing pl with
  | nil =>
    cases pl with
    | nil => simp
    | cons x pl => simp at h
  | cons f fs ih =>
    cases pl with
    | nil => simp at h
    | cons x pl =>
      simp only [List.map_cons, List.cons.injEq, Prod.mk.injEq] at h
      have h1 := run_sizeOf' (P := P) (w := w) h.1.2
      simp only [List.mapM_cons, Sem.run_bind, h1, Result.andThen_ok, Sem.run_pure, ih h.2, h.1.1]

theorem run_buildS {T m z pl} [i : Ty P T true m z] [j : StP P T pl] {xs : List (Nat × Operand)} {vs : List (Nat × Value)} {cs : List Value} {a : Act} {k : Nat} (r : TRel k l a) (hx : evp l xs = some vs) (hf : bfill (fun i => pl[i]?) z vs = some cs) (w : World) :
    (execOp a.eval ⟨dst, .build T xs.toArray, ty, pos, af, none⟩).run P w = .ok (.value (.agg cs.toArray)) w := by
  obtain ⟨zv, h1, h2⟩ := run_zeroV (P := P) (w := w) (T := T)
  have h3 := r.evp hx
  have h4 := fill_of hf
  rw [← h3] at h4
  have hj := j.ok
  cases hu : P.underlying T with
  | none => rw [hu] at hj; cases hj
  | some dsc =>
    rw [hu] at hj
    cases dsc <;> simp only [reduceCtorEq, Option.some.injEq] at hj
    rename_i fs
    have h5 := mapM_places (P := P) (w := w) hj
    have e5 : fs = fs.toList.toArray := by simp
    rw [e5] at hu
    simp only [execOp, Instr.build, Sem.run_bind, h1, Result.andThen_ok, h2, run_und hu, List.mapM_toArray, Sem.run_map, h5]
    simp only [List.map_toArray, List.getElem?_toArray]
    have h6 : Instr.fill (fun i => pl[i]?) z.toArray (List.map (fun x : Nat × Operand => match x with | (i, x) => (i, a.eval x)) xs) = some cs.toArray := h4
    rw [h6]
    rfl

section
variable {mm : Nat}
theorem Qv.buildA {T len E m z n agg z' } [i : Ty P T true m z] [j : Ar P T len E] [t : Ty P E agg n z'] {xs : List (Nat × Operand)} {vs : List (Nat × Value)} {cs : List Value} (hx : evp l xs = some vs) (hf : bfill (fun i => some (i * n, n)) z vs = some cs) : Qv P mm l (.build T xs.toArray) (.agg cs.toArray) := fun a w _ _ _ _ s => run_buildA s hx hf w
theorem Qv.buildS {T m z pl} [i : Ty P T true m z] [j : StP P T pl] {xs : List (Nat × Operand)} {vs : List (Nat × Value)} {cs : List Value} (hx : evp l xs = some vs) (hf : bfill (fun i => pl[i]?) z vs = some cs) : Qv P mm l (.build T xs.toArray) (.agg cs.toArray) := fun a w _ _ _ _ s => run_buildS s hx hf w
end

/-! ### Equality -/
theorem run_eqlA {T : Nat} {x y : Operand} {xs ys : List Value} {r : Bool} (hg : P.eqGuardType P.depth T = false) (he : ∀ w, (Op.equal T (.agg xs.toArray) (.agg ys.toArray)).run P w = .ok r w) (w : World) :
    ((do eqGuard .eql T x y (.agg xs.toArray) (.agg ys.toArray); binOp .eql T (.agg xs.toArray) (.agg ys.toArray) : Sem Value)).run P w = .ok (.bool r) w := by
  simp [eqGuard, hg, binOp, he]
theorem run_neqA {T : Nat} {x y : Operand} {xs ys : List Value} {r : Bool} (hg : P.eqGuardType P.depth T = false) (he : ∀ w, (Op.equal T (.agg xs.toArray) (.agg ys.toArray)).run P w = .ok r w) (w : World) :
    ((do eqGuard .neq T x y (.agg xs.toArray) (.agg ys.toArray); binOp .neq T (.agg xs.toArray) (.agg ys.toArray) : Sem Value)).run P w = .ok (.bool !r) w := by
  simp [eqGuard, hg, binOp, he]
theorem run_eqlA_op {T T' : Nat} {x y : Operand} {xs ys : List Value} {r : Bool} {a : Act} {k : Nat} (t : TRel k l a) (hx : ev l x = some (.agg xs.toArray)) (hy : ev l y = some (.agg ys.toArray)) (hg : P.eqGuardType P.depth T = false) (he : ∀ w, (Op.equal T (.agg xs.toArray) (.agg ys.toArray)).run P w = .ok r w) (w : World) :
    (execOp a.eval ⟨dst, .binOp .eql T x y T', ty, pos, af, none⟩).run P w = .ok (.value (.bool r)) w := by
  have h := run_eqlA (x := x) (y := y) hg he w
  simp only [execOp, t.ev hx, t.ev hy, Sem.run_bind] at h ⊢
  rw [h]; rfl
theorem run_neqA_op {T T' : Nat} {x y : Operand} {xs ys : List Value} {r : Bool} {a : Act} {k : Nat} (t : TRel k l a) (hx : ev l x = some (.agg xs.toArray)) (hy : ev l y = some (.agg ys.toArray)) (hg : P.eqGuardType P.depth T = false) (he : ∀ w, (Op.equal T (.agg xs.toArray) (.agg ys.toArray)).run P w = .ok r w) (w : World) :
    (execOp a.eval ⟨dst, .binOp .neq T x y T', ty, pos, af, none⟩).run P w = .ok (.value (.bool !r)) w := by
  have h := run_neqA (x := x) (y := y) hg he w
  simp only [execOp, t.ev hx, t.ev hy, Sem.run_bind] at h ⊢
  rw [h]; rfl
theorem run_eqlB_op {T T' : Nat} [i : BoolT P T] {x y : Operand} {b b' : Bool} {a : Act} {k : Nat} (t : TRel k l a) (hx : ev l x = some (.bool b)) (hy : ev l y = some (.bool b')) (w : World) :
    (execOp a.eval ⟨dst, .binOp .eql T x y T', ty, pos, af, none⟩).run P w = .ok (.value (.bool (b == b'))) w := by
  simp [execOp, t.ev hx, t.ev hy, eqGuard, binOp, run_equal_bool (P := P) w T b b' i.und]
theorem run_neqB_op {T T' : Nat} [i : BoolT P T] {x y : Operand} {b b' : Bool} {a : Act} {k : Nat} (t : TRel k l a) (hx : ev l x = some (.bool b)) (hy : ev l y = some (.bool b')) (w : World) :
    (execOp a.eval ⟨dst, .binOp .neq T x y T', ty, pos, af, none⟩).run P w = .ok (.value (.bool !(b == b'))) w := by
  simp [execOp, t.ev hx, t.ev hy, eqGuard, binOp, run_equal_bool (P := P) w T b b' i.und]
section
variable {mm : Nat}
theorem Qv.eqlA {T T' : Nat} {x y : Operand} {xs ys : List Value} {r : Bool} (hx : ev l x = some (.agg xs.toArray)) (hy : ev l y = some (.agg ys.toArray)) (hg : P.eqGuardType P.depth T = false) (he : ∀ w, (Op.equal T (.agg xs.toArray) (.agg ys.toArray)).run P w = .ok r w) : Qv P mm l (.binOp .eql T x y T') (.bool r) := fun a w _ _ _ _ s => run_eqlA_op s hx hy hg he w
theorem Qv.neqA {T T' : Nat} {x y : Operand} {xs ys : List Value} {r : Bool} (hx : ev l x = some (.agg xs.toArray)) (hy : ev l y = some (.agg ys.toArray)) (hg : P.eqGuardType P.depth T = false) (he : ∀ w, (Op.equal T (.agg xs.toArray) (.agg ys.toArray)).run P w = .ok r w) : Qv P mm l (.binOp .neq T x y T') (.bool !r) := fun a w _ _ _ _ s => run_neqA_op s hx hy hg he w
theorem Qv.eqlB {T T' : Nat} [i : BoolT P T] {x y : Operand} {b b' : Bool} (hx : ev l x = some (.bool b)) (hy : ev l y = some (.bool b')) : Qv P mm l (.binOp .eql T x y T') (.bool (b == b')) := fun a w _ _ _ _ s => run_eqlB_op s hx hy w
theorem Qv.neqB {T T' : Nat} [i : BoolT P T] {x y : Operand} {b b' : Bool} (hx : ev l x = some (.bool b)) (hy : ev l y = some (.bool b')) : Qv P mm l (.binOp .neq T x y T') (.bool !(b == b')) := fun a w _ _ _ _ s => run_neqB_op s hx hy w
end

/-! ### Calls that only reckon, of functions without a body -/
theorem run_ext {f : Nat} {xs : List Operand} {ts : Array TypeId} {vs : List Value} {r : Value} {a : Act} {n : Nat} (t : TRel n l a) (hx : evs l xs = some vs) (hr : ∀ w, (callFunc f vs.toArray).run P w = .ok (.value r) w) (w : World) :
    (execOp a.eval ⟨dst, .call ⟨.value (.func f), xs.toArray, ts⟩, ty, pos, af, none⟩).run P w = .ok (.value r) w := by
  have h := t.evs hx
  simp [execOp, resolve, Act.eval, Deferred.ofValue, invoke, hr, h]
theorem Qv.ext {mm f : Nat} {xs : List Operand} {ts : Array TypeId} {vs : List Value} {r : Value} (hx : evs l xs = some vs) (hr : ∀ w, (callFunc f vs.toArray).run P w = .ok (.value r) w) : Qv P mm l (.call ⟨.value (.func f), xs.toArray, ts⟩) r := fun a w _ _ _ _ s => run_ext s hx hr w
end
end Go.Proofs.Ytnbckkpflmpnlaa.Eng
