/-
  The engine, part 3: types, and the rules for single operations. No conditions.
-/
import Derived.Test.YtnbckkpflmpnlaaJ
namespace Go.Proofs.Ytnbckkpflmpnlaa.Eng
open Go Go.RowKit
set_option linter.unusedVariables false

/-! ### Types -/
def aggB : TypeDesc → Bool
  | .struct _ | .array _ _ => true
  | _ => false
/-- Is a type's value many cells; how many; its zero value's cells. -/
class Ty (P : Program) (T : Nat) (agg : outParam Bool) (n : outParam Nat) (z : outParam (List Value)) : Prop where
  und : (P.underlying T).map aggB = some agg
  siz : (P.info? T).map (fun i => i.size) = some n
  zer : (P.info? T).map (fun i => i.zero.map (fun v => v.cells)) = some (some z.toArray)
/-- A struct's field: its place, whether it is many cells, how many. -/
class FldT (P : Program) (S f : Nat) (off : outParam Nat) (agg : outParam Bool) (n : outParam Nat) : Prop where
  fld : (match P.underlying S with | some (.struct fs) => (fs[f]?).map (fun x => (x.offset, (P.underlying x.type).map aggB, (P.info? x.type).map (fun i => i.size))) | _ => none) = some (off, some agg, some n)
  pos : (n == 0) = false
/-- An array type. -/
class Ar (P : Program) (T : Nat) (len : outParam Nat) (E : outParam Nat) : Prop where
  und : P.underlying T = some (.array len E)
class Sl (P : Program) (T : Nat) (E : outParam Nat) (bytes : outParam Nat) : Prop where
  und : P.underlying T = some (.slice E)
  byt : (P.info? E).map (fun i => i.bytes) = some bytes
class Ik (P : Program) (T : Nat) (k : outParam IntKind) : Prop where
  und : P.underlying T = some (.int k)
class Pt (P : Program) (T : Nat) (E : outParam Nat) : Prop where
  und : P.underlying T = some (.pointer E)
class BoolT (P : Program) (T : Nat) : Prop where
  und : P.underlying T = some .bool
class StrT (P : Program) (T : Nat) : Prop where
  und : P.underlying T = some .string
class NoIface (P : Program) (T : Nat) : Prop where
  und : ∃ d, P.underlying T = some d ∧ (∀ ms, d ≠ .interface ms)

section
variable {P : Program} {w : World}
theorem run_und {T : Nat} {d : TypeDesc} (h : P.underlying T = some d) : (underlying T).run P w = .ok d w := by
  simp [underlying, h]
theorem run_isAgg {T agg n z} [i : Ty P T agg n z] : (isAgg T).run P w = .ok agg w := by
  have h := i.und
  cases hu : P.underlying T with
  | none => rw [hu] at h; cases h
  | some d =>
    rw [hu] at h
    simp only [Option.map_some, Option.some.injEq] at h
    subst h
    simp only [isAgg, Sem.run_bind, run_und hu, Result.andThen_ok]
    cases d <;> rfl
theorem run_sizeOf' {T n} (h : (P.info? T).map (fun i => i.size) = some n) : (sizeOf T).run P w = .ok n w := by
  cases hu : P.info? T with
  | none => rw [hu] at h; cases h
  | some d =>
    rw [hu] at h
    simp only [Option.map_some, Option.some.injEq] at h
    subst h
    simp [sizeOf, typeInfo, hu]
theorem run_size {T agg n z} [i : Ty P T agg n z] : (sizeOf T).run P w = .ok n w := run_sizeOf' i.siz
theorem run_zeroV {T agg n z} [i : Ty P T agg n z] : ∃ v, (zeroValue T).run P w = .ok v w ∧ v.cells = z.toArray := by
  have h := i.zer
  cases hu : P.info? T with
  | none => rw [hu] at h; cases h
  | some d =>
    rw [hu] at h
    simp only [Option.map_some, Option.some.injEq] at h
    cases hz : d.zero with
    | none => rw [hz] at h; cases h
    | some v =>
      rw [hz] at h
      simp only [Option.map_some, Option.some.injEq] at h
      exact ⟨v, by simp [zeroValue, typeInfo, hu, hz], h⟩

/-! ### Memory -/
theorem addr_add (b o n : Nat) : (⟨b, o, none⟩ : Addr).add n = ⟨b, o + n, none⟩ := by
  unfold Addr.add
  split
  · rename_i h; subst h; rfl
  · rfl
theorem run_load1 {T n z} [i : Ty P T false n z] {ad : Addr} {v : Value} (hc : w.cell? ad = some v) : (Instr.loadAt T (.pointer (some ad))).run P w = .ok v w := by
  simp [Instr.loadAt, Instr.sureAddr, loadVar, run_isAgg (P := P) (w := w) (T := T), hc]
theorem run_loadN {T n z} [i : Ty P T true n z] {ad : Addr} {cs : List Value} (hn : cs.length = n) (hc : ∀ j v, cs[j]? = some v → w.cell? (ad.add j) = some v) : (Instr.loadAt T (.pointer (some ad))).run P w = .ok (.agg cs.toArray) w := by
  have h := run_loadCells_list (P := P) w ad cs hc
  rw [hn] at h
  simp [Instr.loadAt, Instr.sureAddr, loadVar, run_isAgg (P := P) (w := w) (T := T), run_size (P := P) (w := w) (T := T), h]
/-- Cells put over others. -/
def splice (C : List Value) (off : Nat) (vs : List Value) : List Value := C.take off ++ vs ++ C.drop (off + vs.length)
theorem run_storeV {T agg n z} [i : Ty P T agg n z] {b off : Nat} {C : List Value} {E : TypeId} {v : Value} (hb : w.heap[b]? = some (.cells C.toArray E (0, 0))) (hs : v.cells.size = n) (hfit : off + n ≤ C.length) (h1 : ∀ u ∈ v.cells.toList, u.oneCell' = true) :
    (Instr.storeAt T (.pointer (some ⟨b, off, none⟩)) v).run P w = .ok () (w.setRow b (splice C off v.cells.toList).toArray) := by
  have h := run_storeCells_at (P := P) b off E v.cells.toList 0 C.toArray w hb (by simp [hs]; omega) h1
  simp only [Instr.storeAt, Instr.sureAddr, storeVar, Sem.run_bind, Sem.run_pure, Result.andThen_ok, run_size (P := P) (w := w) (T := T)]
  rw [if_neg (by simp [hs])]
  rw [h]
  simp [splice]
end

/-! ### Operations that leave the world alone -/
def binI (op : BinOp) (k : IntKind) (a b : Int) : Option Value :=
  match op with
  | .eql => some (.bool (a == b))
  | .neq => some (.bool (a != b))
  | .lss => some (.bool (decide (a < b)))
  | .leq => some (.bool (decide (a ≤ b)))
  | .gtr => some (.bool (decide (a > b)))
  | .geq => some (.bool (decide (a ≥ b)))
  | _ => none

/-- What an operation gives whatever the world is. -/
def pureOp (l : TL) : Op → Option Value
  | .move x => ev l x
  | .assign x => ev l x
  | .pick c a b => match ev l c with
    | some (.bool true) => ev l a
    | some (.bool false) => ev l b
    | _ => none
  | .binOp op T x y T' => match ev l x, ev l y with
    | some (.int k a), some (.int k' b) => match op with
      | .shl | .shr | .quo | .rem | .and | .or | .xor | .andNot => none
      | _ => if k = k' then binI op k a b else none
    | _, _ => none
  | .unOp .not _ x => match ev l x with
    | some (.bool b) => some (.bool !b)
    | _ => none
  | .extract t i => match ev l t with
    | some (.tuple vs) => vs.toList[i]?
    | _ => none
  | .nilCheck x => match ev l x with
    | some (.pointer (some a)) => some (.pointer (some a))
    | _ => none
  | _ => none

section
variable {P : Program} {c : Cx} {l : TL} {H : List Asrt} {Q : Exit → Act → World → Prop}
variable {ops : Array Oper} {rest : List Oper} {ty : TypeId} {pos : String} {af : Array Edge} {d : Nat} {v : Value} {dst : Option Tmp}

theorem run_binI {op : BinOp} {k : IntKind} {a b : Int} {v : Value} (h : binI op k a b = some v) (T : TypeId) (w : World) : (binOp op T (.int k a) (.int k b)).run P w = .ok v w := by
  unfold binI at h
  cases op <;> simp only [Option.some.injEq, reduceCtorEq] at h <;> subst h <;> simp [binOp, Op.intCmp]

theorem run_guard {op : BinOp} {T : TypeId} {x y : Operand} {k k' : IntKind} {a b : Int} (w : World) : (eqGuard op T x y (.int k a) (.int k' b)).run P w = .ok () w := by
  unfold eqGuard
  cases op <;> simp

theorem run_pureOp {l : TL} {n : Nat} {a : Act} {op : Op} {v : Value} (h : pureOp l op = some v) (r : TRel n l a) (w : World) (dst : Option Tmp) (ty : TypeId) (pos : String) (af : Array Edge) :
    (execOp a.eval ⟨dst, op, ty, pos, af, none⟩).run P w = .ok (.value v) w := by
  cases op <;> simp only [pureOp, reduceCtorEq] at h
  case move x => simp [execOp, r.ev h]
  case assign x => simp [execOp, r.ev h]
  case pick c x y =>
    cases hc : ev l c with
    | none => simp [hc] at h
    | some u =>
      rw [hc] at h
      cases u <;> try (simp at h; done)
      rename_i b
      cases b
      · simp only at h
        simp [execOp, r.ev hc, r.ev h, asBool]
      · simp only at h
        simp [execOp, r.ev hc, r.ev h, asBool]
  case nilCheck x =>
    cases hx : ev l x with
    | none => simp [hx] at h
    | some u =>
      rw [hx] at h
      cases u <;> try (simp at h; done)
      rename_i p
      cases p <;> try (simp at h; done)
      simp only [Option.some.injEq] at h
      subst h
      simp [execOp, r.ev hx]
  case binOp op T x y T' =>
    cases hx : ev l x with
    | none => simp [hx] at h
    | some u =>
      cases hy : ev l y with
      | none => simp [hx, hy] at h
      | some u' =>
        rw [hx, hy] at h
        cases u <;> try (simp at h; done)
        cases u' <;> try (simp at h; done)
        rename_i k a1 k' b1
        have hop : (if k = k' then binI op k a1 b1 else none) = some v := by
          cases op <;> first | exact h | (simp at h; done)
        by_cases hk : k = k'
        · subst hk
          rw [if_pos rfl] at hop
          simp [execOp, r.ev hx, r.ev hy, run_guard, run_binI hop]
        · rw [if_neg hk] at hop; cases hop
  case unOp o T x =>
    cases o <;> try (simp at h; done)
    dsimp only at h
    cases hx : ev l x with
    | none => simp [hx] at h
    | some u =>
      rw [hx] at h
      cases u <;> try (simp at h; done)
      simp only [Option.some.injEq] at h
      subst h
      simp [execOp, r.ev hx, Op.unary]
  case extract t i =>
    cases hx : ev l t with
    | none => simp [hx] at h
    | some u =>
      rw [hx] at h
      cases u <;> try (simp at h; done)
      simp only at h
      have h' := h
      rw [Array.getElem?_toList] at h'
      simp [execOp, r.ev hx, Instr.extract, h']

theorem Qv.pure {n : Nat} {op : Op} (hv : pureOp l op = some v) : Qv P n l op v := fun a w _ _ _ _ r => run_pureOp hv r w _ _ _ _

/-! #### Memory -/
variable {X : Act → World → Prop}
theorem J.boxN {T : Nat} {x : Operand} {cs : List Value} (hd : Nat.blt d c.n = true) (hx : ev l x = some (.agg cs.toArray))
    (K : ∀ b, J c ((d, .pointer (some ⟨b, 0, none⟩)) :: l) (blk b cs T :: H) X) : J c l H (OW P Q ⟨some d, .box T x, ty, pos, af, none⟩ X) :=
  J.opv fun a w s => by
    refine ⟨.pointer (some ⟨w.heap.size, 0, none⟩), w.alloc (.cells cs.toArray T), ?_, ?_⟩
    · simp [execOp, s.1.ev hx, Instr.box, newVar, newRow, Value.cells]
    · exact K w.heap.size _ _ ⟨s.1.put hd, s.2.1, s.2.2.new _ _ fun h' hh => ⟨rfl, hh⟩⟩
theorem J.box1 {T : Nat} {x : Operand} (hd : Nat.blt d c.n = true) (hx : ev l x = some v) (hv : v.cells = #[v])
    (K : ∀ b, J c ((d, .pointer (some ⟨b, 0, none⟩)) :: l) (blk b [v] T :: H) X) : J c l H (OW P Q ⟨some d, .box T x, ty, pos, af, none⟩ X) :=
  J.opv fun a w s => by
    refine ⟨.pointer (some ⟨w.heap.size, 0, none⟩), w.alloc (.cells v.cells T), ?_, ?_⟩
    · simp [execOp, s.1.ev hx, Instr.box, newVar, newRow]
    · exact K w.heap.size _ _ ⟨s.1.put hd, s.2.1, s.2.2.new _ _ fun h' hh => ⟨rfl, by rw [hh, hv]⟩⟩
theorem J.alloc {T n z agg} [i : Ty P T agg n z] (hd : Nat.blt d c.n = true)
    (K : ∀ b, J c ((d, .pointer (some ⟨b, 0, none⟩)) :: l) (blk b z T :: H) X) : J c l H (OW P Q ⟨some d, .alloc T, ty, pos, af, none⟩ X) :=
  J.opv fun a w s => by
    obtain ⟨zv, h1, h2⟩ := run_zeroV (P := P) (w := w) (T := T)
    refine ⟨.pointer (some ⟨w.heap.size, 0, none⟩), w.alloc (.cells z.toArray T), ?_, ?_⟩
    · simp [execOp, Instr.alloc, newVar, newRow, h1, h2]
    · exact K w.heap.size _ _ ⟨s.1.put hd, s.2.1, s.2.2.new _ _ fun h' hh => ⟨rfl, hh⟩⟩

theorem Qr.load1 {T n z} [i : Ty P T false n z] {x : Operand} {b off : Nat} {C : List Value} {E : TypeId} (hx : ev l x = some (.pointer (some ⟨b, off, none⟩))) (hm : In (blk b C E) H) (hv : C[off]? = some v) : Qr P c l H (.load T x) v := fun a w _ _ _ _ s => by
  have hc := s.2.2.cell hm.mem hv
  simp [execOp, s.1.ev hx, run_load1 (P := P) (T := T) hc]
theorem Qr.loadN {T n z} [i : Ty P T true n z] {x : Operand} {b off : Nat} {C cs : List Value} {E : TypeId} (hx : ev l x = some (.pointer (some ⟨b, off, none⟩))) (hm : In (blk b C E) H) (hcs : (C.drop off).take n = cs) (hn : cs.length = n) : Qr P c l H (.load T x) (.agg cs.toArray) := fun a w _ _ _ _ s => by
  have hl := run_loadN (P := P) (w := w) (T := T) (ad := ⟨b, off, none⟩) hn (fun j v hj => by
    rw [addr_add]
    refine s.2.2.cell hm.mem ?_
    rw [← hcs, List.getElem?_take] at hj
    split at hj
    · rwa [List.getElem?_drop] at hj
    · cases hj)
  simp [execOp, s.1.ev hx, hl]
/-- A load out of what came in. -/
theorem Qr.load1x {T n z} [i : Ty P T false n z] {x : Operand} {ad : Addr} (hx : ev l x = some (.pointer (some ad))) (hv : ∀ w, Fr c.w0 c.own w → w.cell? ad = some v) : Qr P c l H (.load T x) v := fun a w _ _ _ _ s => by
  have hc := hv w s.2.2.fr
  simp [execOp, s.1.ev hx, run_load1 (P := P) (T := T) hc]
theorem Qr.loadNx {T n z} [i : Ty P T true n z] {x : Operand} {ad : Addr} {cs : List Value} (hx : ev l x = some (.pointer (some ad))) (hn : cs.length = n) (hv : ∀ w, Fr c.w0 c.own w → ∀ j v, cs[j]? = some v → w.cell? (ad.add j) = some v) : Qr P c l H (.load T x) (.agg cs.toArray) := fun a w _ _ _ _ s => by
  have hl := run_loadN (P := P) (w := w) (T := T) (ad := ad) hn (hv w s.2.2.fr)
  simp [execOp, s.1.ev hx, hl]

theorem store_core {T n z agg} [i : Ty P T agg n z] {x y : Operand} {b off : Nat} {C C' vs : List Value} {E : TypeId} {H' : List Asrt} (hx : ev l x = some (.pointer (some ⟨b, off, none⟩))) (hy : ev l y = some v) (hvs : v.cells.toList = vs) (hn : vs.length = n)
    (hu : Upd (blk b C E) (blk b C' E) H H') (hfit : off + n ≤ C.length) (hC : splice C off vs = C') (h1 : ∀ u ∈ vs, u.oneCell' = true)
    (K : J c l H' X) : J c l H (OW P Q ⟨none, .store T x y, ty, pos, af, none⟩ X) :=
  J.opu fun a w s => by
    obtain ⟨R, p1, p2⟩ := hu.perm
    have s1 := s.2.2.perm p1
    have hb := (s1.blk (List.mem_cons_self ..)).1
    have hr := run_storeV (P := P) (w := w) (T := T) (v := v) hb (by rw [← hn, ← hvs]; simp) hfit (by rw [hvs]; exact h1)
    refine ⟨_, ?_, K _ _ ⟨s.1.put_none, s.2.1, (s1.put C').perm p2⟩⟩
    simp [execOp, s.1.ev hx, s.1.ev hy, hr, hvs, hC]
theorem J.storeN {T n z} [i : Ty P T true n z] {x y : Operand} {b off : Nat} {C C' vs : List Value} {E : TypeId} {H' : List Asrt} (hx : ev l x = some (.pointer (some ⟨b, off, none⟩))) (hy : ev l y = some (.agg vs.toArray))
    (hu : Upd (blk b C E) (blk b C' E) H H') (hC : splice C off vs = C') (hn : vs.length = n) (hfit : off + n ≤ C.length) (h1 : vs.all (·.oneCell') = true)
    (K : J c l H' X) : J c l H (OW P Q ⟨none, .store T x y, ty, pos, af, none⟩ X) := store_core (T := T) hx hy (by simp [Value.cells]) hn hu hfit hC (by simpa using h1) K
theorem J.store1 {T z} [i : Ty P T false 1 z] {x y : Operand} {b off : Nat} {C C' : List Value} {E : TypeId} {H' : List Asrt} (hx : ev l x = some (.pointer (some ⟨b, off, none⟩))) (hy : ev l y = some v) (h1 : v.oneCell' = true)
    (hu : Upd (blk b C E) (blk b C' E) H H') (hC : splice C off [v] = C') (hfit : off + 1 ≤ C.length)
    (K : J c l H' X) : J c l H (OW P Q ⟨none, .store T x y, ty, pos, af, none⟩ X) := store_core (T := T) (vs := [v]) hx hy (by cases v <;> simp_all [Value.cells, Value.oneCell']) rfl hu hfit hC (by simpa using h1) K

/-! #### Places -/
theorem run_field {S f off agg n} [i : FldT P S f off agg n] (w : World) : ∃ fs x, P.underlying S = some (.struct fs) ∧ fs[f]? = some x ∧ x.offset = off ∧ (isAgg x.type).run P w = .ok agg w ∧ (sizeOf x.type).run P w = .ok n w := by
  have h := i.fld
  cases hu : P.underlying S with
  | none => rw [hu] at h; cases h
  | some dsc =>
    rw [hu] at h
    cases dsc <;> simp only [reduceCtorEq] at h
    rename_i fs
    cases hx : fs[f]? with
    | none => rw [hx] at h; cases h
    | some x =>
      rw [hx] at h
      simp only [Option.map_some, Option.some.injEq, Prod.mk.injEq] at h
      obtain ⟨h1, h2, h3⟩ := h
      refine ⟨fs, x, rfl, hx, h1, ?_, run_sizeOf' h3⟩
      cases hv : P.underlying x.type with
      | none => rw [hv] at h2; cases h2
      | some dx =>
        rw [hv] at h2
        simp only [Option.map_some, Option.some.injEq] at h2
        subst h2
        simp only [isAgg, Sem.run_bind, run_und hv, Result.andThen_ok]
        cases dx <;> rfl
section
variable {m : Nat}
theorem Qv.fieldAddr {S f off agg n} [i : FldT P S f off agg n] {x : Operand} {b o o' : Nat} (hx : ev l x = some (.pointer (some ⟨b, o, none⟩))) (ho : o + off = o') : Qv P m l (.fieldAddr S x f) (.pointer (some ⟨b, o', none⟩)) := fun a w _ _ _ _ s => by
  obtain ⟨fs, y, h1, h2, h3, h4, h5⟩ := run_field (P := P) (S := S) (f := f) w
  have hz : ¬ n = 0 := by have := i.pos; simpa using this
  simp [execOp, s.ev hx, Instr.fieldAt, run_und h1, h2, Instr.sureAddr, fieldPlace, h5, hz, h3, addr_add, ho]
theorem Qv.field1 {S f off n} [i : FldT P S f off false n] {x : Operand} {cs : List Value} (hx : ev l x = some (.agg cs.toArray)) (hv : cs[off]? = some v) : Qv P m l (.field S x f) v := fun a w _ _ _ _ s => by
  obtain ⟨fs, y, h1, h2, h3, h4, h5⟩ := run_field (P := P) (S := S) (f := f) w
  simp [execOp, s.ev hx, Instr.field, run_und h1, h2, asAgg, part, h4, h3, hv]
theorem Qv.fieldN {S f off n} [i : FldT P S f off true n] {x : Operand} {cs us : List Value} (hx : ev l x = some (.agg cs.toArray)) (hu : (cs.drop off).take n = us) : Qv P m l (.field S x f) (.agg us.toArray) := fun a w _ _ _ _ s => by
  obtain ⟨fs, y, h1, h2, h3, h4, h5⟩ := run_field (P := P) (S := S) (f := f) w
  simp [execOp, s.ev hx, Instr.field, run_und h1, h2, asAgg, part, h4, h5, h3]
  exact hu
/-- An element's address, of an array in memory. -/
theorem Qv.indexArr {T len E agg n z} [i : Ar P T len E] [t : Ty P E agg n z] {x y : Operand} {b o o' : Nat} {k : IntKind} {j : Int} (hx : ev l x = some (.pointer (some ⟨b, o, none⟩))) (hy : ev l y = some (.int k j)) (hj : 0 ≤ j ∧ j < (len : Int)) (ho : o + j.toNat * n = o') : Qv P m l (.indexAddr T x y) (.pointer (some ⟨b, o', none⟩)) := fun a w _ _ _ _ s => by
  simp [execOp, s.ev hx, s.ev hy, Instr.indexAt, asIntOf, run_und i.und, Instr.sureAddr, hj, run_size (P := P) (w := w) (T := E), addr_add, ho]
/-- An element's address, of a slice. -/
theorem Qv.indexSl {T E bytes agg n z} [i : Sl P T E bytes] [t : Ty P E agg n z] {x y : Operand} {ad ad' : Addr} {len cap : Nat} {k : IntKind} {j : Int} (hx : ev l x = some (.slice (some ad) len cap)) (hy : ev l y = some (.int k j)) (hj : 0 ≤ j ∧ j < (len : Int)) (ho : ad.add (j.toNat * n) = ad') : Qv P m l (.indexAddr T x y) (.pointer (some ad')) := fun a w _ _ _ _ s => by
  simp [execOp, s.ev hx, s.ev hy, Instr.indexAt, asIntOf, run_und i.und, hj, run_size (P := P) (w := w) (T := E), ho]
theorem Qv.indexBlk {T E bytes agg n z} [i : Sl P T E bytes] [t : Ty P E agg n z] {x y : Operand} {b o o' : Nat} {len cap : Nat} {k : IntKind} {j : Int} (hx : ev l x = some (.slice (some ⟨b, o, none⟩) len cap)) (hy : ev l y = some (.int k j)) (hj : 0 ≤ j ∧ j < (len : Int)) (ho : o + j.toNat * n = o') : Qv P m l (.indexAddr T x y) (.pointer (some ⟨b, o', none⟩)) :=
  Qv.indexSl (bytes := bytes) hx hy hj (by rw [addr_add, ho])
/-- An element of an array's value. -/
theorem Qv.index1 {T len E n z} [i : Ar P T len E] [t : Ty P E false n z] {x y : Operand} {cs : List Value} {k : IntKind} {j : Int} (hx : ev l x = some (.agg cs.toArray)) (hy : ev l y = some (.int k j)) (hj : 0 ≤ j ∧ j < (len : Int)) (hv : cs[j.toNat * n]? = some v) : Qv P m l (.index T x y) v := fun a w _ _ _ _ s => by
  simp [execOp, s.ev hx, s.ev hy, Instr.index, asIntOf, run_und i.und, hj, run_size (P := P) (w := w) (T := E), part, run_isAgg (P := P) (w := w) (T := E), hv]
theorem Qv.indexN {T len E n z} [i : Ar P T len E] [t : Ty P E true n z] {x y : Operand} {cs us : List Value} {k : IntKind} {j : Int} (hx : ev l x = some (.agg cs.toArray)) (hy : ev l y = some (.int k j)) (hj : 0 ≤ j ∧ j < (len : Int)) (hu : (cs.drop (j.toNat * n)).take n = us) : Qv P m l (.index T x y) (.agg us.toArray) := fun a w _ _ _ _ s => by
  simp [execOp, s.ev hx, s.ev hy, Instr.index, asIntOf, run_und i.und, hj, run_size (P := P) (w := w) (T := E), part, run_isAgg (P := P) (w := w) (T := E)]
  exact hu

/-! #### Numbers -/
theorem Qv.conv {S T k j} [i : Ik P T k] [i2 : Ik P S j] {x : Operand} {q : IntKind} {e z : Int} (hx : ev l x = some (.int q e)) (hz : k.wrap e = z) : Qv P m l (.convert S T x) (.int k z) := fun a w _ _ _ _ s => by
  simp [execOp, s.ev hx, convert, run_und i.und, run_und i2.und, Conv.intToInt, hz]
theorem Qv.add {T T' : Nat} {x y : Operand} {k : IntKind} {e f z : Int} (hx : ev l x = some (.int k e)) (hy : ev l y = some (.int k f)) (hz : k.wrap (e + f) = z) : Qv P m l (.binOp .add T x y T') (.int k z) := fun a w _ _ _ _ s => by
  simp [execOp, s.ev hx, s.ev hy, run_guard, binOp, Op.intArith, hz]
theorem Qv.sub {T T' : Nat} {x y : Operand} {k : IntKind} {e f z : Int} (hx : ev l x = some (.int k e)) (hy : ev l y = some (.int k f)) (hz : k.wrap (e - f) = z) : Qv P m l (.binOp .sub T x y T') (.int k z) := fun a w _ _ _ _ s => by
  simp [execOp, s.ev hx, s.ev hy, run_guard, binOp, Op.intArith, hz]
theorem Qv.mul {T T' : Nat} {x y : Operand} {k : IntKind} {e f z : Int} (hx : ev l x = some (.int k e)) (hy : ev l y = some (.int k f)) (hz : k.wrap (e * f) = z) : Qv P m l (.binOp .mul T x y T') (.int k z) := fun a w _ _ _ _ s => by
  simp [execOp, s.ev hx, s.ev hy, run_guard, binOp, Op.intArith, hz]
theorem Qv.quo {T T' : Nat} {x y : Operand} {k : IntKind} {e f z : Int} (hx : ev l x = some (.int k e)) (hy : ev l y = some (.int k f)) (hf : f ≠ 0) (hz : k.wrap (e.tdiv f) = z) : Qv P m l (.binOp .quo T x y T') (.int k z) := fun a w _ _ _ _ s => by
  simp [execOp, s.ev hx, s.ev hy, run_guard, binOp, Op.intDiv, hf, hz]
theorem Qv.rem {T T' : Nat} {x y : Operand} {k : IntKind} {e f z : Int} (hx : ev l x = some (.int k e)) (hy : ev l y = some (.int k f)) (hf : f ≠ 0) (hz : e.tmod f = z) : Qv P m l (.binOp .rem T x y T') (.int k z) := fun a w _ _ _ _ s => by
  simp [execOp, s.ev hx, s.ev hy, run_guard, binOp, Op.intDiv, hf, hz]
theorem Qv.shl {T T' : Nat} {x y : Operand} {k k' : IntKind} {e f z : Int} (hx : ev l x = some (.int k e)) (hy : ev l y = some (.int k' f)) (hf : ¬ f < 0) (hz : k.wrap (e * 2 ^ (min f.toNat k.bits)) = z) : Qv P m l (.binOp .shl T x y T') (.int k z) := fun a w _ _ _ _ s => by
  simp [execOp, s.ev hx, s.ev hy, run_guard, binOp, Op.shift, hf, hz]
theorem Qv.shr {T T' : Nat} {x y : Operand} {k k' : IntKind} {e f z : Int} (hx : ev l x = some (.int k e)) (hy : ev l y = some (.int k' f)) (hf : ¬ f < 0) (hz : e.fdiv (2 ^ (min f.toNat k.bits)) = z) : Qv P m l (.binOp .shr T x y T') (.int k z) := fun a w _ _ _ _ s => by
  simp [execOp, s.ev hx, s.ev hy, run_guard, binOp, Op.shift, hf, hz]
end
end
theorem cells_int {k : IntKind} {n : Int} : (Value.int k n).cells.toList = [.int k n] := rfl
theorem cells_bool {b : Bool} : (Value.bool b).cells.toList = [.bool b] := rfl
theorem cells_str {b : ByteArray} : (Value.string b).cells.toList = [.string b] := rfl
theorem cells_ptr {a : Option Addr} : (Value.pointer a).cells.toList = [.pointer a] := rfl
theorem cells_slice {a : Option Addr} {n m : Nat} : (Value.slice a n m).cells.toList = [.slice a n m] := rfl
theorem cells_agg {l : List Value} : (Value.agg l.toArray).cells.toList = l := rfl
/-! #### Numbers that fit -/
theorem wr64 {e z : Int} (h0 : -9223372036854775808 ≤ e) (h1 : e ≤ 9223372036854775807) (hz : e = z) : IntKind.i64.wrap e = z := by
  subst hz
  simp [IntKind.wrap, IntKind.signed, IntKind.bits]
  omega
theorem wru64 {e z : Int} (h0 : 0 ≤ e) (h1 : e ≤ 18446744073709551615) (hz : e = z) : IntKind.u64.wrap e = z := by
  subst hz
  simp [IntKind.wrap, IntKind.signed, IntKind.bits]
  omega
end Go.Proofs.Ytnbckkpflmpnlaa.Eng
