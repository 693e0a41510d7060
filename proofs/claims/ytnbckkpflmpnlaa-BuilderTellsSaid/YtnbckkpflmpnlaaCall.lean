/-
  The engine, part 4: calls, contracts, and a function's end. No conditions.
-/
import Derived.Test.YtnbckkpflmpnlaaOps
namespace Go.Proofs.Ytnbckkpflmpnlaa.Eng
open Go Go.RowKit
set_option linter.unusedVariables false

/-- A function that is entered. -/
class Enters (P : Program) (f : Nat) : Prop where
  run : ∀ args w, (callFunc f args).run P w = .ok (.enter f args) w
theorem enters_of' {P : Program} {f : Nat} {fn : Func} (hf : P.funcs[f]? = some fn) (hn : (fn.name == "runtime.NumGoroutine") = false) (hb : fn.body.isNone = false) : Enters P f :=
  ⟨fun args w => by
    simp only [callFunc, Sem.run_bind, run_program, Result.andThen_ok, hf, hn, hb, Bool.false_eq_true, if_false]
    rfl⟩

/-- The contract: with the assertions H1 at hand the call ends so that R tells the ending and what is at hand then. -/
def CSpec (P : Program) (f : Nat) (args : List Value) (H1 : List Asrt) (w : World) (R : Ending → List Asrt → Prop) : Prop :=
  ∀ fp, Holds (hp w) H1 fp → fp.Nodup → (∀ i, i ∈ fp → i < w.heap.size) → Calls P f args.toArray w fun e w' => ∃ H3, R e H3 ∧ Sat w fp H3 w'

theorem CSpec.mono {P f args H1 w R R'} (h : CSpec P f args H1 w R) (hr : ∀ e H, R e H → R' e H) : CSpec P f args H1 w R' :=
  fun fp h1 h2 h3 => (h fp h1 h2 h3).mono fun e w' ⟨H3, hR, hS⟩ => ⟨H3, hr _ _ hR, hS⟩

/-- It ends with this value, and all that it made is left. -/
def Gives (r : Value) : Ending → List Asrt → Prop := fun e H => e = .returned r ∧ H = []

def initTL : Nat → List Value → TL
  | _, [] => []
  | i, v :: vs => (i, v) :: initTL (i + 1) vs

theorem initTL_get : ∀ (vs : List Value) (i d : Nat) (v : Value), TL.get (initTL i vs) d = some v → i ≤ d ∧ vs[d - i]? = some v
  | [], i, d, v, h => by simp [initTL, TL.get] at h
  | u :: vs, i, d, v, h => by
    simp only [initTL, TL.get] at h
    cases hq : Nat.beq i d with
    | true =>
      have e := Nat.eq_of_beq_eq_true hq
      subst e
      rw [hq] at h
      simpa using h
    | false =>
      rw [hq] at h
      obtain ⟨h1, h2⟩ := initTL_get vs (i + 1) d v h
      refine ⟨by omega, ?_⟩
      rw [show d - i = (d - (i + 1)) + 1 by omega]
      simpa using h2

section
variable {P : Program}

/-- A function's contract out of the walk of its body. -/
theorem spec_of {f : Nat} {fn : Func} {code : Code} {args : List Value} {H1 : List Asrt} {w : World} {R : Ending → List Asrt → Prop} {n : Nat} {l0 : TL} (hf : P.funcs[f]? = some fn) (hb : fn.body = some code) (hn : fn.ntmps = n) (hsz : Nat.ble args.length n = true) (hl : initTL 0 args = l0)
    (K : ∀ fp, J ⟨w, fp, n, []⟩ l0 H1 (code.wp P (bodyPost P fn fun e w' => ∃ H3, R e H3 ∧ Sat w fp H3 w'))) : CSpec P f args H1 w R := by
  intro fp h1 h2 h3
  refine calls_of_wp hf hb ((K fp).out _ _ ⟨⟨?_, ?_⟩, rfl, fp, h1, h2, fun i hi => ⟨h3 i hi, fun _ => hi⟩, Fr.refl _ _⟩)
  · have : args.length ≤ n := Nat.le_of_ble_eq_true hsz
    simp [hn]; omega
  · intro d v hd
    rw [← hl] at hd
    obtain ⟨_, h5⟩ := initTL_get args 0 d v hd
    have hlt : d < args.length := by
      rcases Nat.lt_or_ge d args.length with hq | hq
      · exact hq
      · rw [Nat.sub_zero, List.getElem?_eq_none hq] at h5; cases h5
    rw [Array.getElem?_append_left (by simpa using hlt)]
    simpa using h5

/-- What a law wants. -/
theorem CSpec.below {f : Nat} {args : List Value} {w : World} {r : Value} (h : CSpec P f args [] w (Gives r)) : Calls P f args.toArray w fun e w' => e = .returned r ∧ Below w.heap.size w w' :=
  (h [] rfl (by simp) (by simp)).mono fun e w' ⟨H3, ⟨he, _⟩, hS⟩ => ⟨he, ⟨hS.fr.os, hS.fr.tape, hS.fr.output, hS.fr.size, fun i hi => hS.fr.same i hi (by simp)⟩⟩

variable {c : Cx} {l : TL} {H : List Asrt} {Q : Exit → Act → World → Prop}
variable {X : Act → World → Prop} {ty : TypeId} {pos : String} {af : Array Edge} {d : Nat} {v : Value} {dst : Option Tmp}

theorem run_call {f : Nat} [i : Enters P f] {xs : List Operand} {ts : Array TypeId} {vs : List Value} {a : Act} {n : Nat} (r : TRel n l a) (hx : evs l xs = some vs) (w : World) :
    (execOp a.eval ⟨dst, .call ⟨.value (.func f), xs.toArray, ts⟩, ty, pos, af, none⟩).run P w = .ok (.enter f vs.toArray) w := by
  have h := r.evs hx
  simp [execOp, resolve, Act.eval, Deferred.ofValue, invoke, i.run, h]

/-- A call by its contract. -/
theorem J.call {f : Nat} [i : Enters P f] {xs : List Operand} {ts : Array TypeId} {vs : List Value} {H1 H2 : List Asrt} {R : Ending → List Asrt → Prop} (hd : Nat.blt d c.n = true) (hx : evs l xs = some vs) (ho : Outs H1 H H2)
    (hS : ∀ w, Fr c.w0 c.own w → CSpec P f vs H1 w R)
    (K1 : ∀ v H3, R (.returned v) H3 → J c ((d, v) :: l) (H3 ++ H2) X)
    (K2 : ∀ ch H3, R (.panicked ch) H3 → J c l (H3 ++ H2) (Q (.panic ch)))
    (K3 : ∀ H3, ¬ R .outgrown H3) :
    J c l H (OW P Q ⟨some d, .call ⟨.value (.func f), xs.toArray, ts⟩, ty, pos, af, none⟩ X) := J.mk fun a w s => by
  unfold OW Oper.wp
  rw [run_call s.1 hx w]
  obtain ⟨fp, hh, hn, hi, hf⟩ := s.2.2.perm ho.perm
  obtain ⟨f1, g1, rfl, h1, h2⟩ := hh.split
  have hc := hS w hf f1 h1 (List.nodup_append.1 hn).1 (fun i hi' => (hi i (List.mem_append_left _ hi')).1)
  refine Calls.mono hc fun e w' ⟨H3, hR, h3⟩ => ?_
  have h4 := Sat.call hn hi hf h2 h3
  cases e with
  | returned v => exact K1 v H3 hR _ _ ⟨s.1.put hd, s.2.1, h4⟩
  | panicked ch => exact K2 ch H3 hR _ _ ⟨s.1, s.2.1, h4⟩
  | outgrown => exact (K3 H3 hR).elim

/-- A call that gives a value and nothing else. -/
theorem J.gives {f : Nat} [i : Enters P f] {xs : List Operand} {ts : Array TypeId} {vs : List Value} {r : Value} (hd : Nat.blt d c.n = true) (hx : evs l xs = some vs)
    (hS : ∀ w, Fr c.w0 c.own w → CSpec P f vs [] w (Gives r))
    (K : J c ((d, r) :: l) H X) :
    J c l H (OW P Q ⟨some d, .call ⟨.value (.func f), xs.toArray, ts⟩, ty, pos, af, none⟩ X) :=
  J.call hd hx .nil hS (fun v H3 ⟨h1, h2⟩ => by cases h1; subst h2; exact K) (fun ch H3 ⟨h1, _⟩ => by cases h1) (fun H3 ⟨h1, _⟩ => by cases h1)

/-- It ends with this value, and hands back what it was handed. -/
def Keeps (r : Value) (H1 : List Asrt) : Ending → List Asrt → Prop := fun e H => e = .returned r ∧ H = H1
theorem J.keeps {f : Nat} [i : Enters P f] {xs : List Operand} {ts : Array TypeId} {vs : List Value} {H1 H2 : List Asrt} {r : Value} (hd : Nat.blt d c.n = true) (hx : evs l xs = some vs)
    (hS : ∀ w, Fr c.w0 c.own w → CSpec P f vs H1 w (Keeps r H1)) (ho : Outs H1 H H2)
    (K : J c ((d, r) :: l) H X) :
    J c l H (OW P Q ⟨some d, .call ⟨.value (.func f), xs.toArray, ts⟩, ty, pos, af, none⟩ X) :=
  J.call hd hx ho hS (fun v H3 ⟨h1, h2⟩ => by cases h1; subst h2; exact J.perm ho.perm.symm K) (fun ch H3 ⟨h1, _⟩ => by cases h1) (fun H3 ⟨h1, _⟩ => by cases h1)
theorem J.kept' {H1 H2 : List Asrt} {r r' : Value} (e : r = r') (ho : Outs H1 H H2) : J c l H (fun _ w => ∃ H3, Keeps r' H1 (.returned r) H3 ∧ Sat c.w0 c.own H3 w) := J.mk fun a w s =>
  ⟨H1, ⟨by rw [e], rfl⟩, Sat.drops (H' := H2) ((s.2.2.perm ho.perm).perm List.perm_append_comm)⟩

/-- Calls by a lemma that is named first, with what it asks for. -/
theorem J.givesW {f : Nat} [i : Enters P f] {xs : List Operand} {ts : Array TypeId} {vs : List Value} {r : Value} (hS : ∀ w, CSpec P f vs [] w (Gives r)) (hd : Nat.blt d c.n = true) (hx : evs l xs = some vs)
    (K : J c ((d, r) :: l) H X) :
    J c l H (OW P Q ⟨some d, .call ⟨.value (.func f), xs.toArray, ts⟩, ty, pos, af, none⟩ X) := J.gives hd hx (fun w _ => hS w) K
theorem J.givesP {f : Nat} [i : Enters P f] {xs : List Operand} {ts : Array TypeId} {vs : List Value} {r : Value} {p : Prop} (hS : p → ∀ w, CSpec P f vs [] w (Gives r)) (hd : Nat.blt d c.n = true) (hx : evs l xs = some vs) (hp : p)
    (K : J c ((d, r) :: l) H X) :
    J c l H (OW P Q ⟨some d, .call ⟨.value (.func f), xs.toArray, ts⟩, ty, pos, af, none⟩ X) := J.gives hd hx (fun w _ => hS hp w) K
theorem J.keepsW {f : Nat} [i : Enters P f] {xs : List Operand} {ts : Array TypeId} {vs : List Value} {H1 H2 : List Asrt} {r : Value} (hS : ∀ w, CSpec P f vs H1 w (Keeps r H1)) (hd : Nat.blt d c.n = true) (hx : evs l xs = some vs) (ho : Outs H1 H H2)
    (K : J c ((d, r) :: l) H X) :
    J c l H (OW P Q ⟨some d, .call ⟨.value (.func f), xs.toArray, ts⟩, ty, pos, af, none⟩ X) := J.keeps hd hx (fun w _ => hS w) ho K
theorem J.keepsP {f : Nat} [i : Enters P f] {xs : List Operand} {ts : Array TypeId} {vs : List Value} {H1 H2 : List Asrt} {r : Value} {p : Prop} (hS : p → ∀ w, CSpec P f vs H1 w (Keeps r H1)) (hd : Nat.blt d c.n = true) (hx : evs l xs = some vs) (ho : Outs H1 H H2) (hp : p)
    (K : J c ((d, r) :: l) H X) :
    J c l H (OW P Q ⟨some d, .call ⟨.value (.func f), xs.toArray, ts⟩, ty, pos, af, none⟩ X) := J.keeps hd hx (fun w _ => hS hp w) ho K

/-! ### A function's end -/
inductive Res (P : Program) (c : Cx) (l : TL) (H : List Asrt) : List ResultVar → List Value → Prop
  | nil : Res P c l H [] []
  | tmp {t v rs vs} (h : TL.get l t = some v) (hr : Res P c l H rs vs) : Res P c l H (.tmp t :: rs) (v :: vs)
  | cell1 {t T n z b off C E v rs vs} [i : Ty P T false n z] (h : TL.get l t = some (.pointer (some ⟨b, off, none⟩))) (hm : In (blk b C E) H) (hv : C[off]? = some v) (hr : Res P c l H rs vs) : Res P c l H (.cell t T :: rs) (v :: vs)
  | cellN {t T n z b off C cs E rs vs} [i : Ty P T true n z] (h : TL.get l t = some (.pointer (some ⟨b, off, none⟩))) (hm : In (blk b C E) H) (hcs : (C.drop off).take n = cs) (hn : cs.length = n) (hr : Res P c l H rs vs) : Res P c l H (.cell t T :: rs) (.agg cs.toArray :: vs)

def resRun (tmps : Array Value) : ResultVar → Sem Value
  | .tmp t => pure (tmps.getD t undef)
  | .cell a t => do loadVar t (← asAddr (tmps.getD a undef))

theorem Res.run {rs : List ResultVar} {vs : List Value} (h : Res P c l H rs vs) {a : Act} {w : World} (s : St c l H a w) : (rs.mapM (resRun a.tmps)).run P w = .ok vs w := by
  induction h with
  | nil => simp
  | @tmp t v rs vs h _ ih =>
    have := s.1.get _ _ h
    simp [List.mapM_cons, resRun, this, ih]
  | @cell1 t T n z b off C E v rs vs i h hm hv _ ih =>
    have h1 := s.1.get _ _ h
    have h2 := run_load1 (P := P) (T := T) (s.2.2.cell hm.mem hv)
    simp only [Instr.loadAt, Instr.sureAddr, Sem.run_bind, Sem.run_pure, Result.andThen_ok] at h2
    simp [List.mapM_cons, resRun, h1, asAddr, h2, ih]
  | @cellN t T n z b off C cs E rs vs i h hm hcs hn _ ih =>
    have h1 := s.1.get _ _ h
    have h2 := run_loadN (P := P) (w := w) (T := T) (ad := ⟨b, off, none⟩) hn (fun j v hj => by
      rw [addr_add]
      refine s.2.2.cell hm.mem ?_
      rw [← hcs, List.getElem?_take] at hj
      split at hj
      · rwa [List.getElem?_drop] at hj
      · cases hj)
    simp only [Instr.loadAt, Instr.sureAddr, Sem.run_bind, Sem.run_pure, Result.andThen_ok] at h2
    simp [List.mapM_cons, resRun, h1, asAddr, h2, ih]

def retv : List Value → Value
  | [v] => v
  | vs => .tuple vs.toArray

theorem run_results {fn : Func} {rs : List ResultVar} {vs : List Value} (hr : fn.results = rs.toArray) (h : Res P c l H rs vs) {a : Act} {w : World} (s : St c l H a w) : (results fn a.tmps).run P w = .ok (retv vs) w := by
  have h1 := h.run s
  have key : ∀ g : ResultVar → Sem Value, (∀ x, g x = resRun a.tmps x) → Array.mapM g rs.toArray = Array.mapM (resRun a.tmps) rs.toArray := fun g hg => by rw [funext hg]
  unfold results
  rw [hr, key _ (by intro x; cases x <;> rfl)]
  simp only [List.mapM_toArray, Sem.run_bind, Sem.run_map, h1, Result.andThen_ok]
  match vs with
  | [] => simp [retv]
  | [v] => simp [retv]
  | u :: v :: ws => simp [retv]

theorem J.ret {fn : Func} {rs : List ResultVar} {vs : List Value} {r : Value} {R : Ending → World → Prop} (hds : c.ds = []) (hr : fn.results = rs.toArray) (hres : Res P c l H rs vs) (hv : retv vs = r) (K : J c l H (fun _ w => R (.returned r) w)) :
    J c l H (bodyPost P fn R .ret) := J.mk fun a w s => ⟨s.2.1.trans hds, _, hv ▸ run_results hr hres s, K a w s⟩
theorem J.ret_normal {fn : Func} {rs : List ResultVar} {vs : List Value} {r : Value} {R : Ending → World → Prop} (hds : c.ds = []) (hr : fn.results = rs.toArray) (hres : Res P c l H rs vs) (hv : retv vs = r) (K : J c l H (fun _ w => R (.returned r) w)) :
    J c l H (bodyPost P fn R .normal) := J.mk fun a w s => ⟨s.2.1.trans hds, _, hv ▸ run_results hr hres s, K a w s⟩
theorem J.panic {fn : Func} {ch : List PanicEntry} {R : Ending → World → Prop} (hds : c.ds = []) (K : J c l H (fun _ w => R (.panicked ch) w)) :
    J c l H (bodyPost P fn R (.panic ch)) := J.mk fun a w s => ⟨s.2.1.trans hds, K a w s⟩

/-- The contract's end: what is handed back, out of what is at hand. -/
theorem J.post {R : Ending → List Asrt → Prop} {e : Ending} {H3 H4 : List Asrt} (hR : R e H3) (ho : Outs H3 H H4) : J c l H (fun _ w => ∃ H3, R e H3 ∧ Sat c.w0 c.own H3 w) := J.mk fun a w s =>
  ⟨H3, hR, Sat.drops (H' := H4) ((s.2.2.perm ho.perm).perm List.perm_append_comm)⟩
theorem J.gave' {r r' : Value} (e : r = r') : J c l H (fun _ w => ∃ H3, Gives r' (.returned r) H3 ∧ Sat c.w0 c.own H3 w) := J.post ⟨by rw [e], rfl⟩ .nil
theorem J.gave {r : Value} : J c l H (fun _ w => ∃ H3, Gives r (.returned r) H3 ∧ Sat c.w0 c.own H3 w) := J.post ⟨rfl, rfl⟩ .nil
end
/-! ### What may come in -/
theorem wfi64 {x : Int} (h : (Lit.int .i64 x).wf = true) : -9223372036854775808 ≤ x ∧ x ≤ 9223372036854775807 := by
  simp [Lit.wf, IntKind.min, IntKind.max, IntKind.signed, IntKind.bits] at h; omega
theorem wfu64 {x : Int} (h : (Lit.int .u64 x).wf = true) : 0 ≤ x ∧ x ≤ 18446744073709551615 := by
  simp [Lit.wf, IntKind.min, IntKind.max, IntKind.signed, IntKind.bits] at h; omega
end Go.Proofs.Ytnbckkpflmpnlaa.Eng
