/-
  The engine, part 2: states of a function's run, the judgement, and its rules for code and operations. No conditions.
-/
import Derived.Test.YtnbckkpflmpnlaaSl
namespace Go.Proofs.Ytnbckkpflmpnlaa.Eng
open Go Go.RowKit
set_option linter.unusedVariables false

/-! ### Temporaries -/
abbrev TL := List (Nat × Value)
def TL.get : TL → Nat → Option Value
  | [], _ => none
  | (d, v) :: l, t => bif Nat.beq d t then some v else TL.get l t

structure TRel (n : Nat) (l : TL) (a : Act) : Prop where
  size : a.tmps.size = n
  get : ∀ d v, TL.get l d = some v → a.tmps[d]? = some v

theorem TRel.put {n l a d v} (h : TRel n l a) (hd : Nat.blt d n = true) : TRel n ((d, v) :: l) (a.put (some d) v) := by
  have hd' : d < n := by simp [Nat.blt] at hd; omega
  refine ⟨by simp [Act.put, h.size], fun t u hu => ?_⟩
  simp only [TL.get] at hu
  by_cases e : d = t
  · subst e
    have hb : Nat.beq d d = true := Nat.beq_refl d
    rw [hb] at hu
    simp only [cond_true, Option.some.injEq] at hu
    subst hu
    simp [Act.put, h.size, hd']
  · have hb : Nat.beq d t = false := by
      cases hq : Nat.beq d t
      · rfl
      · exact absurd (Nat.eq_of_beq_eq_true hq) e
    rw [hb] at hu
    simp only [cond_false] at hu
    simp only [Act.put, Array.getElem?_setIfInBounds_ne e]
    exact h.get t u hu

theorem TRel.put_none {n l a v} (h : TRel n l a) : TRel n l (a.put none v) := h

def ev (l : TL) : Operand → Option Value
  | .tmp t => TL.get l t
  | .const v => some v
  | .global g => some (.pointer (some ⟨g, 0, none⟩))
  | .func f => some (.func (.func f) #[] #[])

theorem TRel.ev {n l a x v} (h : TRel n l a) (hx : Eng.ev l x = some v) : a.eval x = v := by
  cases x with
  | tmp t =>
    have := h.get t v hx
    simp [Act.eval, this]
  | const u => simpa [Eng.ev, Act.eval] using hx
  | global g => simpa [Eng.ev, Act.eval] using hx
  | func f => simpa [Eng.ev, Act.eval] using hx

def evs (l : TL) : List Operand → Option (List Value)
  | [] => some []
  | x :: xs => match ev l x, evs l xs with
    | some v, some vs => some (v :: vs)
    | _, _ => none

theorem TRel.evs {n l a} (h : TRel n l a) : ∀ {xs vs}, Eng.evs l xs = some vs → xs.map a.eval = vs
  | [], vs, hx => by simpa [Eng.evs] using hx
  | x :: xs, vs, hx => by
    simp only [Eng.evs] at hx
    cases h1 : Eng.ev l x with
    | none => simp [h1] at hx
    | some v =>
      cases h2 : Eng.evs l xs with
      | none => simp [h1, h2] at hx
      | some us =>
        simp only [h1, h2, Option.some.injEq] at hx
        subst hx
        simp [h.ev h1, TRel.evs h h2]

/-! ### States, and the judgement -/
structure Cx where
  w0 : World
  own : List Nat
  n : Nat
  ds : List Deferred

def St (c : Cx) (l : TL) (H : List Asrt) (a : Act) (w : World) : Prop := TRel c.n l a ∧ a.defers = c.ds ∧ Sat c.w0 c.own H w

/-- In whatever state that l and H tell, G. -/
structure J (c : Cx) (l : TL) (H : List Asrt) (G : Act → World → Prop) : Prop where
  out : ∀ a w, St c l H a w → G a w
instance {c l H G} : CoeFun (J c l H G) (fun _ => ∀ a w, St c l H a w → G a w) := ⟨J.out⟩

theorem J.weaken {c l l' H H' G} (h : ∀ a w, St c l H a w → St c l' H' a w) (K : J c l' H' G) : J c l H G := J.mk fun a w s => K a w (h a w s)

/-- Slots that are not wanted any more are forgotten; what stays is told anew. -/
def sub (l l' : TL) : Prop := ∀ d v, TL.get l' d = some v → TL.get l d = some v
theorem sub.nil (l : TL) : sub l [] := fun d v h => by simp [TL.get] at h
theorem sub.cons {l l' : TL} {d : Nat} {v : Value} (h : TL.get l d = some v) (hs : sub l l') : sub l ((d, v) :: l') := fun t u hu => by
  simp only [TL.get] at hu
  cases hq : Nat.beq d t with
  | true =>
    rw [hq] at hu
    simp only [cond_true, Option.some.injEq] at hu
    have := Nat.eq_of_beq_eq_true hq
    subst this; subst hu
    exact h
  | false =>
    rw [hq] at hu
    exact hs t u hu
theorem St.sub {c l l' H a w} (s : St c l H a w) (h : Eng.sub l l') : St c l' H a w := ⟨⟨s.1.size, fun d v hd => s.1.get d v (h d v hd)⟩, s.2.1, s.2.2⟩
theorem J.sub {c l l' H G} (h : Eng.sub l l') (K : J c l' H G) : J c l H G := K.weaken fun _ _ s => s.sub h
theorem St.perm {c l H H' a w} (s : St c l H a w) (p : H.Perm H') : St c l H' a w := ⟨s.1, s.2.1, s.2.2.perm p⟩
theorem J.perm {c l H H' G} (p : H.Perm H') (K : J c l H' G) : J c l H G := K.weaken fun _ _ s => s.perm p
theorem J.drop {c l A H G} (K : J c l H G) : J c l (A :: H) G := K.weaken fun _ _ s => ⟨s.1, s.2.1, s.2.2.drop⟩

/-- A slot's value told anew. -/
theorem J.norm {c l H G d v v'} (e : v = v') (K : J c ((d, v') :: l) H G) : J c ((d, v) :: l) H G := e ▸ K
theorem J.normI {c l H G d k x z} (e : x = z) (K : J c ((d, .int k z) :: l) H G) : J c ((d, .int k x) :: l) H G := e ▸ K

/-! ### Where an assertion lies -/
inductive In (A : Asrt) : List Asrt → Prop
  | here {R} : In A (A :: R)
  | there {B R} : In A R → In A (B :: R)
theorem In.mem {A H} (h : In A H) : A ∈ H := by
  induction h with
  | here => exact List.mem_cons_self ..
  | there _ ih => exact List.mem_cons_of_mem _ ih

inductive Upd (A A' : Asrt) : List Asrt → List Asrt → Prop
  | here {R} : Upd A A' (A :: R) (A' :: R)
  | there {B R R'} : Upd A A' R R' → Upd A A' (B :: R) (B :: R')
theorem Upd.perm {A A' H H'} (h : Upd A A' H H') : ∃ R, H.Perm (A :: R) ∧ (A' :: R).Perm H' := by
  induction h with
  | here => exact ⟨_, .refl _, .refl _⟩
  | @there B R R' _ ih =>
    obtain ⟨S, h1, h2⟩ := ih
    exact ⟨B :: S, (h1.cons B).trans (.swap _ _ _), (List.Perm.swap B A' S).trans (h2.cons B)⟩

/-- One assertion is taken out. -/
inductive Out (A : Asrt) : List Asrt → List Asrt → Prop
  | here {R} : Out A (A :: R) R
  | there {B R R'} : Out A R R' → Out A (B :: R) (B :: R')
theorem Out.perm {A H R} (h : Out A H R) : H.Perm (A :: R) := by
  induction h with
  | here => exact .refl _
  | @there B R R' _ ih => exact (ih.cons B).trans (.swap _ _ _)
/-- Several are taken out, one behind the other. -/
inductive Outs : List Asrt → List Asrt → List Asrt → Prop
  | nil {H} : Outs [] H H
  | cons {A As H R R'} : Out A H R → Outs As R R' → Outs (A :: As) H R'
theorem Outs.perm {As H R} (h : Outs As H R) : H.Perm (As ++ R) := by
  induction h with
  | nil => exact .refl _
  | cons h1 _ ih => exact h1.perm.trans (ih.cons _)

/-! ### Code -/
section
variable {P : Program} {c : Cx} {l : TL} {H : List Asrt} {Q : Exit → Act → World → Prop}

theorem J.seq {x y : Code} (K : J c l H (x.wp P (Exit.then (y.wp P Q) Q))) : J c l H ((Code.seq x y).wp P Q) := J.mk fun a w s => wp_seq (K a w s)
theorem J.skip (K : J c l H (Q .normal)) : J c l H (Code.skip.wp P Q) := J.mk fun a w s => wp_skip (K a w s)
theorem J.block {id : Nat} {x : Code} (K : J c l H (x.wp P (Exit.inBlock id Q))) : J c l H ((Code.block id x).wp P Q) := J.mk fun a w s => wp_block (K a w s)
theorem J.exit {id : Nat} (K : J c l H (Q (.exit id))) : J c l H ((Code.exit id).wp P Q) := J.mk fun a w s => wp_exit (K a w s)
theorem J.cret (K : J c l H (Q .ret)) : J c l H (Code.ret.wp P Q) := J.mk fun a w s => wp_ret (K a w s)
theorem J.cond_true {x : Operand} {y z : Code} (hx : ev l x = some (.bool true)) (K : J c l H (y.wp P Q)) : J c l H ((Code.cond x y z).wp P Q) := J.mk fun a w s => wp_cond_true (s.1.ev hx) (K a w s)
theorem J.cond_false {x : Operand} {y z : Code} (hx : ev l x = some (.bool false)) (K : J c l H (z.wp P Q)) : J c l H ((Code.cond x y z).wp P Q) := J.mk fun a w s => wp_cond_false (s.1.ev hx) (K a w s)
theorem J.cond {x : Nat} {y z : Code} {t : Bool} (hx : TL.get l x = some (.bool t)) (K1 : t = true → J c ((x, .bool true) :: l) H (y.wp P Q)) (K2 : t = false → J c ((x, .bool false) :: l) H (z.wp P Q)) : J c l H ((Code.cond (.tmp x) y z).wp P Q) := J.mk fun a w s => by
  have hev : ev l (.tmp x) = some (.bool t) := hx
  cases t with
  | true => exact wp_cond_true (s.1.ev hev) (K1 rfl a w (s.sub (sub.cons hx fun _ _ h => h)))
  | false => exact wp_cond_false (s.1.ev hev) (K2 rfl a w (s.sub (sub.cons hx fun _ _ h => h)))

theorem J.then_ {nx : Act → World → Prop} (K : J c l H nx) : J c l H (Exit.then nx Q .normal) := K
theorem J.then_ret {nx : Act → World → Prop} (K : J c l H (Q .ret)) : J c l H (Exit.then nx Q .ret) := K
theorem J.then_exit {nx : Act → World → Prop} {id : Nat} (K : J c l H (Q (.exit id))) : J c l H (Exit.then nx Q (.exit id)) := K
theorem J.then_panic {nx : Act → World → Prop} {ch : List PanicEntry} (K : J c l H (Q (.panic ch))) : J c l H (Exit.then nx Q (.panic ch)) := K
theorem J.blk_ {id : Nat} (K : J c l H (Q .normal)) : J c l H (Exit.inBlock id Q .normal) := K
theorem J.blk_ret {id : Nat} (K : J c l H (Q .ret)) : J c l H (Exit.inBlock id Q .ret) := K
theorem J.blk_panic {id : Nat} {ch : List PanicEntry} (K : J c l H (Q (.panic ch))) : J c l H (Exit.inBlock id Q (.panic ch)) := K
theorem J.blk_exit {id : Nat} (K : J c l H (Q .normal)) : J c l H (Exit.inBlock id Q (.exit id)) := J.mk fun a w s => by
  show (if id = id then _ else _)
  rw [if_pos rfl]
  exact K a w s
theorem J.blk_past {id id' : Nat} (hn : Nat.beq id' id = false) (K : J c l H (Q (.exit id'))) : J c l H (Exit.inBlock id Q (.exit id')) := J.mk fun a w s => by
  show (if id' = id then _ else _)
  rw [if_neg (fun e => by subst e; rw [Nat.beq_refl] at hn; cases hn)]
  exact K a w s

/-! ### Loops -/
theorem wp_loopR {x : Code} (I : Nat → Act → World → Prop) (round : ∀ n a w, I n a w → x.wp P (Exit.then (fun a' w' => ∃ m, m < n ∧ I m a' w') Q) a w) {n : Nat} {a : Act} {w : World} (h0 : I n a w) : (Code.loop x).wp P Q a w := by
  intro b k cs
  have key : ∀ n a w, I n a w → ∃ e a' w', Q e a' w' ∧ Arrives P (lone (b.at a (.code x :: .inLoop x :: k)) cs w) b k cs e a' w' := by
    intro n
    induction n using Nat.strongRecOn with
    | _ n ih =>
      intro a w hI
      obtain ⟨e, a1, w1, hq, harr⟩ := round n a w hI b (.inLoop x :: k) cs
      cases e with
      | normal =>
        obtain ⟨m, hm, hI1⟩ := hq
        obtain ⟨e2, a2, w2, hq2, harr2⟩ := ih m hm a1 w1 hI1
        exact ⟨e2, a2, w2, hq2, .of_steps (Steps.trans harr (.one step_inLoop)) harr2⟩
      | exit id => exact ⟨_, a1, w1, hq, .pass (x := .inLoop x) rfl (fun _ _ => .inl (by simp)) harr⟩
      | goto l => exact ⟨_, a1, w1, hq, .pass (x := .inLoop x) rfl (fun _ _ => .inl (by simp)) harr⟩
      | ret => exact ⟨_, a1, w1, hq, .pass (x := .inLoop x) rfl (fun _ _ => .inl (by simp)) harr⟩
      | panic ch => exact ⟨_, a1, w1, hq, .pass (x := .inLoop x) rfl (fun _ _ => .inl (by simp)) harr⟩
      | outgrown => exact ⟨_, a1, w1, hq, .pass (x := .inLoop x) rfl (fun _ _ => .inl (by simp)) harr⟩
  obtain ⟨e, a', w', hq, harr⟩ := key _ a w h0
  exact ⟨e, a', w', hq, .of_steps (.one step_loop) harr⟩

/-- A loop by what holds at its head: a state for each s, and a measure. -/
theorem J.loop {σ : Type} {x : Code} (L : σ → TL) (HH : σ → List Asrt) (m : σ → Nat) (s0 : σ) (h0 : ∀ a w, St c l H a w → St c (L s0) (HH s0) a w)
    (round : ∀ s, J c (L s) (HH s) (x.wp P (Exit.then (fun a w => ∃ s', m s' < m s ∧ St c (L s') (HH s') a w) Q))) : J c l H ((Code.loop x).wp P Q) := J.mk fun a w s =>
  wp_loopR (fun n a w => ∃ s, m s = n ∧ St c (L s) (HH s) a w) (fun n a w ⟨s, hm, hs⟩ => Code.wp_mono (fun e a' w' q => by
    cases e with
    | normal =>
      obtain ⟨s', h1, h2⟩ := q
      exact ⟨m s', hm ▸ h1, s', rfl, h2⟩
    | _ => exact q) (round s a w hs)) ⟨s0, rfl, h0 a w s⟩

theorem J.again {σ : Type} {L : σ → TL} {HH : σ → List Asrt} {m : σ → Nat} {s : σ} (s' : σ) (hm : m s' < m s) (h : ∀ a w, St c l H a w → St c (L s') (HH s') a w) :
    J c l H (fun a w => ∃ s', m s' < m s ∧ St c (L s') (HH s') a w) := J.mk fun a w hs => ⟨s', hm, h a w hs⟩

/-- A loop by its rounds, one after the other. -/
def rnds (P : Program) (x : Code) (Q : Exit → Act → World → Prop) : Nat → Act → World → Prop
  | 0 => fun _ _ => False
  | k + 1 => x.wp P (Exit.then (rnds P x Q k) Q)
theorem wp_rnds {x : Code} {k : Nat} {a : Act} {w : World} (h : rnds P x Q k a w) : (Code.loop x).wp P Q a w :=
  wp_loopR (fun n a w => rnds P x Q n a w) (fun n a w hn => by
    cases n with
    | zero => exact hn.elim
    | succ n => exact Code.wp_mono (fun e a' w' q => by cases e <;> first | exact ⟨n, Nat.lt_succ_self n, q⟩ | exact q) hn) h
theorem J.rounds {x : Code} (k : Nat) (K : J c l H (rnds P x Q k)) : J c l H ((Code.loop x).wp P Q) := J.mk fun a w s => wp_rnds (K a w s)
theorem J.round {x : Code} {k : Nat} (K : J c l H (x.wp P (Exit.then (rnds P x Q k) Q))) : J c l H (rnds P x Q (k + 1)) := K

/-! ### Regions in the text's order -/
theorem J.region {id : Nat} {ops : Array Oper} (K : J c l H (wpList P ops Q ops.toList)) : J c l H ((Code.region id ops false).wp P Q) := J.mk fun a w s => wp_region_list (K a w s)
theorem J.region_lit {id : Nat} {os : List Oper} (K : J c l H (wpList P os.toArray Q os)) : J c l H ((Code.region id os.toArray false).wp P Q) := J.mk fun a w s => wp_region_lit (K a w s)
theorem J.ops_nil {ops : Array Oper} (K : J c l H (Q .normal)) : J c l H (wpList P ops Q []) := K

variable {ops : Array Oper} {rest : List Oper} {op : Op} {ty : TypeId} {pos : String} {af : Array Edge} {d : Nat} {v : Value} {dst : Option Tmp}

/-- Is it this truth. -/
def isB (u : Value) (b : Bool) : Bool := match u with
  | .bool b' => b' == b
  | _ => false
theorem wanted_off {j dj : Nat} {b : Bool} {u : Value} {a : Act} {n : Nat} (r : TRel n l a) (hj : (ops[j]?).bind (·.dst) = some dj) (hb : TL.get l dj = some u) (hne : isB u b = false) : Region.wanted ⟨dst, op, ty, pos, af, some (j, b)⟩ (yielded ops a.tmps) = false := by
  have h1 := r.get _ _ hb
  cases u <;> simp [Region.wanted, yielded, hj, h1]
  simpa [isB] using hne
theorem J.guard_on {j dj : Nat} {b : Bool} (hj : (ops[j]?).bind (·.dst) = some dj) (hb : TL.get l dj = some (.bool b)) (K : J c l H (wpList P ops Q (⟨dst, op, ty, pos, af, none⟩ :: rest))) :
    J c l H (wpList P ops Q (⟨dst, op, ty, pos, af, some (j, b)⟩ :: rest)) := J.mk fun a w s => by
  have h1 := s.1.get _ _ hb
  have hw : Region.wanted ⟨dst, op, ty, pos, af, some (j, b)⟩ (yielded ops a.tmps) = true := by simp [Region.wanted, yielded, hj, h1]
  have hk := K a w s
  unfold wpList at hk ⊢
  rw [if_pos hw]
  rw [if_pos (by simp [Region.wanted])] at hk
  exact hk
theorem J.guard_off {j dj : Nat} {b : Bool} {u : Value} (hj : (ops[j]?).bind (·.dst) = some dj) (hb : TL.get l dj = some u) (hne : isB u b = false) (hd : Nat.blt d c.n = true)
    (K : J c ((d, undef) :: l) H (wpList P ops Q rest)) : J c l H (wpList P ops Q (⟨some d, op, ty, pos, af, some (j, b)⟩ :: rest)) := J.mk fun a w s => by
  unfold wpList
  rw [if_neg (by rw [wanted_off s.1 hj hb hne]; simp)]
  exact K _ _ ⟨s.1.put hd, s.2.1, s.2.2⟩
theorem J.guard_off_none {j dj : Nat} {b : Bool} {u : Value} (hj : (ops[j]?).bind (·.dst) = some dj) (hb : TL.get l dj = some u) (hne : isB u b = false)
    (K : J c l H (wpList P ops Q rest)) : J c l H (wpList P ops Q (⟨none, op, ty, pos, af, some (j, b)⟩ :: rest)) := J.mk fun a w s => by
  unfold wpList
  rw [if_neg (by rw [wanted_off s.1 hj hb hne]; simp)]
  exact K _ _ ⟨s.1.put_none, s.2.1, s.2.2⟩
theorem J.app_cons {o : Oper} {xs ys : List Oper} (K : J c l H (wpList P ops Q (o :: List.append xs ys))) : J c l H (wpList P ops Q (List.append (o :: xs) ys)) := K
theorem J.app_nil {ys : List Oper} (K : J c l H (wpList P ops Q ys)) : J c l H (wpList P ops Q (List.append [] ys)) := K

/-- A truth that is not known: both ways. -/
theorem J.split {G : Act → World → Prop} (x : Nat) {t : Bool} (hx : TL.get l x = some (.bool t)) (K1 : t = true → J c ((x, .bool true) :: l) H G) (K2 : t = false → J c ((x, .bool false) :: l) H G) : J c l H G := J.mk fun a w s => by
  cases t with
  | true => exact K1 rfl a w (s.sub (sub.cons hx fun _ _ h => h))
  | false => exact K2 rfl a w (s.sub (sub.cons hx fun _ _ h => h))

theorem J.gsplit {j dj : Nat} {b t : Bool} (hj : (ops[j]?).bind (·.dst) = some dj) (hb : TL.get l dj = some (.bool t))
    (K1 : t = true → J c ((dj, .bool true) :: l) H (wpList P ops Q (⟨dst, op, ty, pos, af, some (j, b)⟩ :: rest))) (K2 : t = false → J c ((dj, .bool false) :: l) H (wpList P ops Q (⟨dst, op, ty, pos, af, some (j, b)⟩ :: rest))) :
    J c l H (wpList P ops Q (⟨dst, op, ty, pos, af, some (j, b)⟩ :: rest)) := J.split dj hb K1 K2

/-- An operation that leaves v, whatever the world. -/
def Qv (P : Program) (n : Nat) (l : TL) (op : Op) (v : Value) : Prop := ∀ a w dst ty pos af, TRel n l a → (execOp a.eval ⟨dst, op, ty, pos, af, none⟩).run P w = .ok (.value v) w
/-- An operation that leaves v, and the world as it is. -/
def Qr (P : Program) (c : Cx) (l : TL) (H : List Asrt) (op : Op) (v : Value) : Prop := ∀ a w dst ty pos af, St c l H a w → (execOp a.eval ⟨dst, op, ty, pos, af, none⟩).run P w = .ok (.value v) w
/-- An operation, and then X. -/
def OW (P : Program) (Q : Exit → Act → World → Prop) (o : Oper) (X : Act → World → Prop) : Act → World → Prop := fun a w => o.wp P a w X Q

theorem J.q0 (hd : Nat.blt d c.n = true) (hv : Qv P c.n l op v) (K : J c ((d, v) :: l) H (wpList P ops Q rest)) : J c l H (wpList P ops Q (⟨some d, op, ty, pos, af, none⟩ :: rest)) := J.mk fun a w s => by
  unfold wpList
  rw [if_pos (by simp [Region.wanted])]
  refine .inl ?_
  unfold Oper.wp
  rw [hv a w _ _ _ _ s.1]
  exact K _ _ ⟨s.1.put hd, s.2.1, s.2.2⟩
theorem J.q1 (hd : Nat.blt d c.n = true) (hv : Qr P c l H op v) (K : J c ((d, v) :: l) H (wpList P ops Q rest)) : J c l H (wpList P ops Q (⟨some d, op, ty, pos, af, none⟩ :: rest)) := J.mk fun a w s => by
  unfold wpList
  rw [if_pos (by simp [Region.wanted])]
  refine .inl ?_
  unfold Oper.wp
  rw [hv a w _ _ _ _ s]
  exact K _ _ ⟨s.1.put hd, s.2.1, s.2.2⟩
theorem J.list (K : J c l H (OW P Q ⟨dst, op, ty, pos, af, none⟩ (wpList P ops Q rest))) : J c l H (wpList P ops Q (⟨dst, op, ty, pos, af, none⟩ :: rest)) := J.mk fun a w s => by
  unfold wpList
  rw [if_pos (by simp [Region.wanted])]
  exact .inl (K a w s)
/-- An operation that turns the world. -/
theorem J.opv {X : Act → World → Prop} (hv : ∀ a w, St c l H a w → ∃ v w', (execOp a.eval ⟨dst, op, ty, pos, af, none⟩).run P w = .ok (.value v) w' ∧ X (a.put dst v) w') : J c l H (OW P Q ⟨dst, op, ty, pos, af, none⟩ X) := J.mk fun a w s => by
  unfold OW Oper.wp
  obtain ⟨v, w', h1, h2⟩ := hv a w s
  rw [h1]
  exact h2
theorem J.opu {X : Act → World → Prop} (hv : ∀ a w, St c l H a w → ∃ w', (execOp a.eval ⟨dst, op, ty, pos, af, none⟩).run P w = .ok .skip w' ∧ X (a.put dst undef) w') : J c l H (OW P Q ⟨dst, op, ty, pos, af, none⟩ X) := J.mk fun a w s => by
  unfold OW Oper.wp
  obtain ⟨w', h1, h2⟩ := hv a w s
  rw [h1]
  exact h2
end
end Go.Proofs.Ytnbckkpflmpnlaa.Eng
