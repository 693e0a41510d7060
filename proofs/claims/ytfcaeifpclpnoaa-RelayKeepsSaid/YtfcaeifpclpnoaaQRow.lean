/-
  The engine, part 7: rows that grow by append; slices; the builtins. No conditions.
-/
import Derived.WalkKit
import Derived.Below
import Derived.Laws.CopyRow
import Derived.OrdersHeld
import Derived.DeepKeys
import Derived.Laws.AppendOwn
namespace Go.Proofs.Ytfcaeifpclpnoaa.Eng
open Go Go.RowKit
set_option linter.unusedVariables false

/-! ### Assertions -/
abbrev Hp := Nat → Option Obj
def hp (w : World) : Hp := fun i => w.heap[i]?

/-- What is said of the blocks that a footprint names, and of no others. -/
structure Asrt where
  holds : Hp → List Nat → Prop
  loc : ∀ (h h' : Hp) (fp : List Nat), (∀ i, i ∈ fp → h' i = h i) → holds h fp → holds h' fp

def Holds (h : Hp) : List Asrt → List Nat → Prop
  | [], fp => fp = []
  | A :: H, fp => ∃ f g, fp = f ++ g ∧ A.holds h f ∧ Holds h H g

theorem Holds.loc {h h' : Hp} : ∀ {H : List Asrt} {fp : List Nat}, (∀ i, i ∈ fp → h' i = h i) → Holds h H fp → Holds h' H fp
  | [], _, _, hh => hh
  | A :: H, _, he, hh => by
    obtain ⟨f, g, rfl, ha, hg⟩ := hh
    exact ⟨f, g, rfl, A.loc _ _ _ (fun i hi => he i (List.mem_append_left _ hi)) ha, Holds.loc (fun i hi => he i (List.mem_append_right _ hi)) hg⟩

theorem Holds.perm {h : Hp} {H H' : List Asrt} (p : H.Perm H') : ∀ {fp : List Nat}, Holds h H fp → ∃ fp', fp.Perm fp' ∧ Holds h H' fp' := by
  induction p with
  | nil => exact fun {fp} hh => ⟨fp, .refl _, hh⟩
  | cons A _ ih =>
    rintro fp ⟨f, g, rfl, ha, hg⟩
    obtain ⟨g', hp, hg'⟩ := ih hg
    exact ⟨f ++ g', hp.append_left f, f, g', rfl, ha, hg'⟩
  | swap A B H =>
    rintro fp ⟨f, g, rfl, ha, f', g', rfl, hb, hg⟩
    refine ⟨f' ++ (f ++ g'), ?_, f', f ++ g', rfl, hb, f, g', rfl, ha, hg⟩
    rw [← List.append_assoc, ← List.append_assoc]
    exact (List.perm_append_comm).append_right g'
  | trans _ _ ih1 ih2 =>
    intro fp hh
    obtain ⟨f1, p1, h1⟩ := ih1 hh
    obtain ⟨f2, p2, h2⟩ := ih2 h1
    exact ⟨f2, p1.trans p2, h2⟩

theorem Holds.append {h : Hp} : ∀ {H H' : List Asrt} {f g : List Nat}, Holds h H f → Holds h H' g → Holds h (H ++ H') (f ++ g)
  | [], _, _, _, hf, hg => by cases hf; exact hg
  | A :: H, _, _, _, ⟨f, g, e, ha, hh⟩, hg => by
    subst e
    rw [List.append_assoc]
    exact ⟨f, g ++ _, rfl, ha, Holds.append hh hg⟩

theorem Holds.split {h : Hp} : ∀ {H H' : List Asrt} {fp : List Nat}, Holds h (H ++ H') fp → ∃ f g, fp = f ++ g ∧ Holds h H f ∧ Holds h H' g
  | [], _, fp, hh => ⟨[], fp, rfl, rfl, hh⟩
  | A :: H, _, _, ⟨f, g, e, ha, hh⟩ => by
    subst e
    obtain ⟨f', g', e', h1, h2⟩ := Holds.split hh
    subst e'
    exact ⟨f ++ f', g', by rw [List.append_assoc], ⟨f, f', rfl, ha, h1⟩, h2⟩

/-! ### Worlds -/
/-- What may have turned since w0: nothing that stood there, but what is owned. -/
structure Fr (w0 : World) (own : List Nat) (w : World) : Prop where
  os : w.os = w0.os
  tape : w.tape = w0.tape
  output : w.output = w0.output
  size : w0.heap.size ≤ w.heap.size
  same : ∀ i, i < w0.heap.size → i ∉ own → w.heap[i]? = w0.heap[i]?

theorem Fr.refl (w : World) (own : List Nat) : Fr w own w := ⟨rfl, rfl, rfl, Nat.le_refl _, fun _ _ _ => rfl⟩

def Sat (w0 : World) (own : List Nat) (H : List Asrt) (w : World) : Prop :=
  ∃ fp, Holds (hp w) H fp ∧ fp.Nodup ∧ (∀ i, i ∈ fp → i < w.heap.size ∧ (i < w0.heap.size → i ∈ own)) ∧ Fr w0 own w

theorem Sat.fr {w0 w own H} (h : Sat w0 own H w) : Fr w0 own w := h.choose_spec.2.2.2

theorem Sat.perm {w0 w own H H'} (p : H.Perm H') (h : Sat w0 own H w) : Sat w0 own H' w := by
  obtain ⟨fp, hh, hn, hi, hf⟩ := h
  obtain ⟨fp', p', hh'⟩ := hh.perm p
  exact ⟨fp', hh', p'.nodup_iff.1 hn, fun i hi' => hi i (p'.mem_iff.2 hi'), hf⟩

theorem Sat.drop {w0 w own A H} (h : Sat w0 own (A :: H) w) : Sat w0 own H w := by
  obtain ⟨fp, ⟨f, g, rfl, ha, hg⟩, hn, hi, hf⟩ := h
  exact ⟨g, hg, (List.nodup_append.1 hn).2.1, fun i hi' => hi i (List.mem_append_right _ hi'), hf⟩

theorem Sat.drops {w0 w own} : ∀ {H' H : List Asrt}, Sat w0 own (H' ++ H) w → Sat w0 own H w
  | [], _, h => h
  | _ :: H', _, h => Sat.drops (H' := H') h.drop

/-- Another world with the same blocks. -/
theorem Sat.same {w0 w w' own H} (h : Sat w0 own H w) (h1 : w'.heap = w.heap) (h2 : w'.os = w.os) (h3 : w'.tape = w.tape) (h4 : w'.output = w.output) : Sat w0 own H w' := by
  obtain ⟨fp, hh, hn, hi, hf⟩ := h
  have he : hp w' = hp w := by funext i; simp [hp, h1]
  exact ⟨fp, he ▸ hh, hn, fun i hi' => by rw [h1]; exact hi i hi', ⟨h2.trans hf.os, h3.trans hf.tape, h4.trans hf.output, by rw [h1]; exact hf.size, fun i hi' ho => by rw [h1]; exact hf.same i hi' ho⟩⟩

theorem Sat.drew {w0 w own H} (h : Sat w0 own H w) : Sat w0 own H { w with drawn := w.drawn + 1 } := h.same rfl rfl rfl rfl

theorem Sat.mem {w0 w own A H} (h : Sat w0 own H w) (hm : A ∈ H) : ∃ fp, A.holds (hp w) fp ∧ fp.Nodup ∧ ∀ i, i ∈ fp → i < w.heap.size ∧ (i < w0.heap.size → i ∈ own) := by
  obtain ⟨s, t, rfl⟩ := List.append_of_mem hm
  have p : (s ++ A :: t).Perm (A :: (s ++ t)) := List.perm_middle
  obtain ⟨fp, ⟨f, g, rfl, ha, hg⟩, hn, hi, hf⟩ := h.perm p
  exact ⟨f, ha, (List.nodup_append.1 hn).1, fun i hi' => hi i (List.mem_append_left _ hi')⟩

/-- A new block. -/
theorem Sat.new {w0 w own H} (h : Sat w0 own H w) (o : Obj) (A : Asrt) (hA : ∀ h' : Hp, h' w.heap.size = some o → A.holds h' [w.heap.size]) : Sat w0 own (A :: H) (w.alloc o) := by
  obtain ⟨fp, hh, hn, hi, hf⟩ := h
  have hold : ∀ i, i < w.heap.size → (w.alloc o).heap[i]? = w.heap[i]? := fun i hi => Below.heap_alloc w o i hi
  have hnew : (w.alloc o).heap[w.heap.size]? = some o := by show (w.heap.push o)[w.heap.size]? = _; simp
  have hsz : (w.alloc o).heap.size = w.heap.size + 1 := by show (w.heap.push o).size = _; simp
  refine ⟨w.heap.size :: fp, ⟨[w.heap.size], fp, rfl, hA _ hnew, hh.loc fun i hi' => hold i (hi i hi').1⟩, ?_, ?_, ?_⟩
  · refine List.nodup_cons.2 ⟨fun hc => ?_, hn⟩
    exact absurd (hi _ hc).1 (Nat.lt_irrefl _)
  · intro i hi'
    rcases List.mem_cons.1 hi' with rfl | hi'
    · exact ⟨by omega, fun hc => absurd hf.size (by omega)⟩
    · exact ⟨by have := (hi i hi').1; omega, (hi i hi').2⟩
  · exact ⟨hf.os, hf.tape, hf.output, by have := hf.size; omega, fun i hi' ho => (hold i (by have := hf.size; omega)).trans (hf.same i hi' ho)⟩

/-- One assertion is made another one, by a turn of its own blocks. -/
theorem Sat.turn {w0 w w' own A A' H} (h : Sat w0 own (A :: H) w) (h2 : w'.os = w.os) (h3 : w'.tape = w.tape) (h4 : w'.output = w.output) (h1 : w'.heap.size = w.heap.size)
    (hA : ∀ fp, A.holds (hp w) fp → A'.holds (hp w') fp ∧ ∀ i, i ∉ fp → w'.heap[i]? = w.heap[i]?) : Sat w0 own (A' :: H) w' := by
  obtain ⟨fp, ⟨f, g, rfl, ha, hg⟩, hn, hi, hf⟩ := h
  obtain ⟨ha', hs⟩ := hA f ha
  have hd := (List.nodup_append.1 hn).2.2
  refine ⟨f ++ g, ⟨f, g, rfl, ha', hg.loc fun i hi' => hs i fun hc => hd i hc i hi' rfl⟩, hn, fun i hi' => by rw [h1]; exact hi i hi', ?_⟩
  refine ⟨h2.trans hf.os, h3.trans hf.tape, h4.trans hf.output, by rw [h1]; exact hf.size, fun i hi' ho => (hs i fun hc => ho ((hi i (List.mem_append_left _ hc)).2 hi')).trans (hf.same i hi' ho)⟩

/-- A call: its own assertions are handed over, and come back otherwise; the rest stays. -/
theorem Sat.call {w0 w w' own H2 H3} {f g : List Nat} (hn : (f ++ g).Nodup) (hi : ∀ i, i ∈ f ++ g → i < w.heap.size ∧ (i < w0.heap.size → i ∈ own)) (hf : Fr w0 own w)
    (hg : Holds (hp w) H2 g) (h3 : Sat w f H3 w') : Sat w0 own (H3 ++ H2) w' := by
  obtain ⟨fp, hh, hn', hi', hf'⟩ := h3
  have hd := (List.nodup_append.1 hn).2.2
  have hgi : ∀ i, i ∈ g → w'.heap[i]? = w.heap[i]? := fun i hig => hf'.same i (hi i (List.mem_append_right _ hig)).1 fun hc => hd i hc i hig rfl
  refine ⟨fp ++ g, hh.append (hg.loc fun i hig => hgi i hig), ?_, ?_, ?_⟩
  · refine List.nodup_append.2 ⟨hn', (List.nodup_append.1 hn).2.1, fun i hip j hjg e => ?_⟩
    subst e
    exact hd i ((hi' i hip).2 (hi i (List.mem_append_right _ hjg)).1) i hjg rfl
  · intro i hm
    rcases List.mem_append.1 hm with hm | hm
    · refine ⟨(hi' i hm).1, fun h0 => ?_⟩
      have h1 := (hi' i hm).2 (Nat.lt_of_lt_of_le h0 hf.size)
      exact (hi i (List.mem_append_left _ h1)).2 h0
    · have h1 := hi i (List.mem_append_right _ hm)
      exact ⟨Nat.lt_of_lt_of_le h1.1 hf'.size, h1.2⟩
  · refine ⟨hf'.os.trans hf.os, hf'.tape.trans hf.tape, hf'.output.trans hf.output, Nat.le_trans hf.size hf'.size, fun i h0 ho => ?_⟩
    refine (hf'.same i (Nat.lt_of_lt_of_le h0 hf.size) fun hc => ho ?_).trans (hf.same i h0 ho)
    exact (hi i (List.mem_append_left _ hc)).2 h0

/-! ### Blocks of cells -/
/-- Block b is a row of the cells C. -/
def blk (b : Nat) (C : List Value) (T : TypeId) : Asrt where
  holds h fp := fp = [b] ∧ h b = some (.cells C.toArray T (0, 0))
  loc h h' fp he := by
    rintro ⟨rfl, hb⟩
    exact ⟨rfl, (he b (by simp)).trans hb⟩

theorem Sat.blk {w0 w own H b C T} (h : Sat w0 own H w) (hm : blk b C T ∈ H) : w.heap[b]? = some (.cells C.toArray T (0, 0)) ∧ b < w.heap.size := by
  obtain ⟨fp, ⟨rfl, hb⟩, _, hi⟩ := h.mem hm
  exact ⟨hb, (hi b (by simp)).1⟩

theorem Sat.cell {w0 w own H b C T} (h : Sat w0 own H w) (hm : Eng.blk b C T ∈ H) {j : Nat} {v : Value} (hj : C[j]? = some v) : w.cell? ⟨b, j, none⟩ = some v := by
  have hb := (h.blk hm).1
  simp [World.cell?, hb, hj]

/-- Block b is turned. -/
theorem Sat.put {w0 w own H b C T} (h : Sat w0 own (Eng.blk b C T :: H) w) (C' : List Value) : Sat w0 own (Eng.blk b C' T :: H) (w.setRow b C'.toArray) := by
  have hb := (h.blk (List.mem_cons_self ..)).1
  refine h.turn ?_ ?_ ?_ ?_ ?_
  · rfl
  · rfl
  · rfl
  · simp [World.setRow]
  · rintro fp ⟨rfl, _⟩
    refine ⟨⟨rfl, ?_⟩, fun i hi => ?_⟩
    · exact setRow_heap w b _ _ _ _ hb
    · simp only [List.mem_singleton] at hi
      simp only [World.setRow, Array.getElem?_modify]
      rw [if_neg (fun e => hi e.symm)]
end Go.Proofs.Ytfcaeifpclpnoaa.Eng
namespace Go.Proofs.Ytfcaeifpclpnoaa.Eng
open Go Go.RowKit
set_option linter.unusedVariables false

/-! ### Temporaries -/
abbrev TL := List (Nat × Value)
def TL.get : TL → Nat → Option Value
  | [], _ => none
  | (d, v) :: l, t => bif Nat.beq d t then some v else TL.get l t

structure TRel (n : Nat) (l : TL) (a : Act) : Prop where
  size : a.tmps.size = n
  get : ∀ d v, TL.get l d = some v → a.tmps[d]? = some v

theorem TRel.put {n l a d v} (h : TRel n l a) (hd : Nat.blt d n = true) : TRel n ((d, v) :: l) (a.put (some d) v) := by
  have hd' : d < n := by simp [Nat.blt] at hd; omega
  refine ⟨by simp [Act.put, h.size], fun t u hu => ?_⟩
  simp only [TL.get] at hu
  by_cases e : d = t
  · subst e
    have hb : Nat.beq d d = true := Nat.beq_refl d
    rw [hb] at hu
    simp only [cond_true, Option.some.injEq] at hu
    subst hu
    simp [Act.put, h.size, hd']
  · have hb : Nat.beq d t = false := by
      cases hq : Nat.beq d t
      · rfl
      · exact absurd (Nat.eq_of_beq_eq_true hq) e
    rw [hb] at hu
    simp only [cond_false] at hu
    simp only [Act.put, Array.getElem?_setIfInBounds_ne e]
    exact h.get t u hu

theorem TRel.put_none {n l a v} (h : TRel n l a) : TRel n l (a.put none v) := h

def ev (l : TL) : Operand → Option Value
  | .tmp t => TL.get l t
  | .const v => some v
  | .global g => some (.pointer (some ⟨g, 0, none⟩))
  | .func f => some (.func (.func f) #[] #[])

theorem TRel.ev {n l a x v} (h : TRel n l a) (hx : Eng.ev l x = some v) : a.eval x = v := by
  cases x with
  | tmp t =>
    have := h.get t v hx
    simp [Act.eval, this]
  | const u => simpa [Eng.ev, Act.eval] using hx
  | global g => simpa [Eng.ev, Act.eval] using hx
  | func f => simpa [Eng.ev, Act.eval] using hx

def evs (l : TL) : List Operand → Option (List Value)
  | [] => some []
  | x :: xs => match ev l x, evs l xs with
    | some v, some vs => some (v :: vs)
    | _, _ => none

theorem TRel.evs {n l a} (h : TRel n l a) : ∀ {xs vs}, Eng.evs l xs = some vs → xs.map a.eval = vs
  | [], vs, hx => by simpa [Eng.evs] using hx
  | x :: xs, vs, hx => by
    simp only [Eng.evs] at hx
    cases h1 : Eng.ev l x with
    | none => simp [h1] at hx
    | some v =>
      cases h2 : Eng.evs l xs with
      | none => simp [h1, h2] at hx
      | some us =>
        simp only [h1, h2, Option.some.injEq] at hx
        subst hx
        simp [h.ev h1, TRel.evs h h2]

/-! ### States, and the judgement -/
structure Cx where
  w0 : World
  own : List Nat
  n : Nat
  ds : List Deferred

def St (c : Cx) (l : TL) (H : List Asrt) (a : Act) (w : World) : Prop := TRel c.n l a ∧ a.defers = c.ds ∧ Sat c.w0 c.own H w

/-- In whatever state that l and H tell, G. -/
structure J (c : Cx) (l : TL) (H : List Asrt) (G : Act → World → Prop) : Prop where
  out : ∀ a w, St c l H a w → G a w
instance {c l H G} : CoeFun (J c l H G) (fun _ => ∀ a w, St c l H a w → G a w) := ⟨J.out⟩

theorem J.weaken {c l l' H H' G} (h : ∀ a w, St c l H a w → St c l' H' a w) (K : J c l' H' G) : J c l H G := J.mk fun a w s => K a w (h a w s)

/-- Slots that are not wanted any more are forgotten; what stays is told anew. -/
def sub (l l' : TL) : Prop := ∀ d v, TL.get l' d = some v → TL.get l d = some v
theorem sub.nil (l : TL) : sub l [] := fun d v h => by simp [TL.get] at h
theorem sub.cons {l l' : TL} {d : Nat} {v : Value} (h : TL.get l d = some v) (hs : sub l l') : sub l ((d, v) :: l') := fun t u hu => by
  simp only [TL.get] at hu
  cases hq : Nat.beq d t with
  | true =>
    rw [hq] at hu
    simp only [cond_true, Option.some.injEq] at hu
    have := Nat.eq_of_beq_eq_true hq
    subst this; subst hu
    exact h
  | false =>
    rw [hq] at hu
    exact hs t u hu
theorem St.sub {c l l' H a w} (s : St c l H a w) (h : Eng.sub l l') : St c l' H a w := ⟨⟨s.1.size, fun d v hd => s.1.get d v (h d v hd)⟩, s.2.1, s.2.2⟩
theorem J.sub {c l l' H G} (h : Eng.sub l l') (K : J c l' H G) : J c l H G := K.weaken fun _ _ s => s.sub h
theorem St.perm {c l H H' a w} (s : St c l H a w) (p : H.Perm H') : St c l H' a w := ⟨s.1, s.2.1, s.2.2.perm p⟩
theorem J.perm {c l H H' G} (p : H.Perm H') (K : J c l H' G) : J c l H G := K.weaken fun _ _ s => s.perm p
theorem J.drop {c l A H G} (K : J c l H G) : J c l (A :: H) G := K.weaken fun _ _ s => ⟨s.1, s.2.1, s.2.2.drop⟩

/-- A slot's value told anew. -/
theorem J.norm {c l H G d v v'} (e : v = v') (K : J c ((d, v') :: l) H G) : J c ((d, v) :: l) H G := e ▸ K
theorem J.normI {c l H G d k x z} (e : x = z) (K : J c ((d, .int k z) :: l) H G) : J c ((d, .int k x) :: l) H G := e ▸ K

/-! ### Where an assertion lies -/
inductive In (A : Asrt) : List Asrt → Prop
  | here {R} : In A (A :: R)
  | there {B R} : In A R → In A (B :: R)
theorem In.mem {A H} (h : In A H) : A ∈ H := by
  induction h with
  | here => exact List.mem_cons_self ..
  | there _ ih => exact List.mem_cons_of_mem _ ih

inductive Upd (A A' : Asrt) : List Asrt → List Asrt → Prop
  | here {R} : Upd A A' (A :: R) (A' :: R)
  | there {B R R'} : Upd A A' R R' → Upd A A' (B :: R) (B :: R')
theorem Upd.perm {A A' H H'} (h : Upd A A' H H') : ∃ R, H.Perm (A :: R) ∧ (A' :: R).Perm H' := by
  induction h with
  | here => exact ⟨_, .refl _, .refl _⟩
  | @there B R R' _ ih =>
    obtain ⟨S, h1, h2⟩ := ih
    exact ⟨B :: S, (h1.cons B).trans (.swap _ _ _), (List.Perm.swap B A' S).trans (h2.cons B)⟩

/-- One assertion is taken out. -/
inductive Out (A : Asrt) : List Asrt → List Asrt → Prop
  | here {R} : Out A (A :: R) R
  | there {B R R'} : Out A R R' → Out A (B :: R) (B :: R')
theorem Out.perm {A H R} (h : Out A H R) : H.Perm (A :: R) := by
  induction h with
  | here => exact .refl _
  | @there B R R' _ ih => exact (ih.cons B).trans (.swap _ _ _)
/-- Several are taken out, one behind the other. -/
inductive Outs : List Asrt → List Asrt → List Asrt → Prop
  | nil {H} : Outs [] H H
  | cons {A As H R R'} : Out A H R → Outs As R R' → Outs (A :: As) H R'
theorem Outs.perm {As H R} (h : Outs As H R) : H.Perm (As ++ R) := by
  induction h with
  | nil => exact .refl _
  | cons h1 _ ih => exact h1.perm.trans (ih.cons _)

/-! ### Code -/
section
variable {P : Program} {c : Cx} {l : TL} {H : List Asrt} {Q : Exit → Act → World → Prop}

theorem J.seq {x y : Code} (K : J c l H (x.wp P (Exit.then (y.wp P Q) Q))) : J c l H ((Code.seq x y).wp P Q) := J.mk fun a w s => wp_seq (K a w s)
theorem J.skip (K : J c l H (Q .normal)) : J c l H (Code.skip.wp P Q) := J.mk fun a w s => wp_skip (K a w s)
theorem J.block {id : Nat} {x : Code} (K : J c l H (x.wp P (Exit.inBlock id Q))) : J c l H ((Code.block id x).wp P Q) := J.mk fun a w s => wp_block (K a w s)
theorem J.exit {id : Nat} (K : J c l H (Q (.exit id))) : J c l H ((Code.exit id).wp P Q) := J.mk fun a w s => wp_exit (K a w s)
theorem J.cret (K : J c l H (Q .ret)) : J c l H (Code.ret.wp P Q) := J.mk fun a w s => wp_ret (K a w s)
theorem J.cond_true {x : Operand} {y z : Code} (hx : ev l x = some (.bool true)) (K : J c l H (y.wp P Q)) : J c l H ((Code.cond x y z).wp P Q) := J.mk fun a w s => wp_cond_true (s.1.ev hx) (K a w s)
theorem J.cond_false {x : Operand} {y z : Code} (hx : ev l x = some (.bool false)) (K : J c l H (z.wp P Q)) : J c l H ((Code.cond x y z).wp P Q) := J.mk fun a w s => wp_cond_false (s.1.ev hx) (K a w s)
theorem J.cond {x : Nat} {y z : Code} {t : Bool} (hx : TL.get l x = some (.bool t)) (K1 : t = true → J c ((x, .bool true) :: l) H (y.wp P Q)) (K2 : t = false → J c ((x, .bool false) :: l) H (z.wp P Q)) : J c l H ((Code.cond (.tmp x) y z).wp P Q) := J.mk fun a w s => by
  have hev : ev l (.tmp x) = some (.bool t) := hx
  cases t with
  | true => exact wp_cond_true (s.1.ev hev) (K1 rfl a w (s.sub (sub.cons hx fun _ _ h => h)))
  | false => exact wp_cond_false (s.1.ev hev) (K2 rfl a w (s.sub (sub.cons hx fun _ _ h => h)))

theorem J.then_ {nx : Act → World → Prop} (K : J c l H nx) : J c l H (Exit.then nx Q .normal) := K
theorem J.then_ret {nx : Act → World → Prop} (K : J c l H (Q .ret)) : J c l H (Exit.then nx Q .ret) := K
theorem J.then_exit {nx : Act → World → Prop} {id : Nat} (K : J c l H (Q (.exit id))) : J c l H (Exit.then nx Q (.exit id)) := K
theorem J.then_panic {nx : Act → World → Prop} {ch : List PanicEntry} (K : J c l H (Q (.panic ch))) : J c l H (Exit.then nx Q (.panic ch)) := K
theorem J.blk_ {id : Nat} (K : J c l H (Q .normal)) : J c l H (Exit.inBlock id Q .normal) := K
theorem J.blk_ret {id : Nat} (K : J c l H (Q .ret)) : J c l H (Exit.inBlock id Q .ret) := K
theorem J.blk_panic {id : Nat} {ch : List PanicEntry} (K : J c l H (Q (.panic ch))) : J c l H (Exit.inBlock id Q (.panic ch)) := K
theorem J.blk_exit {id : Nat} (K : J c l H (Q .normal)) : J c l H (Exit.inBlock id Q (.exit id)) := J.mk fun a w s => by
  show (if id = id then _ else _)
  rw [if_pos rfl]
  exact K a w s
theorem J.blk_past {id id' : Nat} (hn : Nat.beq id' id = false) (K : J c l H (Q (.exit id'))) : J c l H (Exit.inBlock id Q (.exit id')) := J.mk fun a w s => by
  show (if id' = id then _ else _)
  rw [if_neg (fun e => by subst e; rw [Nat.beq_refl] at hn; cases hn)]
  exact K a w s

/-! ### Loops -/
theorem wp_loopR {x : Code} (I : Nat → Act → World → Prop) (round : ∀ n a w, I n a w → x.wp P (Exit.then (fun a' w' => ∃ m, m < n ∧ I m a' w') Q) a w) {n : Nat} {a : Act} {w : World} (h0 : I n a w) : (Code.loop x).wp P Q a w := by
  intro b k cs
  have key : ∀ n a w, I n a w → ∃ e a' w', Q e a' w' ∧ Arrives P (lone (b.at a (.code x :: .inLoop x :: k)) cs w) b k cs e a' w' := by
    intro n
    induction n using Nat.strongRecOn with
    | _ n ih =>
      intro a w hI
      obtain ⟨e, a1, w1, hq, harr⟩ := round n a w hI b (.inLoop x :: k) cs
      cases e with
      | normal =>
        obtain ⟨m, hm, hI1⟩ := hq
        obtain ⟨e2, a2, w2, hq2, harr2⟩ := ih m hm a1 w1 hI1
        exact ⟨e2, a2, w2, hq2, .of_steps (Steps.trans harr (.one step_inLoop)) harr2⟩
      | exit id => exact ⟨_, a1, w1, hq, .pass (x := .inLoop x) rfl (fun _ _ => .inl (by simp)) harr⟩
      | goto l => exact ⟨_, a1, w1, hq, .pass (x := .inLoop x) rfl (fun _ _ => .inl (by simp)) harr⟩
      | ret => exact ⟨_, a1, w1, hq, .pass (x := .inLoop x) rfl (fun _ _ => .inl (by simp)) harr⟩
      | panic ch => exact ⟨_, a1, w1, hq, .pass (x := .inLoop x) rfl (fun _ _ => .inl (by simp)) harr⟩
      | outgrown => exact ⟨_, a1, w1, hq, .pass (x := .inLoop x) rfl (fun _ _ => .inl (by simp)) harr⟩
  obtain ⟨e, a', w', hq, harr⟩ := key _ a w h0
  exact ⟨e, a', w', hq, .of_steps (.one step_loop) harr⟩

/-- A loop by what holds at its head: a state for each s, and a measure. -/
theorem J.loop {σ : Type} {x : Code} (L : σ → TL) (HH : σ → List Asrt) (m : σ → Nat) (s0 : σ) (h0 : ∀ a w, St c l H a w → St c (L s0) (HH s0) a w)
    (round : ∀ s, J c (L s) (HH s) (x.wp P (Exit.then (fun a w => ∃ s', m s' < m s ∧ St c (L s') (HH s') a w) Q))) : J c l H ((Code.loop x).wp P Q) := J.mk fun a w s =>
  wp_loopR (fun n a w => ∃ s, m s = n ∧ St c (L s) (HH s) a w) (fun n a w ⟨s, hm, hs⟩ => Code.wp_mono (fun e a' w' q => by
    cases e with
    | normal =>
      obtain ⟨s', h1, h2⟩ := q
      exact ⟨m s', hm ▸ h1, s', rfl, h2⟩
    | _ => exact q) (round s a w hs)) ⟨s0, rfl, h0 a w s⟩

theorem J.again {σ : Type} {L : σ → TL} {HH : σ → List Asrt} {m : σ → Nat} {s : σ} (s' : σ) (hm : m s' < m s) (h : ∀ a w, St c l H a w → St c (L s') (HH s') a w) :
    J c l H (fun a w => ∃ s', m s' < m s ∧ St c (L s') (HH s') a w) := J.mk fun a w hs => ⟨s', hm, h a w hs⟩

/-- A loop by its rounds, one after the other. -/
def rnds (P : Program) (x : Code) (Q : Exit → Act → World → Prop) : Nat → Act → World → Prop
  | 0 => fun _ _ => False
  | k + 1 => x.wp P (Exit.then (rnds P x Q k) Q)
theorem wp_rnds {x : Code} {k : Nat} {a : Act} {w : World} (h : rnds P x Q k a w) : (Code.loop x).wp P Q a w :=
  wp_loopR (fun n a w => rnds P x Q n a w) (fun n a w hn => by
    cases n with
    | zero => exact hn.elim
    | succ n => exact Code.wp_mono (fun e a' w' q => by cases e <;> first | exact ⟨n, Nat.lt_succ_self n, q⟩ | exact q) hn) h
theorem J.rounds {x : Code} (k : Nat) (K : J c l H (rnds P x Q k)) : J c l H ((Code.loop x).wp P Q) := J.mk fun a w s => wp_rnds (K a w s)
theorem J.round {x : Code} {k : Nat} (K : J c l H (x.wp P (Exit.then (rnds P x Q k) Q))) : J c l H (rnds P x Q (k + 1)) := K

/-! ### Regions in the text's order -/
theorem J.region {id : Nat} {ops : Array Oper} (K : J c l H (wpList P ops Q ops.toList)) : J c l H ((Code.region id ops false).wp P Q) := J.mk fun a w s => wp_region_list (K a w s)
theorem J.region_lit {id : Nat} {os : List Oper} (K : J c l H (wpList P os.toArray Q os)) : J c l H ((Code.region id os.toArray false).wp P Q) := J.mk fun a w s => wp_region_lit (K a w s)
theorem J.ops_nil {ops : Array Oper} (K : J c l H (Q .normal)) : J c l H (wpList P ops Q []) := K

variable {ops : Array Oper} {rest : List Oper} {op : Op} {ty : TypeId} {pos : String} {af : Array Edge} {d : Nat} {v : Value} {dst : Option Tmp}

/-- Is it this truth. -/
def isB (u : Value) (b : Bool) : Bool := match u with
  | .bool b' => b' == b
  | _ => false
theorem wanted_off {j dj : Nat} {b : Bool} {u : Value} {a : Act} {n : Nat} (r : TRel n l a) (hj : (ops[j]?).bind (·.dst) = some dj) (hb : TL.get l dj = some u) (hne : isB u b = false) : Region.wanted ⟨dst, op, ty, pos, af, some (j, b)⟩ (yielded ops a.tmps) = false := by
  have h1 := r.get _ _ hb
  cases u <;> simp [Region.wanted, yielded, hj, h1]
  simpa [isB] using hne
theorem J.guard_on {j dj : Nat} {b : Bool} (hj : (ops[j]?).bind (·.dst) = some dj) (hb : TL.get l dj = some (.bool b)) (K : J c l H (wpList P ops Q (⟨dst, op, ty, pos, af, none⟩ :: rest))) :
    J c l H (wpList P ops Q (⟨dst, op, ty, pos, af, some (j, b)⟩ :: rest)) := J.mk fun a w s => by
  have h1 := s.1.get _ _ hb
  have hw : Region.wanted ⟨dst, op, ty, pos, af, some (j, b)⟩ (yielded ops a.tmps) = true := by simp [Region.wanted, yielded, hj, h1]
  have hk := K a w s
  unfold wpList at hk ⊢
  rw [if_pos hw]
  rw [if_pos (by simp [Region.wanted])] at hk
  exact hk
theorem J.guard_off {j dj : Nat} {b : Bool} {u : Value} (hj : (ops[j]?).bind (·.dst) = some dj) (hb : TL.get l dj = some u) (hne : isB u b = false) (hd : Nat.blt d c.n = true)
    (K : J c ((d, undef) :: l) H (wpList P ops Q rest)) : J c l H (wpList P ops Q (⟨some d, op, ty, pos, af, some (j, b)⟩ :: rest)) := J.mk fun a w s => by
  unfold wpList
  rw [if_neg (by rw [wanted_off s.1 hj hb hne]; simp)]
  exact K _ _ ⟨s.1.put hd, s.2.1, s.2.2⟩
theorem J.guard_off_none {j dj : Nat} {b : Bool} {u : Value} (hj : (ops[j]?).bind (·.dst) = some dj) (hb : TL.get l dj = some u) (hne : isB u b = false)
    (K : J c l H (wpList P ops Q rest)) : J c l H (wpList P ops Q (⟨none, op, ty, pos, af, some (j, b)⟩ :: rest)) := J.mk fun a w s => by
  unfold wpList
  rw [if_neg (by rw [wanted_off s.1 hj hb hne]; simp)]
  exact K _ _ ⟨s.1.put_none, s.2.1, s.2.2⟩
theorem J.app_cons {o : Oper} {xs ys : List Oper} (K : J c l H (wpList P ops Q (o :: List.append xs ys))) : J c l H (wpList P ops Q (List.append (o :: xs) ys)) := K
theorem J.app_nil {ys : List Oper} (K : J c l H (wpList P ops Q ys)) : J c l H (wpList P ops Q (List.append [] ys)) := K

/-- A truth that is not known: both ways. -/
theorem J.split {G : Act → World → Prop} (x : Nat) {t : Bool} (hx : TL.get l x = some (.bool t)) (K1 : t = true → J c ((x, .bool true) :: l) H G) (K2 : t = false → J c ((x, .bool false) :: l) H G) : J c l H G := J.mk fun a w s => by
  cases t with
  | true => exact K1 rfl a w (s.sub (sub.cons hx fun _ _ h => h))
  | false => exact K2 rfl a w (s.sub (sub.cons hx fun _ _ h => h))

theorem J.gsplit {j dj : Nat} {b t : Bool} (hj : (ops[j]?).bind (·.dst) = some dj) (hb : TL.get l dj = some (.bool t))
    (K1 : t = true → J c ((dj, .bool true) :: l) H (wpList P ops Q (⟨dst, op, ty, pos, af, some (j, b)⟩ :: rest))) (K2 : t = false → J c ((dj, .bool false) :: l) H (wpList P ops Q (⟨dst, op, ty, pos, af, some (j, b)⟩ :: rest))) :
    J c l H (wpList P ops Q (⟨dst, op, ty, pos, af, some (j, b)⟩ :: rest)) := J.split dj hb K1 K2

/-- An operation that leaves v, whatever the world. -/
def Qv (P : Program) (n : Nat) (l : TL) (op : Op) (v : Value) : Prop := ∀ a w dst ty pos af, TRel n l a → (execOp a.eval ⟨dst, op, ty, pos, af, none⟩).run P w = .ok (.value v) w
/-- An operation that leaves v, and the world as it is. -/
def Qr (P : Program) (c : Cx) (l : TL) (H : List Asrt) (op : Op) (v : Value) : Prop := ∀ a w dst ty pos af, St c l H a w → (execOp a.eval ⟨dst, op, ty, pos, af, none⟩).run P w = .ok (.value v) w
/-- An operation, and then X. -/
def OW (P : Program) (Q : Exit → Act → World → Prop) (o : Oper) (X : Act → World → Prop) : Act → World → Prop := fun a w => o.wp P a w X Q

theorem J.q0 (hd : Nat.blt d c.n = true) (hv : Qv P c.n l op v) (K : J c ((d, v) :: l) H (wpList P ops Q rest)) : J c l H (wpList P ops Q (⟨some d, op, ty, pos, af, none⟩ :: rest)) := J.mk fun a w s => by
  unfold wpList
  rw [if_pos (by simp [Region.wanted])]
  refine .inl ?_
  unfold Oper.wp
  rw [hv a w _ _ _ _ s.1]
  exact K _ _ ⟨s.1.put hd, s.2.1, s.2.2⟩
theorem J.q1 (hd : Nat.blt d c.n = true) (hv : Qr P c l H op v) (K : J c ((d, v) :: l) H (wpList P ops Q rest)) : J c l H (wpList P ops Q (⟨some d, op, ty, pos, af, none⟩ :: rest)) := J.mk fun a w s => by
  unfold wpList
  rw [if_pos (by simp [Region.wanted])]
  refine .inl ?_
  unfold Oper.wp
  rw [hv a w _ _ _ _ s]
  exact K _ _ ⟨s.1.put hd, s.2.1, s.2.2⟩
theorem J.list (K : J c l H (OW P Q ⟨dst, op, ty, pos, af, none⟩ (wpList P ops Q rest))) : J c l H (wpList P ops Q (⟨dst, op, ty, pos, af, none⟩ :: rest)) := J.mk fun a w s => by
  unfold wpList
  rw [if_pos (by simp [Region.wanted])]
  exact .inl (K a w s)
/-- An operation that turns the world. -/
theorem J.opv {X : Act → World → Prop} (hv : ∀ a w, St c l H a w → ∃ v w', (execOp a.eval ⟨dst, op, ty, pos, af, none⟩).run P w = .ok (.value v) w' ∧ X (a.put dst v) w') : J c l H (OW P Q ⟨dst, op, ty, pos, af, none⟩ X) := J.mk fun a w s => by
  unfold OW Oper.wp
  obtain ⟨v, w', h1, h2⟩ := hv a w s
  rw [h1]
  exact h2
theorem J.opu {X : Act → World → Prop} (hv : ∀ a w, St c l H a w → ∃ w', (execOp a.eval ⟨dst, op, ty, pos, af, none⟩).run P w = .ok .skip w' ∧ X (a.put dst undef) w') : J c l H (OW P Q ⟨dst, op, ty, pos, af, none⟩ X) := J.mk fun a w s => by
  unfold OW Oper.wp
  obtain ⟨w', h1, h2⟩ := hv a w s
  rw [h1]
  exact h2
end
end Go.Proofs.Ytfcaeifpclpnoaa.Eng
namespace Go.Proofs.Ytfcaeifpclpnoaa.Eng
open Go Go.RowKit
set_option linter.unusedVariables false

/-! ### Types -/
def aggB : TypeDesc → Bool
  | .struct _ | .array _ _ => true
  | _ => false
/-- Is a type's value many cells; how many; its zero value's cells. -/
class Ty (P : Program) (T : Nat) (agg : outParam Bool) (n : outParam Nat) (z : outParam (List Value)) : Prop where
  und : (P.underlying T).map aggB = some agg
  siz : (P.info? T).map (fun i => i.size) = some n
  zer : (P.info? T).map (fun i => i.zero.map (fun v => v.cells)) = some (some z.toArray)
/-- A struct's field: its place, whether it is many cells, how many. -/
class FldT (P : Program) (S f : Nat) (off : outParam Nat) (agg : outParam Bool) (n : outParam Nat) : Prop where
  fld : (match P.underlying S with | some (.struct fs) => (fs[f]?).map (fun x => (x.offset, (P.underlying x.type).map aggB, (P.info? x.type).map (fun i => i.size))) | _ => none) = some (off, some agg, some n)
  pos : (n == 0) = false
/-- An array type. -/
class Ar (P : Program) (T : Nat) (len : outParam Nat) (E : outParam Nat) : Prop where
  und : P.underlying T = some (.array len E)
class Sl (P : Program) (T : Nat) (E : outParam Nat) (bytes : outParam Nat) : Prop where
  und : P.underlying T = some (.slice E)
  byt : (P.info? E).map (fun i => i.bytes) = some bytes
class Ik (P : Program) (T : Nat) (k : outParam IntKind) : Prop where
  und : P.underlying T = some (.int k)
class Pt (P : Program) (T : Nat) (E : outParam Nat) : Prop where
  und : P.underlying T = some (.pointer E)
class BoolT (P : Program) (T : Nat) : Prop where
  und : P.underlying T = some .bool
class StrT (P : Program) (T : Nat) : Prop where
  und : P.underlying T = some .string
class NoIface (P : Program) (T : Nat) : Prop where
  und : ∃ d, P.underlying T = some d ∧ (∀ ms, d ≠ .interface ms)

section
variable {P : Program} {w : World}
theorem run_und {T : Nat} {d : TypeDesc} (h : P.underlying T = some d) : (underlying T).run P w = .ok d w := by
  simp [underlying, h]
theorem run_isAgg {T agg n z} [i : Ty P T agg n z] : (isAgg T).run P w = .ok agg w := by
  have h := i.und
  cases hu : P.underlying T with
  | none => rw [hu] at h; cases h
  | some d =>
    rw [hu] at h
    simp only [Option.map_some, Option.some.injEq] at h
    subst h
    simp only [isAgg, Sem.run_bind, run_und hu, Result.andThen_ok]
    cases d <;> rfl
theorem run_sizeOf' {T n} (h : (P.info? T).map (fun i => i.size) = some n) : (sizeOf T).run P w = .ok n w := by
  cases hu : P.info? T with
  | none => rw [hu] at h; cases h
  | some d =>
    rw [hu] at h
    simp only [Option.map_some, Option.some.injEq] at h
    subst h
    simp [sizeOf, typeInfo, hu]
theorem run_size {T agg n z} [i : Ty P T agg n z] : (sizeOf T).run P w = .ok n w := run_sizeOf' i.siz
theorem run_zeroV {T agg n z} [i : Ty P T agg n z] : ∃ v, (zeroValue T).run P w = .ok v w ∧ v.cells = z.toArray := by
  have h := i.zer
  cases hu : P.info? T with
  | none => rw [hu] at h; cases h
  | some d =>
    rw [hu] at h
    simp only [Option.map_some, Option.some.injEq] at h
    cases hz : d.zero with
    | none => rw [hz] at h; cases h
    | some v =>
      rw [hz] at h
      simp only [Option.map_some, Option.some.injEq] at h
      exact ⟨v, by simp [zeroValue, typeInfo, hu, hz], h⟩

/-! ### Memory -/
theorem addr_add (b o n : Nat) : (⟨b, o, none⟩ : Addr).add n = ⟨b, o + n, none⟩ := by
  unfold Addr.add
  split
  · rename_i h; subst h; rfl
  · rfl
theorem run_load1 {T n z} [i : Ty P T false n z] {ad : Addr} {v : Value} (hc : w.cell? ad = some v) : (Instr.loadAt T (.pointer (some ad))).run P w = .ok v w := by
  simp [Instr.loadAt, Instr.sureAddr, loadVar, run_isAgg (P := P) (w := w) (T := T), hc]
theorem run_loadN {T n z} [i : Ty P T true n z] {ad : Addr} {cs : List Value} (hn : cs.length = n) (hc : ∀ j v, cs[j]? = some v → w.cell? (ad.add j) = some v) : (Instr.loadAt T (.pointer (some ad))).run P w = .ok (.agg cs.toArray) w := by
  have h := run_loadCells_list (P := P) w ad cs hc
  rw [hn] at h
  simp [Instr.loadAt, Instr.sureAddr, loadVar, run_isAgg (P := P) (w := w) (T := T), run_size (P := P) (w := w) (T := T), h]
/-- Cells put over others. -/
def splice (C : List Value) (off : Nat) (vs : List Value) : List Value := C.take off ++ vs ++ C.drop (off + vs.length)
theorem run_storeV {T agg n z} [i : Ty P T agg n z] {b off : Nat} {C : List Value} {E : TypeId} {v : Value} (hb : w.heap[b]? = some (.cells C.toArray E (0, 0))) (hs : v.cells.size = n) (hfit : off + n ≤ C.length) (h1 : ∀ u ∈ v.cells.toList, u.oneCell' = true) :
    (Instr.storeAt T (.pointer (some ⟨b, off, none⟩)) v).run P w = .ok () (w.setRow b (splice C off v.cells.toList).toArray) := by
  have h := run_storeCells_at (P := P) b off E v.cells.toList 0 C.toArray w hb (by simp [hs]; omega) h1
  simp only [Instr.storeAt, Instr.sureAddr, storeVar, Sem.run_bind, Sem.run_pure, Result.andThen_ok, run_size (P := P) (w := w) (T := T)]
  rw [if_neg (by simp [hs])]
  rw [h]
  simp [splice]
end

/-! ### Operations that leave the world alone -/
def binI (op : BinOp) (k : IntKind) (a b : Int) : Option Value :=
  match op with
  | .eql => some (.bool (a == b))
  | .neq => some (.bool (a != b))
  | .lss => some (.bool (decide (a < b)))
  | .leq => some (.bool (decide (a ≤ b)))
  | .gtr => some (.bool (decide (a > b)))
  | .geq => some (.bool (decide (a ≥ b)))
  | _ => none

/-- What an operation gives whatever the world is. -/
def pureOp (l : TL) : Op → Option Value
  | .move x => ev l x
  | .assign x => ev l x
  | .pick c a b => match ev l c with
    | some (.bool true) => ev l a
    | some (.bool false) => ev l b
    | _ => none
  | .binOp op T x y T' => match ev l x, ev l y with
    | some (.int k a), some (.int k' b) => match op with
      | .shl | .shr | .quo | .rem | .and | .or | .xor | .andNot => none
      | _ => if k = k' then binI op k a b else none
    | _, _ => none
  | .unOp .not _ x => match ev l x with
    | some (.bool b) => some (.bool !b)
    | _ => none
  | .extract t i => match ev l t with
    | some (.tuple vs) => vs.toList[i]?
    | _ => none
  | .nilCheck x => match ev l x with
    | some (.pointer (some a)) => some (.pointer (some a))
    | _ => none
  | _ => none

section
variable {P : Program} {c : Cx} {l : TL} {H : List Asrt} {Q : Exit → Act → World → Prop}
variable {ops : Array Oper} {rest : List Oper} {ty : TypeId} {pos : String} {af : Array Edge} {d : Nat} {v : Value} {dst : Option Tmp}

theorem run_binI {op : BinOp} {k : IntKind} {a b : Int} {v : Value} (h : binI op k a b = some v) (T : TypeId) (w : World) : (binOp op T (.int k a) (.int k b)).run P w = .ok v w := by
  unfold binI at h
  cases op <;> simp only [Option.some.injEq, reduceCtorEq] at h <;> subst h <;> simp [binOp, Op.intCmp]

theorem run_guard {op : BinOp} {T : TypeId} {x y : Operand} {k k' : IntKind} {a b : Int} (w : World) : (eqGuard op T x y (.int k a) (.int k' b)).run P w = .ok () w := by
  unfold eqGuard
  cases op <;> simp

theorem run_pureOp {l : TL} {n : Nat} {a : Act} {op : Op} {v : Value} (h : pureOp l op = some v) (r : TRel n l a) (w : World) (dst : Option Tmp) (ty : TypeId) (pos : String) (af : Array Edge) :
    (execOp a.eval ⟨dst, op, ty, pos, af, none⟩).run P w = .ok (.value v) w := by
  cases op <;> simp only [pureOp, reduceCtorEq] at h
  case move x => simp [execOp, r.ev h]
  case assign x => simp [execOp, r.ev h]
  case pick c x y =>
    cases hc : ev l c with
    | none => simp [hc] at h
    | some u =>
      rw [hc] at h
      cases u <;> try (simp at h; done)
      rename_i b
      cases b
      · simp only at h
        simp [execOp, r.ev hc, r.ev h, asBool]
      · simp only at h
        simp [execOp, r.ev hc, r.ev h, asBool]
  case nilCheck x =>
    cases hx : ev l x with
    | none => simp [hx] at h
    | some u =>
      rw [hx] at h
      cases u <;> try (simp at h; done)
      rename_i p
      cases p <;> try (simp at h; done)
      simp only [Option.some.injEq] at h
      subst h
      simp [execOp, r.ev hx]
  case binOp op T x y T' =>
    cases hx : ev l x with
    | none => simp [hx] at h
    | some u =>
      cases hy : ev l y with
      | none => simp [hx, hy] at h
      | some u' =>
        rw [hx, hy] at h
        cases u <;> try (simp at h; done)
        cases u' <;> try (simp at h; done)
        rename_i k a1 k' b1
        have hop : (if k = k' then binI op k a1 b1 else none) = some v := by
          cases op <;> first | exact h | (simp at h; done)
        by_cases hk : k = k'
        · subst hk
          rw [if_pos rfl] at hop
          simp [execOp, r.ev hx, r.ev hy, run_guard, run_binI hop]
        · rw [if_neg hk] at hop; cases hop
  case unOp o T x =>
    cases o <;> try (simp at h; done)
    dsimp only at h
    cases hx : ev l x with
    | none => simp [hx] at h
    | some u =>
      rw [hx] at h
      cases u <;> try (simp at h; done)
      simp only [Option.some.injEq] at h
      subst h
      simp [execOp, r.ev hx, Op.unary]
  case extract t i =>
    cases hx : ev l t with
    | none => simp [hx] at h
    | some u =>
      rw [hx] at h
      cases u <;> try (simp at h; done)
      simp only at h
      have h' := h
      rw [Array.getElem?_toList] at h'
      simp [execOp, r.ev hx, Instr.extract, h']

theorem Qv.pure {n : Nat} {op : Op} (hv : pureOp l op = some v) : Qv P n l op v := fun a w _ _ _ _ r => run_pureOp hv r w _ _ _ _

/-! #### Memory -/
variable {X : Act → World → Prop}
theorem J.boxN {T : Nat} {x : Operand} {cs : List Value} (hd : Nat.blt d c.n = true) (hx : ev l x = some (.agg cs.toArray))
    (K : ∀ b, J c ((d, .pointer (some ⟨b, 0, none⟩)) :: l) (blk b cs T :: H) X) : J c l H (OW P Q ⟨some d, .box T x, ty, pos, af, none⟩ X) :=
  J.opv fun a w s => by
    refine ⟨.pointer (some ⟨w.heap.size, 0, none⟩), w.alloc (.cells cs.toArray T), ?_, ?_⟩
    · simp [execOp, s.1.ev hx, Instr.box, newVar, newRow, Value.cells]
    · exact K w.heap.size _ _ ⟨s.1.put hd, s.2.1, s.2.2.new _ _ fun h' hh => ⟨rfl, hh⟩⟩
theorem J.box1 {T : Nat} {x : Operand} (hd : Nat.blt d c.n = true) (hx : ev l x = some v) (hv : v.cells = #[v])
    (K : ∀ b, J c ((d, .pointer (some ⟨b, 0, none⟩)) :: l) (blk b [v] T :: H) X) : J c l H (OW P Q ⟨some d, .box T x, ty, pos, af, none⟩ X) :=
  J.opv fun a w s => by
    refine ⟨.pointer (some ⟨w.heap.size, 0, none⟩), w.alloc (.cells v.cells T), ?_, ?_⟩
    · simp [execOp, s.1.ev hx, Instr.box, newVar, newRow]
    · exact K w.heap.size _ _ ⟨s.1.put hd, s.2.1, s.2.2.new _ _ fun h' hh => ⟨rfl, by rw [hh, hv]⟩⟩
theorem J.alloc {T n z agg} [i : Ty P T agg n z] (hd : Nat.blt d c.n = true)
    (K : ∀ b, J c ((d, .pointer (some ⟨b, 0, none⟩)) :: l) (blk b z T :: H) X) : J c l H (OW P Q ⟨some d, .alloc T, ty, pos, af, none⟩ X) :=
  J.opv fun a w s => by
    obtain ⟨zv, h1, h2⟩ := run_zeroV (P := P) (w := w) (T := T)
    refine ⟨.pointer (some ⟨w.heap.size, 0, none⟩), w.alloc (.cells z.toArray T), ?_, ?_⟩
    · simp [execOp, Instr.alloc, newVar, newRow, h1, h2]
    · exact K w.heap.size _ _ ⟨s.1.put hd, s.2.1, s.2.2.new _ _ fun h' hh => ⟨rfl, hh⟩⟩

theorem Qr.load1 {T n z} [i : Ty P T false n z] {x : Operand} {b off : Nat} {C : List Value} {E : TypeId} (hx : ev l x = some (.pointer (some ⟨b, off, none⟩))) (hm : In (blk b C E) H) (hv : C[off]? = some v) : Qr P c l H (.load T x) v := fun a w _ _ _ _ s => by
  have hc := s.2.2.cell hm.mem hv
  simp [execOp, s.1.ev hx, run_load1 (P := P) (T := T) hc]
theorem Qr.loadN {T n z} [i : Ty P T true n z] {x : Operand} {b off : Nat} {C cs : List Value} {E : TypeId} (hx : ev l x = some (.pointer (some ⟨b, off, none⟩))) (hm : In (blk b C E) H) (hcs : (C.drop off).take n = cs) (hn : cs.length = n) : Qr P c l H (.load T x) (.agg cs.toArray) := fun a w _ _ _ _ s => by
  have hl := run_loadN (P := P) (w := w) (T := T) (ad := ⟨b, off, none⟩) hn (fun j v hj => by
    rw [addr_add]
    refine s.2.2.cell hm.mem ?_
    rw [← hcs, List.getElem?_take] at hj
    split at hj
    · rwa [List.getElem?_drop] at hj
    · cases hj)
  simp [execOp, s.1.ev hx, hl]
/-- A load out of what came in. -/
theorem Qr.load1x {T n z} [i : Ty P T false n z] {x : Operand} {ad : Addr} (hx : ev l x = some (.pointer (some ad))) (hv : ∀ w, Fr c.w0 c.own w → w.cell? ad = some v) : Qr P c l H (.load T x) v := fun a w _ _ _ _ s => by
  have hc := hv w s.2.2.fr
  simp [execOp, s.1.ev hx, run_load1 (P := P) (T := T) hc]
theorem Qr.loadNx {T n z} [i : Ty P T true n z] {x : Operand} {ad : Addr} {cs : List Value} (hx : ev l x = some (.pointer (some ad))) (hn : cs.length = n) (hv : ∀ w, Fr c.w0 c.own w → ∀ j v, cs[j]? = some v → w.cell? (ad.add j) = some v) : Qr P c l H (.load T x) (.agg cs.toArray) := fun a w _ _ _ _ s => by
  have hl := run_loadN (P := P) (w := w) (T := T) (ad := ad) hn (hv w s.2.2.fr)
  simp [execOp, s.1.ev hx, hl]

theorem store_core {T n z agg} [i : Ty P T agg n z] {x y : Operand} {b off : Nat} {C C' vs : List Value} {E : TypeId} {H' : List Asrt} (hx : ev l x = some (.pointer (some ⟨b, off, none⟩))) (hy : ev l y = some v) (hvs : v.cells.toList = vs) (hn : vs.length = n)
    (hu : Upd (blk b C E) (blk b C' E) H H') (hfit : off + n ≤ C.length) (hC : splice C off vs = C') (h1 : ∀ u ∈ vs, u.oneCell' = true)
    (K : J c l H' X) : J c l H (OW P Q ⟨none, .store T x y, ty, pos, af, none⟩ X) :=
  J.opu fun a w s => by
    obtain ⟨R, p1, p2⟩ := hu.perm
    have s1 := s.2.2.perm p1
    have hb := (s1.blk (List.mem_cons_self ..)).1
    have hr := run_storeV (P := P) (w := w) (T := T) (v := v) hb (by rw [← hn, ← hvs]; simp) hfit (by rw [hvs]; exact h1)
    refine ⟨_, ?_, K _ _ ⟨s.1.put_none, s.2.1, (s1.put C').perm p2⟩⟩
    simp [execOp, s.1.ev hx, s.1.ev hy, hr, hvs, hC]
theorem J.storeN {T n z} [i : Ty P T true n z] {x y : Operand} {b off : Nat} {C C' vs : List Value} {E : TypeId} {H' : List Asrt} (hx : ev l x = some (.pointer (some ⟨b, off, none⟩))) (hy : ev l y = some (.agg vs.toArray))
    (hu : Upd (blk b C E) (blk b C' E) H H') (hC : splice C off vs = C') (hn : vs.length = n) (hfit : off + n ≤ C.length) (h1 : vs.all (·.oneCell') = true)
    (K : J c l H' X) : J c l H (OW P Q ⟨none, .store T x y, ty, pos, af, none⟩ X) := store_core (T := T) hx hy (by simp [Value.cells]) hn hu hfit hC (by simpa using h1) K
theorem J.store1 {T z} [i : Ty P T false 1 z] {x y : Operand} {b off : Nat} {C C' : List Value} {E : TypeId} {H' : List Asrt} (hx : ev l x = some (.pointer (some ⟨b, off, none⟩))) (hy : ev l y = some v) (h1 : v.oneCell' = true)
    (hu : Upd (blk b C E) (blk b C' E) H H') (hC : splice C off [v] = C') (hfit : off + 1 ≤ C.length)
    (K : J c l H' X) : J c l H (OW P Q ⟨none, .store T x y, ty, pos, af, none⟩ X) := store_core (T := T) (vs := [v]) hx hy (by cases v <;> simp_all [Value.cells, Value.oneCell']) rfl hu hfit hC (by simpa using h1) K

/-! #### Places -/
theorem run_field {S f off agg n} [i : FldT P S f off agg n] (w : World) : ∃ fs x, P.underlying S = some (.struct fs) ∧ fs[f]? = some x ∧ x.offset = off ∧ (isAgg x.type).run P w = .ok agg w ∧ (sizeOf x.type).run P w = .ok n w := by
  have h := i.fld
  cases hu : P.underlying S with
  | none => rw [hu] at h; cases h
  | some dsc =>
    rw [hu] at h
    cases dsc <;> simp only [reduceCtorEq] at h
    rename_i fs
    cases hx : fs[f]? with
    | none => rw [hx] at h; cases h
    | some x =>
      rw [hx] at h
      simp only [Option.map_some, Option.some.injEq, Prod.mk.injEq] at h
      obtain ⟨h1, h2, h3⟩ := h
      refine ⟨fs, x, rfl, hx, h1, ?_, run_sizeOf' h3⟩
      cases hv : P.underlying x.type with
      | none => rw [hv] at h2; cases h2
      | some dx =>
        rw [hv] at h2
        simp only [Option.map_some, Option.some.injEq] at h2
        subst h2
        simp only [isAgg, Sem.run_bind, run_und hv, Result.andThen_ok]
        cases dx <;> rfl
section
variable {m : Nat}
theorem Qv.fieldAddr {S f off agg n} [i : FldT P S f off agg n] {x : Operand} {b o o' : Nat} (hx : ev l x = some (.pointer (some ⟨b, o, none⟩))) (ho : o + off = o') : Qv P m l (.fieldAddr S x f) (.pointer (some ⟨b, o', none⟩)) := fun a w _ _ _ _ s => by
  obtain ⟨fs, y, h1, h2, h3, h4, h5⟩ := run_field (P := P) (S := S) (f := f) w
  have hz : ¬ n = 0 := by have := i.pos; simpa using this
  simp [execOp, s.ev hx, Instr.fieldAt, run_und h1, h2, Instr.sureAddr, fieldPlace, h5, hz, h3, addr_add, ho]
theorem Qv.field1 {S f off n} [i : FldT P S f off false n] {x : Operand} {cs : List Value} (hx : ev l x = some (.agg cs.toArray)) (hv : cs[off]? = some v) : Qv P m l (.field S x f) v := fun a w _ _ _ _ s => by
  obtain ⟨fs, y, h1, h2, h3, h4, h5⟩ := run_field (P := P) (S := S) (f := f) w
  simp [execOp, s.ev hx, Instr.field, run_und h1, h2, asAgg, part, h4, h3, hv]
theorem Qv.fieldN {S f off n} [i : FldT P S f off true n] {x : Operand} {cs us : List Value} (hx : ev l x = some (.agg cs.toArray)) (hu : (cs.drop off).take n = us) : Qv P m l (.field S x f) (.agg us.toArray) := fun a w _ _ _ _ s => by
  obtain ⟨fs, y, h1, h2, h3, h4, h5⟩ := run_field (P := P) (S := S) (f := f) w
  simp [execOp, s.ev hx, Instr.field, run_und h1, h2, asAgg, part, h4, h5, h3]
  exact hu
/-- An element's address, of an array in memory. -/
theorem Qv.indexArr {T len E agg n z} [i : Ar P T len E] [t : Ty P E agg n z] {x y : Operand} {b o o' : Nat} {k : IntKind} {j : Int} (hx : ev l x = some (.pointer (some ⟨b, o, none⟩))) (hy : ev l y = some (.int k j)) (hj : 0 ≤ j ∧ j < (len : Int)) (ho : o + j.toNat * n = o') : Qv P m l (.indexAddr T x y) (.pointer (some ⟨b, o', none⟩)) := fun a w _ _ _ _ s => by
  simp [execOp, s.ev hx, s.ev hy, Instr.indexAt, asIntOf, run_und i.und, Instr.sureAddr, hj, run_size (P := P) (w := w) (T := E), addr_add, ho]
/-- An element's address, of a slice. -/
theorem Qv.indexSl {T E bytes agg n z} [i : Sl P T E bytes] [t : Ty P E agg n z] {x y : Operand} {ad ad' : Addr} {len cap : Nat} {k : IntKind} {j : Int} (hx : ev l x = some (.slice (some ad) len cap)) (hy : ev l y = some (.int k j)) (hj : 0 ≤ j ∧ j < (len : Int)) (ho : ad.add (j.toNat * n) = ad') : Qv P m l (.indexAddr T x y) (.pointer (some ad')) := fun a w _ _ _ _ s => by
  simp [execOp, s.ev hx, s.ev hy, Instr.indexAt, asIntOf, run_und i.und, hj, run_size (P := P) (w := w) (T := E), ho]
theorem Qv.indexBlk {T E bytes agg n z} [i : Sl P T E bytes] [t : Ty P E agg n z] {x y : Operand} {b o o' : Nat} {len cap : Nat} {k : IntKind} {j : Int} (hx : ev l x = some (.slice (some ⟨b, o, none⟩) len cap)) (hy : ev l y = some (.int k j)) (hj : 0 ≤ j ∧ j < (len : Int)) (ho : o + j.toNat * n = o') : Qv P m l (.indexAddr T x y) (.pointer (some ⟨b, o', none⟩)) :=
  Qv.indexSl (bytes := bytes) hx hy hj (by rw [addr_add, ho])
/-- An element of an array's value. -/
theorem Qv.index1 {T len E n z} [i : Ar P T len E] [t : Ty P E false n z] {x y : Operand} {cs : List Value} {k : IntKind} {j : Int} (hx : ev l x = some (.agg cs.toArray)) (hy : ev l y = some (.int k j)) (hj : 0 ≤ j ∧ j < (len : Int)) (hv : cs[j.toNat * n]? = some v) : Qv P m l (.index T x y) v := fun a w _ _ _ _ s => by
  simp [execOp, s.ev hx, s.ev hy, Instr.index, asIntOf, run_und i.und, hj, run_size (P := P) (w := w) (T := E), part, run_isAgg (P := P) (w := w) (T := E), hv]
theorem Qv.indexN {T len E n z} [i : Ar P T len E] [t : Ty P E true n z] {x y : Operand} {cs us : List Value} {k : IntKind} {j : Int} (hx : ev l x = some (.agg cs.toArray)) (hy : ev l y = some (.int k j)) (hj : 0 ≤ j ∧ j < (len : Int)) (hu : (cs.drop (j.toNat * n)).take n = us) : Qv P m l (.index T x y) (.agg us.toArray) := fun a w _ _ _ _ s => by
  simp [execOp, s.ev hx, s.ev hy, Instr.index, asIntOf, run_und i.und, hj, run_size (P := P) (w := w) (T := E), part, run_isAgg (P := P) (w := w) (T := E)]
  exact hu

/-! #### Numbers -/
theorem Qv.conv {S T k j} [i : Ik P T k] [i2 : Ik P S j] {x : Operand} {q : IntKind} {e z : Int} (hx : ev l x = some (.int q e)) (hz : k.wrap e = z) : Qv P m l (.convert S T x) (.int k z) := fun a w _ _ _ _ s => by
  simp [execOp, s.ev hx, convert, run_und i.und, run_und i2.und, Conv.intToInt, hz]
theorem Qv.add {T T' : Nat} {x y : Operand} {k : IntKind} {e f z : Int} (hx : ev l x = some (.int k e)) (hy : ev l y = some (.int k f)) (hz : k.wrap (e + f) = z) : Qv P m l (.binOp .add T x y T') (.int k z) := fun a w _ _ _ _ s => by
  simp [execOp, s.ev hx, s.ev hy, run_guard, binOp, Op.intArith, hz]
theorem Qv.sub {T T' : Nat} {x y : Operand} {k : IntKind} {e f z : Int} (hx : ev l x = some (.int k e)) (hy : ev l y = some (.int k f)) (hz : k.wrap (e - f) = z) : Qv P m l (.binOp .sub T x y T') (.int k z) := fun a w _ _ _ _ s => by
  simp [execOp, s.ev hx, s.ev hy, run_guard, binOp, Op.intArith, hz]
theorem Qv.mul {T T' : Nat} {x y : Operand} {k : IntKind} {e f z : Int} (hx : ev l x = some (.int k e)) (hy : ev l y = some (.int k f)) (hz : k.wrap (e * f) = z) : Qv P m l (.binOp .mul T x y T') (.int k z) := fun a w _ _ _ _ s => by
  simp [execOp, s.ev hx, s.ev hy, run_guard, binOp, Op.intArith, hz]
theorem Qv.quo {T T' : Nat} {x y : Operand} {k : IntKind} {e f z : Int} (hx : ev l x = some (.int k e)) (hy : ev l y = some (.int k f)) (hf : f ≠ 0) (hz : k.wrap (e.tdiv f) = z) : Qv P m l (.binOp .quo T x y T') (.int k z) := fun a w _ _ _ _ s => by
  simp [execOp, s.ev hx, s.ev hy, run_guard, binOp, Op.intDiv, hf, hz]
theorem Qv.rem {T T' : Nat} {x y : Operand} {k : IntKind} {e f z : Int} (hx : ev l x = some (.int k e)) (hy : ev l y = some (.int k f)) (hf : f ≠ 0) (hz : e.tmod f = z) : Qv P m l (.binOp .rem T x y T') (.int k z) := fun a w _ _ _ _ s => by
  simp [execOp, s.ev hx, s.ev hy, run_guard, binOp, Op.intDiv, hf, hz]
theorem Qv.shl {T T' : Nat} {x y : Operand} {k k' : IntKind} {e f z : Int} (hx : ev l x = some (.int k e)) (hy : ev l y = some (.int k' f)) (hf : ¬ f < 0) (hz : k.wrap (e * 2 ^ (min f.toNat k.bits)) = z) : Qv P m l (.binOp .shl T x y T') (.int k z) := fun a w _ _ _ _ s => by
  simp [execOp, s.ev hx, s.ev hy, run_guard, binOp, Op.shift, hf, hz]
theorem Qv.shr {T T' : Nat} {x y : Operand} {k k' : IntKind} {e f z : Int} (hx : ev l x = some (.int k e)) (hy : ev l y = some (.int k' f)) (hf : ¬ f < 0) (hz : e.fdiv (2 ^ (min f.toNat k.bits)) = z) : Qv P m l (.binOp .shr T x y T') (.int k z) := fun a w _ _ _ _ s => by
  simp [execOp, s.ev hx, s.ev hy, run_guard, binOp, Op.shift, hf, hz]
end
end
theorem cells_int {k : IntKind} {n : Int} : (Value.int k n).cells.toList = [.int k n] := rfl
theorem cells_bool {b : Bool} : (Value.bool b).cells.toList = [.bool b] := rfl
theorem cells_str {b : ByteArray} : (Value.string b).cells.toList = [.string b] := rfl
theorem cells_ptr {a : Option Addr} : (Value.pointer a).cells.toList = [.pointer a] := rfl
theorem cells_slice {a : Option Addr} {n m : Nat} : (Value.slice a n m).cells.toList = [.slice a n m] := rfl
theorem cells_agg {l : List Value} : (Value.agg l.toArray).cells.toList = l := rfl
/-! #### Numbers that fit -/
theorem wr64 {e z : Int} (h0 : -9223372036854775808 ≤ e) (h1 : e ≤ 9223372036854775807) (hz : e = z) : IntKind.i64.wrap e = z := by
  subst hz
  simp [IntKind.wrap, IntKind.signed, IntKind.bits]
  omega
theorem wru64 {e z : Int} (h0 : 0 ≤ e) (h1 : e ≤ 18446744073709551615) (hz : e = z) : IntKind.u64.wrap e = z := by
  subst hz
  simp [IntKind.wrap, IntKind.signed, IntKind.bits]
  omega
end Go.Proofs.Ytfcaeifpclpnoaa.Eng
namespace Go.Proofs.Ytfcaeifpclpnoaa.Eng
open Go Go.RowKit
set_option linter.unusedVariables false

/-- A function that is entered. -/
class Enters (P : Program) (f : Nat) : Prop where
  run : ∀ args w, (callFunc f args).run P w = .ok (.enter f args) w
theorem enters_of' {P : Program} {f : Nat} {fn : Func} (hf : P.funcs[f]? = some fn) (hn : (fn.name == "runtime.NumGoroutine") = false) (hb : fn.body.isNone = false) : Enters P f :=
  ⟨fun args w => by
    simp only [callFunc, Sem.run_bind, run_program, Result.andThen_ok, hf, hn, hb, Bool.false_eq_true, if_false]
    rfl⟩

/-- The contract: with the assertions H1 at hand the call ends so that R tells the ending and what is at hand then. -/
def CSpec (P : Program) (f : Nat) (args : List Value) (H1 : List Asrt) (w : World) (R : Ending → List Asrt → Prop) : Prop :=
  ∀ fp, Holds (hp w) H1 fp → fp.Nodup → (∀ i, i ∈ fp → i < w.heap.size) → Calls P f args.toArray w fun e w' => ∃ H3, R e H3 ∧ Sat w fp H3 w'

theorem CSpec.mono {P f args H1 w R R'} (h : CSpec P f args H1 w R) (hr : ∀ e H, R e H → R' e H) : CSpec P f args H1 w R' :=
  fun fp h1 h2 h3 => (h fp h1 h2 h3).mono fun e w' ⟨H3, hR, hS⟩ => ⟨H3, hr _ _ hR, hS⟩

/-- It ends with this value, and all that it made is left. -/
def Gives (r : Value) : Ending → List Asrt → Prop := fun e H => e = .returned r ∧ H = []

def initTL : Nat → List Value → TL
  | _, [] => []
  | i, v :: vs => (i, v) :: initTL (i + 1) vs

theorem initTL_get : ∀ (vs : List Value) (i d : Nat) (v : Value), TL.get (initTL i vs) d = some v → i ≤ d ∧ vs[d - i]? = some v
  | [], i, d, v, h => by simp [initTL, TL.get] at h
  | u :: vs, i, d, v, h => by
    simp only [initTL, TL.get] at h
    cases hq : Nat.beq i d with
    | true =>
      have e := Nat.eq_of_beq_eq_true hq
      subst e
      rw [hq] at h
      simpa using h
    | false =>
      rw [hq] at h
      obtain ⟨h1, h2⟩ := initTL_get vs (i + 1) d v h
      refine ⟨by omega, ?_⟩
      rw [show d - i = (d - (i + 1)) + 1 by omega]
      simpa using h2

section
variable {P : Program}

/-- A function's contract out of the walk of its body. -/
theorem spec_of {f : Nat} {fn : Func} {code : Code} {args : List Value} {H1 : List Asrt} {w : World} {R : Ending → List Asrt → Prop} {n : Nat} {l0 : TL} (hf : P.funcs[f]? = some fn) (hb : fn.body = some code) (hn : fn.ntmps = n) (hsz : Nat.ble args.length n = true) (hl : initTL 0 args = l0)
    (K : ∀ fp, J ⟨w, fp, n, []⟩ l0 H1 (code.wp P (bodyPost P fn fun e w' => ∃ H3, R e H3 ∧ Sat w fp H3 w'))) : CSpec P f args H1 w R := by
  intro fp h1 h2 h3
  refine calls_of_wp hf hb ((K fp).out _ _ ⟨⟨?_, ?_⟩, rfl, fp, h1, h2, fun i hi => ⟨h3 i hi, fun _ => hi⟩, Fr.refl _ _⟩)
  · have : args.length ≤ n := Nat.le_of_ble_eq_true hsz
    simp [hn]; omega
  · intro d v hd
    rw [← hl] at hd
    obtain ⟨_, h5⟩ := initTL_get args 0 d v hd
    have hlt : d < args.length := by
      rcases Nat.lt_or_ge d args.length with hq | hq
      · exact hq
      · rw [Nat.sub_zero, List.getElem?_eq_none hq] at h5; cases h5
    rw [Array.getElem?_append_left (by simpa using hlt)]
    simpa using h5

/-- What a law wants. -/
theorem CSpec.below {f : Nat} {args : List Value} {w : World} {r : Value} (h : CSpec P f args [] w (Gives r)) : Calls P f args.toArray w fun e w' => e = .returned r ∧ Below w.heap.size w w' :=
  (h [] rfl (by simp) (by simp)).mono fun e w' ⟨H3, ⟨he, _⟩, hS⟩ => ⟨he, ⟨hS.fr.os, hS.fr.tape, hS.fr.output, hS.fr.size, fun i hi => hS.fr.same i hi (by simp)⟩⟩

variable {c : Cx} {l : TL} {H : List Asrt} {Q : Exit → Act → World → Prop}
variable {X : Act → World → Prop} {ty : TypeId} {pos : String} {af : Array Edge} {d : Nat} {v : Value} {dst : Option Tmp}

theorem run_call {f : Nat} [i : Enters P f] {xs : List Operand} {ts : Array TypeId} {vs : List Value} {a : Act} {n : Nat} (r : TRel n l a) (hx : evs l xs = some vs) (w : World) :
    (execOp a.eval ⟨dst, .call ⟨.value (.func f), xs.toArray, ts⟩, ty, pos, af, none⟩).run P w = .ok (.enter f vs.toArray) w := by
  have h := r.evs hx
  simp [execOp, resolve, Act.eval, Deferred.ofValue, invoke, i.run, h]

/-- A call by its contract. -/
theorem J.call {f : Nat} [i : Enters P f] {xs : List Operand} {ts : Array TypeId} {vs : List Value} {H1 H2 : List Asrt} {R : Ending → List Asrt → Prop} (hd : Nat.blt d c.n = true) (hx : evs l xs = some vs) (ho : Outs H1 H H2)
    (hS : ∀ w, Fr c.w0 c.own w → CSpec P f vs H1 w R)
    (K1 : ∀ v H3, R (.returned v) H3 → J c ((d, v) :: l) (H3 ++ H2) X)
    (K2 : ∀ ch H3, R (.panicked ch) H3 → J c l (H3 ++ H2) (Q (.panic ch)))
    (K3 : ∀ H3, ¬ R .outgrown H3) :
    J c l H (OW P Q ⟨some d, .call ⟨.value (.func f), xs.toArray, ts⟩, ty, pos, af, none⟩ X) := J.mk fun a w s => by
  unfold OW Oper.wp
  rw [run_call s.1 hx w]
  obtain ⟨fp, hh, hn, hi, hf⟩ := s.2.2.perm ho.perm
  obtain ⟨f1, g1, rfl, h1, h2⟩ := hh.split
  have hc := hS w hf f1 h1 (List.nodup_append.1 hn).1 (fun i hi' => (hi i (List.mem_append_left _ hi')).1)
  refine Calls.mono hc fun e w' ⟨H3, hR, h3⟩ => ?_
  have h4 := Sat.call hn hi hf h2 h3
  cases e with
  | returned v => exact K1 v H3 hR _ _ ⟨s.1.put hd, s.2.1, h4⟩
  | panicked ch => exact K2 ch H3 hR _ _ ⟨s.1, s.2.1, h4⟩
  | outgrown => exact (K3 H3 hR).elim

/-- A call that gives a value and nothing else. -/
theorem J.gives {f : Nat} [i : Enters P f] {xs : List Operand} {ts : Array TypeId} {vs : List Value} {r : Value} (hd : Nat.blt d c.n = true) (hx : evs l xs = some vs)
    (hS : ∀ w, Fr c.w0 c.own w → CSpec P f vs [] w (Gives r))
    (K : J c ((d, r) :: l) H X) :
    J c l H (OW P Q ⟨some d, .call ⟨.value (.func f), xs.toArray, ts⟩, ty, pos, af, none⟩ X) :=
  J.call hd hx .nil hS (fun v H3 ⟨h1, h2⟩ => by cases h1; subst h2; exact K) (fun ch H3 ⟨h1, _⟩ => by cases h1) (fun H3 ⟨h1, _⟩ => by cases h1)

/-- It ends with this value, and hands back what it was handed. -/
def Keeps (r : Value) (H1 : List Asrt) : Ending → List Asrt → Prop := fun e H => e = .returned r ∧ H = H1
theorem J.keeps {f : Nat} [i : Enters P f] {xs : List Operand} {ts : Array TypeId} {vs : List Value} {H1 H2 : List Asrt} {r : Value} (hd : Nat.blt d c.n = true) (hx : evs l xs = some vs)
    (hS : ∀ w, Fr c.w0 c.own w → CSpec P f vs H1 w (Keeps r H1)) (ho : Outs H1 H H2)
    (K : J c ((d, r) :: l) H X) :
    J c l H (OW P Q ⟨some d, .call ⟨.value (.func f), xs.toArray, ts⟩, ty, pos, af, none⟩ X) :=
  J.call hd hx ho hS (fun v H3 ⟨h1, h2⟩ => by cases h1; subst h2; exact J.perm ho.perm.symm K) (fun ch H3 ⟨h1, _⟩ => by cases h1) (fun H3 ⟨h1, _⟩ => by cases h1)
theorem J.kept' {H1 H2 : List Asrt} {r r' : Value} (e : r = r') (ho : Outs H1 H H2) : J c l H (fun _ w => ∃ H3, Keeps r' H1 (.returned r) H3 ∧ Sat c.w0 c.own H3 w) := J.mk fun a w s =>
  ⟨H1, ⟨by rw [e], rfl⟩, Sat.drops (H' := H2) ((s.2.2.perm ho.perm).perm List.perm_append_comm)⟩

/-- Calls by a lemma that is named first, with what it asks for. -/
theorem J.givesW {f : Nat} [i : Enters P f] {xs : List Operand} {ts : Array TypeId} {vs : List Value} {r : Value} (hS : ∀ w, CSpec P f vs [] w (Gives r)) (hd : Nat.blt d c.n = true) (hx : evs l xs = some vs)
    (K : J c ((d, r) :: l) H X) :
    J c l H (OW P Q ⟨some d, .call ⟨.value (.func f), xs.toArray, ts⟩, ty, pos, af, none⟩ X) := J.gives hd hx (fun w _ => hS w) K
theorem J.givesP {f : Nat} [i : Enters P f] {xs : List Operand} {ts : Array TypeId} {vs : List Value} {r : Value} {p : Prop} (hS : p → ∀ w, CSpec P f vs [] w (Gives r)) (hd : Nat.blt d c.n = true) (hx : evs l xs = some vs) (hp : p)
    (K : J c ((d, r) :: l) H X) :
    J c l H (OW P Q ⟨some d, .call ⟨.value (.func f), xs.toArray, ts⟩, ty, pos, af, none⟩ X) := J.gives hd hx (fun w _ => hS hp w) K
theorem J.keepsW {f : Nat} [i : Enters P f] {xs : List Operand} {ts : Array TypeId} {vs : List Value} {H1 H2 : List Asrt} {r : Value} (hS : ∀ w, CSpec P f vs H1 w (Keeps r H1)) (hd : Nat.blt d c.n = true) (hx : evs l xs = some vs) (ho : Outs H1 H H2)
    (K : J c ((d, r) :: l) H X) :
    J c l H (OW P Q ⟨some d, .call ⟨.value (.func f), xs.toArray, ts⟩, ty, pos, af, none⟩ X) := J.keeps hd hx (fun w _ => hS w) ho K
theorem J.keepsP {f : Nat} [i : Enters P f] {xs : List Operand} {ts : Array TypeId} {vs : List Value} {H1 H2 : List Asrt} {r : Value} {p : Prop} (hS : p → ∀ w, CSpec P f vs H1 w (Keeps r H1)) (hd : Nat.blt d c.n = true) (hx : evs l xs = some vs) (ho : Outs H1 H H2) (hp : p)
    (K : J c ((d, r) :: l) H X) :
    J c l H (OW P Q ⟨some d, .call ⟨.value (.func f), xs.toArray, ts⟩, ty, pos, af, none⟩ X) := J.keeps hd hx (fun w _ => hS hp w) ho K

/-! ### A function's end -/
inductive Res (P : Program) (c : Cx) (l : TL) (H : List Asrt) : List ResultVar → List Value → Prop
  | nil : Res P c l H [] []
  | tmp {t v rs vs} (h : TL.get l t = some v) (hr : Res P c l H rs vs) : Res P c l H (.tmp t :: rs) (v :: vs)
  | cell1 {t T n z b off C E v rs vs} [i : Ty P T false n z] (h : TL.get l t = some (.pointer (some ⟨b, off, none⟩))) (hm : In (blk b C E) H) (hv : C[off]? = some v) (hr : Res P c l H rs vs) : Res P c l H (.cell t T :: rs) (v :: vs)
  | cellN {t T n z b off C cs E rs vs} [i : Ty P T true n z] (h : TL.get l t = some (.pointer (some ⟨b, off, none⟩))) (hm : In (blk b C E) H) (hcs : (C.drop off).take n = cs) (hn : cs.length = n) (hr : Res P c l H rs vs) : Res P c l H (.cell t T :: rs) (.agg cs.toArray :: vs)

def resRun (tmps : Array Value) : ResultVar → Sem Value
  | .tmp t => pure (tmps.getD t undef)
  | .cell a t => do loadVar t (← asAddr (tmps.getD a undef))

theorem Res.run {rs : List ResultVar} {vs : List Value} (h : Res P c l H rs vs) {a : Act} {w : World} (s : St c l H a w) : (rs.mapM (resRun a.tmps)).run P w = .ok vs w := by
  induction h with
  | nil => simp
  | @tmp t v rs vs h _ ih =>
    have := s.1.get _ _ h
    simp [List.mapM_cons, resRun, this, ih]
  | @cell1 t T n z b off C E v rs vs i h hm hv _ ih =>
    have h1 := s.1.get _ _ h
    have h2 := run_load1 (P := P) (T := T) (s.2.2.cell hm.mem hv)
    simp only [Instr.loadAt, Instr.sureAddr, Sem.run_bind, Sem.run_pure, Result.andThen_ok] at h2
    simp [List.mapM_cons, resRun, h1, asAddr, h2, ih]
  | @cellN t T n z b off C cs E rs vs i h hm hcs hn _ ih =>
    have h1 := s.1.get _ _ h
    have h2 := run_loadN (P := P) (w := w) (T := T) (ad := ⟨b, off, none⟩) hn (fun j v hj => by
      rw [addr_add]
      refine s.2.2.cell hm.mem ?_
      rw [← hcs, List.getElem?_take] at hj
      split at hj
      · rwa [List.getElem?_drop] at hj
      · cases hj)
    simp only [Instr.loadAt, Instr.sureAddr, Sem.run_bind, Sem.run_pure, Result.andThen_ok] at h2
    simp [List.mapM_cons, resRun, h1, asAddr, h2, ih]

def retv : List Value → Value
  | [v] => v
  | vs => .tuple vs.toArray

theorem run_results {fn : Func} {rs : List ResultVar} {vs : List Value} (hr : fn.results = rs.toArray) (h : Res P c l H rs vs) {a : Act} {w : World} (s : St c l H a w) : (results fn a.tmps).run P w = .ok (retv vs) w := by
  have h1 := h.run s
  have key : ∀ g : ResultVar → Sem Value, (∀ x, g x = resRun a.tmps x) → Array.mapM g rs.toArray = Array.mapM (resRun a.tmps) rs.toArray := fun g hg => by rw [funext hg]
  unfold results
  rw [hr, key _ (by intro x; cases x <;> rfl)]
  simp only [List.mapM_toArray, Sem.run_bind, Sem.run_map, h1, Result.andThen_ok]
  match vs with
  | [] => simp [retv]
  | [v] => simp [retv]
  | u :: v :: ws => simp [retv]

theorem J.ret {fn : Func} {rs : List ResultVar} {vs : List Value} {r : Value} {R : Ending → World → Prop} (hds : c.ds = []) (hr : fn.results = rs.toArray) (hres : Res P c l H rs vs) (hv : retv vs = r) (K : J c l H (fun _ w => R (.returned r) w)) :
    J c l H (bodyPost P fn R .ret) := J.mk fun a w s => ⟨s.2.1.trans hds, _, hv ▸ run_results hr hres s, K a w s⟩
theorem J.ret_normal {fn : Func} {rs : List ResultVar} {vs : List Value} {r : Value} {R : Ending → World → Prop} (hds : c.ds = []) (hr : fn.results = rs.toArray) (hres : Res P c l H rs vs) (hv : retv vs = r) (K : J c l H (fun _ w => R (.returned r) w)) :
    J c l H (bodyPost P fn R .normal) := J.mk fun a w s => ⟨s.2.1.trans hds, _, hv ▸ run_results hr hres s, K a w s⟩
theorem J.panic {fn : Func} {ch : List PanicEntry} {R : Ending → World → Prop} (hds : c.ds = []) (K : J c l H (fun _ w => R (.panicked ch) w)) :
    J c l H (bodyPost P fn R (.panic ch)) := J.mk fun a w s => ⟨s.2.1.trans hds, K a w s⟩

/-- The contract's end: what is handed back, out of what is at hand. -/
theorem J.post {R : Ending → List Asrt → Prop} {e : Ending} {H3 H4 : List Asrt} (hR : R e H3) (ho : Outs H3 H H4) : J c l H (fun _ w => ∃ H3, R e H3 ∧ Sat c.w0 c.own H3 w) := J.mk fun a w s =>
  ⟨H3, hR, Sat.drops (H' := H4) ((s.2.2.perm ho.perm).perm List.perm_append_comm)⟩
theorem J.gave' {r r' : Value} (e : r = r') : J c l H (fun _ w => ∃ H3, Gives r' (.returned r) H3 ∧ Sat c.w0 c.own H3 w) := J.post ⟨by rw [e], rfl⟩ .nil
theorem J.gave {r : Value} : J c l H (fun _ w => ∃ H3, Gives r (.returned r) H3 ∧ Sat c.w0 c.own H3 w) := J.post ⟨rfl, rfl⟩ .nil
end
/-! ### What may come in -/
theorem wfi64 {x : Int} (h : (Lit.int .i64 x).wf = true) : -9223372036854775808 ≤ x ∧ x ≤ 9223372036854775807 := by
  simp [Lit.wf, IntKind.min, IntKind.max, IntKind.signed, IntKind.bits] at h; omega
theorem wfu64 {x : Int} (h : (Lit.int .u64 x).wf = true) : 0 ≤ x ∧ x ≤ 18446744073709551615 := by
  simp [Lit.wf, IntKind.min, IntKind.max, IntKind.signed, IntKind.bits] at h; omega
end Go.Proofs.Ytfcaeifpclpnoaa.Eng
namespace Go.Proofs.Ytfcaeifpclpnoaa.Eng
open Go Go.RowKit
set_option linter.unusedVariables false
set_option linter.unusedSectionVars false
set_option linter.unusedSimpArgs false

section
variable {P : Program} {ops : Array Oper} {Q : Exit → Act → World → Prop}

def dstOf (ops : Array Oper) (k : Nat) : Option Tmp := (ops[k]?).bind (·.dst)
theorem dstOf_eq {k : Nat} {o : Oper} (h : ops[k]? = some o) : dstOf ops k = o.dst := by simp [dstOf, h]

/-- In this state and world the operation leaves v, and nothing else. -/
def YW (P : Program) (ops : Array Oper) (o : Oper) (v : Value) (a : Act) (w : World) : Prop :=
  (Region.wanted o (yielded ops a.tmps) = true ∧ (execOp a.eval o).run P w = .ok (.value v) w) ∨ (Region.wanted o (yielded ops a.tmps) = false ∧ v = undef)
theorem YW.of_same {o : Oper} {v : Value} {a a' : Act} {w : World} (hy : YW P ops o v a w) (he : execOp a'.eval o = execOp a.eval o)
    (hw : Region.wanted o (yielded ops a'.tmps) = Region.wanted o (yielded ops a.tmps)) : YW P ops o v a' w := by
  unfold YW at *
  rw [he, hw]
  exact hy
theorem YW.of_yields {o : Oper} {v : Value} {a : Act} {w : World} (hy : Yields P ops o v a) : YW P ops o v a w := hy.imp (fun ⟨h1, h2⟩ => ⟨h1, h2 w⟩) id
theorem YW.wpOp {i : Nat} {o : Oper} {v : Value} {a : Act} {w : World} (hi : ops[i]? = some o) (hy : YW P ops o v a w) {K : Act → World → Prop} (h : K (a.put o.dst v) w) : wpOp P ops Q i K a w := by
  unfold Go.wpOp
  simp only [hi]
  rcases hy with ⟨hw, hv⟩ | ⟨hw, rfl⟩
  · simp only [hw, if_true, Oper.wp, hv, Oper.upon]; exact .inl h
  · simp only [hw, Bool.false_eq_true, if_false]; exact h

def puts (ops : Array Oper) : List (Nat × Value) → Act → Act
  | [], a => a
  | (k, u) :: M, a => puts ops M (a.put (dstOf ops k) u)
def fin : List (Nat × Value) → Array Bool → Array Bool
  | [], L => L
  | (k, _) :: M, L => fin M (L.setIfInBounds k true)
def notWait (oj : Oper) (k : Nat) : Prop := ∀ e ∈ oj.after, Region.binds .any e = true → e.on ≠ k

theorem apart_symm {x y : Oper} (h : x.apart ops y = true) : y.apart ops x = true := by
  obtain ⟨h1, h2, h3⟩ := Oper.apart_spec h
  unfold Oper.apart
  simp only [Bool.and_eq_true]
  refine ⟨?_, ?_⟩
  · cases hy : y.dst with
    | none => rfl
    | some d =>
      simp only [Bool.and_eq_true, Bool.not_eq_true', bne_iff_ne, ne_eq]
      refine ⟨by simpa using h3 d hy, fun hx => ?_⟩
      exact h2 d hx hy
  · cases hx : x.dst with
    | none => rfl
    | some d => simpa using h1 d hx

/-- What is static, and what is pure, of the quiet operations that are still to come here and have come there. -/
def Good0 (P : Program) (ops : Array Oper) (pend : List (Nat × Value)) : List (Nat × Value) → Array Bool → Act → Prop
  | [], _, _ => True
  | (k, u) :: M, L, a => (∃ ok, ops[k]? = some ok ∧ k ∈ Region.ready .any ops L ∧
      (∀ j oj, ops[j]? = some oj → j ≠ k → L.getD j true = false → notWait oj k → ok.apart ops oj = true) ∧
      (Yields P ops ok u a ∨ ((k, u) ∈ pend ∧ ∀ m, m ∈ (k, u) :: M → ∀ d, dstOf ops m.1 = some d → d ∉ ok.looksAt ops))) ∧
      Good0 P ops pend M (L.setIfInBounds k true) (a.put (dstOf ops k) u)
/-- And what they leave in this world. -/
def GoodW (P : Program) (ops : Array Oper) : List (Nat × Value) → Act → World → Prop
  | [], _, _ => True
  | (k, u) :: M, a, w => (∀ ok, ops[k]? = some ok → YW P ops ok u a w) ∧ GoodW P ops M (a.put (dstOf ops k) u) w

theorem ready_unl {j : Nat} {L : Array Bool} (h : j ∈ Region.ready .any ops L) : L.getD j true = false := (mem_ready.1 h).1
theorem unl_false {j : Nat} {L : Array Bool} (h : L.getD j true = false) : L.getD j false = false := by
  rcases Nat.lt_or_ge j L.size with h' | h'
  · simp [h'] at h ⊢; exact h
  · simp [Array.getElem?_eq_none h'] at h
theorem ready_notWait {j k : Nat} {oj : Oper} {L : Array Bool} (hj : ops[j]? = some oj) (hr : j ∈ Region.ready .any ops L) (hk : L.getD k true = false) : notWait oj k := by
  obtain ⟨_, o, ho, hall⟩ := mem_ready.1 hr
  rw [hj] at ho
  cases ho
  intro e he hb heq
  have := hall e he hb
  rw [heq, unl_false hk] at this
  cases this
theorem set_unl {L : Array Bool} {i j : Nat} (h : (L.setIfInBounds i true).getD j true = false) : L.getD j true = false ∧ j ≠ i := by
  by_cases e : i = j
  · subst e
    rcases Nat.lt_or_ge i L.size with h' | h'
    · simp [h'] at h
    · simp [Array.getElem?_eq_none h'] at h
  · rw [getD_set_ne true e] at h
    exact ⟨h, Ne.symm e⟩
theorem unl_set {L : Array Bool} {i j : Nat} (h : L.getD j true = false) (hne : j ≠ i) : (L.setIfInBounds i true).getD j true = false := by
  rw [getD_set_ne true (Ne.symm hne)]; exact h

theorem yields_put {o : Oper} {v : Value} {a : Act} (hs : ∀ cs b, o.op ≠ .select cs b) (hy : Yields P ops o v a) {dst : Option Tmp} {u : Value} (h : ∀ d, dst = some d → d ∉ o.looksAt ops) : Yields P ops o v (a.put dst u) :=
  hy.of_same (execOp_put o hs a dst u h) (wanted_put o a dst u h)
theorem yields_unput {o : Oper} {v : Value} {a : Act} (hs : ∀ cs b, o.op ≠ .select cs b) {dst : Option Tmp} {u : Value} (hy : Yields P ops o v (a.put dst u)) (h : ∀ d, dst = some d → d ∉ o.looksAt ops) : Yields P ops o v a :=
  hy.of_same (execOp_put o hs a dst u h).symm (wanted_put o a dst u h).symm
theorem yw_put {o : Oper} {v : Value} {a : Act} {w : World} (hs : ∀ cs b, o.op ≠ .select cs b) (hy : YW P ops o v a w) {dst : Option Tmp} {u : Value} (h : ∀ d, dst = some d → d ∉ o.looksAt ops) : YW P ops o v (a.put dst u) w :=
  hy.of_same (execOp_put o hs a dst u h) (wanted_put o a dst u h)
theorem yw_unput {o : Oper} {v : Value} {a : Act} {w : World} (hs : ∀ cs b, o.op ≠ .select cs b) {dst : Option Tmp} {u : Value} (hy : YW P ops o v (a.put dst u) w) (h : ∀ d, dst = some d → d ∉ o.looksAt ops) : YW P ops o v a w :=
  hy.of_same (execOp_put o hs a dst u h).symm (wanted_put o a dst u h).symm
theorem yw_unputs {o : Oper} {v : Value} {w : World} (hs : ∀ cs b, o.op ≠ .select cs b) : ∀ {M : List (Nat × Value)} {a : Act}, YW P ops o v (puts ops M a) w → (∀ m, m ∈ M → ∀ d, dstOf ops m.1 = some d → d ∉ o.looksAt ops) → YW P ops o v a w
  | [], _, h, _ => h
  | (k, u) :: M, a, h, hd => yw_unput hs (yw_unputs (M := M) hs h fun m hm => hd m (List.mem_cons_of_mem _ hm)) (hd (k, u) (List.mem_cons_self ..))

variable (hsel : ∀ (j : Nat) (o : Oper) cs b, ops[j]? = some o → o.op ≠ .select cs b)
include hsel

/-- Two neighbours change places. -/
theorem good_swap {pend : List (Nat × Value)} {x y : Nat} {u v : Value} {M : List (Nat × Value)} {L : Array Bool} {a : Act} {w : World}
    (h0 : Good0 P ops pend ((x, u) :: (y, v) :: M) L a) (hw : GoodW P ops ((x, u) :: (y, v) :: M) a w) (hr : y ∈ Region.ready .any ops L) :
    Good0 P ops pend ((y, v) :: (x, u) :: M) L a ∧ GoodW P ops ((y, v) :: (x, u) :: M) a w ∧ puts ops ((y, v) :: (x, u) :: M) a = puts ops ((x, u) :: (y, v) :: M) a ∧ fin ((y, v) :: (x, u) :: M) L = fin ((x, u) :: (y, v) :: M) L := by
  obtain ⟨⟨ox, hx, hrx, hax, hyx⟩, ⟨oy, hy, hry, hay, hyy⟩, hM⟩ := h0
  obtain ⟨wx, wy, wM⟩ := hw
  have hun := set_unl (ready_unl hry)
  have hnw : notWait oy x := ready_notWait hy hr (ready_unl hrx)
  have hap : ox.apart ops oy = true := hax y oy hy hun.2 (ready_unl hr) hnw
  obtain ⟨a1, a2, a3⟩ := Oper.apart_spec hap
  have dx := dstOf_eq hx
  have dy := dstOf_eq hy
  have hcomm : (a.put (dstOf ops x) u).put (dstOf ops y) v = (a.put (dstOf ops y) v).put (dstOf ops x) u := by
    rw [dx, dy]; exact Act.put_comm a u v a2
  have hset : (L.setIfInBounds x true).setIfInBounds y true = (L.setIfInBounds y true).setIfInBounds x true := Array.setIfInBounds_comm _ _ (Ne.symm hun.2)
  have hdx : ∀ d, dstOf ops x = some d → d ∉ oy.looksAt ops := fun d hd => a1 d (dx ▸ hd)
  have hdy : ∀ d, dstOf ops y = some d → d ∉ ox.looksAt ops := fun d hd => a3 d (dy ▸ hd)
  have sx := fun cs b => hsel x ox cs b hx
  have sy := fun cs b => hsel y oy cs b hy
  refine ⟨⟨⟨oy, hy, hr, ?_, ?_⟩, ⟨ox, hx, ready_mono hrx (Ne.symm hun.2), ?_, ?_⟩, ?_⟩, ⟨?_, ?_, ?_⟩, ?_, ?_⟩
  · intro j oj hj hne hl hw'
    by_cases e : j = x
    · subst e
      rw [hx] at hj; cases hj
      exact apart_symm hap
    · exact hay j oj hj hne (unl_set hl e) hw'
  · rcases hyy with hyy | ⟨hm, hd⟩
    · exact .inl (yields_unput sy hyy hdx)
    · refine .inr ⟨hm, fun m hm' => ?_⟩
      rcases List.mem_cons.1 hm' with rfl | hm'
      · exact hd _ (List.mem_cons_self ..)
      · rcases List.mem_cons.1 hm' with rfl | hm'
        · exact hdx
        · exact hd m (List.mem_cons_of_mem _ hm')
  · intro j oj hj hne hl hw'
    exact hax j oj hj hne (set_unl hl).1 hw'
  · rcases hyx with hyx | ⟨hm, hd⟩
    · exact .inl (yields_put sx hyx hdy)
    · refine .inr ⟨hm, fun m hm' => ?_⟩
      rcases List.mem_cons.1 hm' with rfl | hm'
      · exact hd _ (List.mem_cons_self ..)
      · exact hd m (List.mem_cons_of_mem _ (List.mem_cons_of_mem _ hm'))
  · rw [← hset, ← hcomm]; exact hM
  · intro ok hk
    rw [hy] at hk; cases hk
    exact yw_unput sy (wy _ hy) hdx
  · intro ok hk
    rw [hx] at hk; cases hk
    exact yw_put sx (wx _ hx) hdy
  · rw [← hcomm]; exact wM
  · simp only [puts]; rw [hcomm]
  · simp only [fin]; rw [hset]

/-- One that may come now is brought to the front. -/
theorem good_pull {pend : List (Nat × Value)} {j : Nat} {w : World} : ∀ {M : List (Nat × Value)} {L : Array Bool} {a : Act}, Good0 P ops pend M L a → GoodW P ops M a w → j ∈ Region.ready .any ops L → (∃ u, (j, u) ∈ M) →
    ∃ u M', M.Perm ((j, u) :: M') ∧ Good0 P ops pend ((j, u) :: M') L a ∧ GoodW P ops ((j, u) :: M') a w ∧ puts ops ((j, u) :: M') a = puts ops M a ∧ fin ((j, u) :: M') L = fin M L
  | [], _, _, _, _, _, ⟨u, hu⟩ => by cases hu
  | (x, u) :: M, L, a, h0, hw, hr, ⟨v, hv⟩ => by
    by_cases e : x = j
    · subst e
      exact ⟨u, M, .refl _, h0, hw, rfl, rfl⟩
    · have hv' : (j, v) ∈ M := by
        rcases List.mem_cons.1 hv with h | h
        · cases h; exact absurd rfl e
        · exact h
      obtain ⟨u', M', hp, g0, gw, e1, e2⟩ := good_pull (M := M) h0.2 hw.2 (ready_mono hr (Ne.symm e)) ⟨v, hv'⟩
      have h0' : Good0 P ops pend ((x, u) :: (j, u') :: M') L a := by
        obtain ⟨⟨ok, h1, h2, h3, h4⟩, _⟩ := h0
        refine ⟨⟨ok, h1, h2, h3, ?_⟩, g0⟩
        rcases h4 with h4 | ⟨h4, h5⟩
        · exact .inl h4
        · refine .inr ⟨h4, fun m hm => h5 m ?_⟩
          rcases List.mem_cons.1 hm with hm | hm
          · exact List.mem_cons.2 (.inl hm)
          · exact List.mem_cons_of_mem _ (hp.mem_iff.2 hm)
      have hw' : GoodW P ops ((x, u) :: (j, u') :: M') a w := ⟨hw.1, gw⟩
      obtain ⟨s0, sw, s1, s2⟩ := good_swap hsel h0' hw' hr
      refine ⟨u', (x, u) :: M', ((hp.cons (x, u)).trans (.swap _ _ _)), s0, sw, s1.trans ?_, s2.trans ?_⟩
      · simp only [puts] at e1 ⊢; exact e1
      · simp only [fin] at e2 ⊢; exact e2

theorem good_notMem {pend : List (Nat × Value)} {j : Nat} : ∀ {M : List (Nat × Value)} {L : Array Bool} {a : Act}, Good0 P ops pend M L a → j ∈ Region.ready .any ops L → (¬ ∃ u, (j, u) ∈ M) → j ∈ Region.ready .any ops (fin M L)
  | [], _, _, _, hr, _ => hr
  | (x, u) :: M, L, a, h0, hr, hn => good_notMem (M := M) h0.2 (ready_mono hr fun e => hn ⟨u, by rw [e]; exact List.mem_cons_self ..⟩) fun ⟨v, hv⟩ => hn ⟨v, List.mem_cons_of_mem _ hv⟩

/-- One that may come, and is none of those, is apart from them all. -/
theorem good_apart {pend : List (Nat × Value)} {j : Nat} {oj : Oper} (hj : ops[j]? = some oj) : ∀ {M : List (Nat × Value)} {L : Array Bool} {a : Act}, Good0 P ops pend M L a → j ∈ Region.ready .any ops L → (¬ ∃ u, (j, u) ∈ M) → ∀ k u, (k, u) ∈ M → ∃ ok, ops[k]? = some ok ∧ ok.apart ops oj = true
  | [], _, _, _, _, _, _, _, hm => by cases hm
  | (x, u) :: M, L, a, h0, hr, hn, k, v, hm => by
    have hne : j ≠ x := fun e => hn ⟨u, by rw [e]; exact List.mem_cons_self ..⟩
    rcases List.mem_cons.1 hm with e | hm
    · cases e
      obtain ⟨⟨ok, h1, h2, h3, _⟩, _⟩ := h0
      exact ⟨ok, h1, h3 j oj hj hne (ready_unl hr) (ready_notWait hj hr (ready_unl h2))⟩
    · exact good_apart hj (M := M) h0.2 (ready_mono hr hne) (fun ⟨v, hv⟩ => hn ⟨v, List.mem_cons_of_mem _ hv⟩) k v hm

theorem good_keys {pend : List (Nat × Value)} : ∀ {M : List (Nat × Value)} {L : Array Bool} {a : Act}, Good0 P ops pend M L a → ∀ k u, (k, u) ∈ M → L.getD k true = false
  | [], _, _, _, _, _, hm => by cases hm
  | (x, u) :: M, L, a, h0, k, v, hm => by
    rcases List.mem_cons.1 hm with e | hm
    · cases e
      exact ready_unl h0.1.choose_spec.2.1
    · exact (set_unl (good_keys (M := M) h0.2 k v hm)).1

theorem puts_put {j : Option Tmp} {v : Value} : ∀ {M : List (Nat × Value)} {a : Act}, (∀ m, m ∈ M → ∀ d, dstOf ops m.1 = some d → j ≠ some d) → (puts ops M a).put j v = puts ops M (a.put j v)
  | [], _, _ => rfl
  | (k, u) :: M, a, h => by
    simp only [puts]
    rw [puts_put (M := M) (fun m hm => h m (List.mem_cons_of_mem _ hm)), Act.put_comm a u v (h (k, u) (List.mem_cons_self ..))]
theorem puts_defers : ∀ {M : List (Nat × Value)} {a : Act}, (puts ops M a).defers = a.defers
  | [], _ => rfl
  | (k, u) :: M, a => by
    simp only [puts]
    rw [puts_defers (M := M)]
    cases dstOf ops k <;> rfl
theorem puts_with {ds : List Deferred} : ∀ {M : List (Nat × Value)} {a : Act}, ({ puts ops M a with defers := ds } : Act) = puts ops M { a with defers := ds }
  | [], _ => rfl
  | (k, u) :: M, a => by
    simp only [puts]
    rw [puts_with (M := M)]
    cases dstOf ops k <;> rfl
theorem puts_exec {oj : Oper} (hs : ∀ cs b, oj.op ≠ .select cs b) : ∀ {M : List (Nat × Value)} {a : Act}, (∀ m, m ∈ M → ∀ d, dstOf ops m.1 = some d → d ∉ oj.looksAt ops) →
    execOp (puts ops M a).eval oj = execOp a.eval oj ∧ Region.wanted oj (yielded ops (puts ops M a).tmps) = Region.wanted oj (yielded ops a.tmps)
  | [], _, _ => ⟨rfl, rfl⟩
  | (k, u) :: M, a, h => by
    obtain ⟨h1, h2⟩ := puts_exec hs (M := M) (a := a.put (dstOf ops k) u) (fun m hm => h m (List.mem_cons_of_mem _ hm))
    have hk := h (k, u) (List.mem_cons_self ..)
    exact ⟨h1.trans (execOp_put oj hs a _ u hk), h2.trans (wanted_put oj a _ u hk)⟩

/-- A loud operation, while those are still to come. -/
theorem wpOp_sub {j : Nat} {oj : Oper} (hj : ops[j]? = some oj) {M : List (Nat × Value)} (hM : ∀ k u, (k, u) ∈ M → ∃ ok, ops[k]? = some ok ∧ ok.apart ops oj = true)
    (hQ : ∀ ch a a' w, a.defers = a'.defers → Q (.panic ch) a w → Q (.panic ch) a' w) {K : Act → World → Prop} {a : Act} {w : World} (h : wpOp P ops Q j K (puts ops M a) w) :
    wpOp P ops Q j (fun a' w' => (∃ v ds, a' = ({ a with defers := ds } : Act).put oj.dst v) ∧ K (puts ops M a') w') a w := by
  have hs := fun cs b => hsel j oj cs b hj
  have hlook : ∀ m, m ∈ M → ∀ d, dstOf ops m.1 = some d → d ∉ oj.looksAt ops := fun m hm d hd => by
    obtain ⟨ok, h1, h2⟩ := hM m.1 m.2 hm
    exact (Oper.apart_spec h2).1 d (dstOf_eq h1 ▸ hd)
  have hdst : ∀ m, m ∈ M → ∀ d, dstOf ops m.1 = some d → oj.dst ≠ some d := fun m hm d hd => by
    obtain ⟨ok, h1, h2⟩ := hM m.1 m.2 hm
    exact (Oper.apart_spec h2).2.1 d (dstOf_eq h1 ▸ hd)
  obtain ⟨e1, e2⟩ := puts_exec hsel hs (a := a) hlook
  have hput : ∀ v, (puts ops M a).put oj.dst v = puts ops M (a.put oj.dst v) := fun v => puts_put hsel hdst
  have hself : ∀ v, ∃ u ds, a.put oj.dst v = ({ a with defers := ds } : Act).put oj.dst u := fun v => ⟨v, a.defers, rfl⟩
  unfold wpOp at *
  simp only [hj] at *
  rw [e2] at h
  split
  · rename_i hw
    simp only [hw, if_true] at h
    rcases h with h | ⟨hasks, hlets⟩
    case inr => exact .inr ⟨by unfold Oper.asks at *; rw [e1] at hasks; exact hasks, hlets⟩
    refine .inl ?_
    unfold Oper.wp at *
    rw [e1] at h
    generalize (execOp a.eval oj).run P w = r at *
    cases r with
    | ok n w' =>
      cases n <;> simp only [Oper.upon] at h ⊢
      case value u => exact ⟨hself u, by rw [← hput]; exact h⟩
      case skip => exact ⟨hself _, by rw [← hput]; exact h⟩
      case defer d =>
        refine ⟨⟨undef, d :: a.defers, rfl⟩, ?_⟩
        have e3 : ({ puts ops M a with defers := d :: (puts ops M a).defers } : Act).put oj.dst undef = puts ops M (({ a with defers := d :: a.defers } : Act).put oj.dst undef) := by
          rw [puts_defers hsel, puts_with hsel]
          exact puts_put hsel hdst
        rw [← e3]; exact h
      case enter f args =>
        refine Calls.mono h fun e w'' he => ?_
        cases e with
        | returned u => exact ⟨hself u, by rw [← hput]; exact he⟩
        | panicked c => exact hQ _ _ _ _ (puts_defers hsel) he
        | outgrown => exact he
      case row row args => exact Rows.mono h fun u w'' he => ⟨hself u, by rw [← hput]; exact he⟩
    | halt x w' =>
      cases x <;> simp only [Oper.upon] at h ⊢
      case panic u => exact hQ _ _ _ _ (puts_defers hsel) h
  · rename_i hw
    simp only [hw] at h
    exact ⟨hself _, by rw [← hput]; exact h⟩

theorem yields_defers {o : Oper} {v : Value} {a : Act} (hy : Yields P ops o v a) (ds : List Deferred) : Yields P ops o v { a with defers := ds } := hy.of_same rfl rfl

/-- Behind one that is apart from them all, they are still good. -/
theorem good_put {pend pend' : List (Nat × Value)} {j : Nat} {oj : Oper} (hj : ops[j]? = some oj) {v : Value} {ds : List Deferred} : ∀ {M : List (Nat × Value)} {L : Array Bool} {a : Act}, Good0 P ops pend M L a → (¬ ∃ u, (j, u) ∈ M) →
    (∀ k u, (k, u) ∈ M → ∃ ok, ops[k]? = some ok ∧ ok.apart ops oj = true) → (∀ k u, (k, u) ∈ M → (k, u) ∈ pend → (k, u) ∈ pend') → Good0 P ops pend' M (L.setIfInBounds j true) (({ a with defers := ds } : Act).put oj.dst v)
  | [], _, _, _, _, _, _ => trivial
  | (x, u) :: M, L, a, h0, hn, hap, hp => by
    obtain ⟨⟨ok, h1, h2, h3, h4⟩, h5⟩ := h0
    have hne : x ≠ j := fun e => hn ⟨u, by rw [← e]; exact List.mem_cons_self ..⟩
    obtain ⟨ok', h1', ha⟩ := hap x u (List.mem_cons_self ..)
    rw [h1] at h1'; cases h1'
    obtain ⟨a1, a2, a3⟩ := Oper.apart_spec ha
    have so := fun cs b => hsel x ok cs b h1
    refine ⟨⟨ok, h1, ready_mono h2 hne, fun i oi hi hne' hl hw => h3 i oi hi hne' (set_unl hl).1 hw, ?_⟩, ?_⟩
    · rcases h4 with h4 | ⟨h4, h6⟩
      · exact .inl (yields_put so (yields_defers hsel h4 ds) a3)
      · exact .inr ⟨hp x u (List.mem_cons_self ..) h4, h6⟩
    · have ih := good_put hj (v := v) (ds := ds) (M := M) h5 (fun ⟨v, hv⟩ => hn ⟨v, List.mem_cons_of_mem _ hv⟩) (fun k u hm => hap k u (List.mem_cons_of_mem _ hm)) (fun k u hm => hp k u (List.mem_cons_of_mem _ hm))
      have e1 : (L.setIfInBounds x true).setIfInBounds j true = (L.setIfInBounds j true).setIfInBounds x true := Array.setIfInBounds_comm _ _ hne
      have e2 : (({ a.put (dstOf ops x) u with defers := ds } : Act)).put oj.dst v = ((({ a with defers := ds } : Act)).put oj.dst v).put (dstOf ops x) u := by
        have e3 : ({ a.put (dstOf ops x) u with defers := ds } : Act) = ({ a with defers := ds } : Act).put (dstOf ops x) u := by cases dstOf ops x <;> rfl
        rw [e3, dstOf_eq h1]
        exact Act.put_comm _ u v a2
      rw [e1, e2] at ih
      exact ih

/-- What is told of the loads at the end holds at their own places. -/
theorem good_back {pend : List (Nat × Value)} {w : World} : ∀ {M : List (Nat × Value)} {L : Array Bool} {a : Act}, Good0 P ops pend M L a → (∀ k u, (k, u) ∈ M → (k, u) ∈ pend → ∀ ok, ops[k]? = some ok → YW P ops ok u (puts ops M a) w) → GoodW P ops M a w
  | [], _, _, _, _ => trivial
  | (x, u) :: M, L, a, h0, h => by
    obtain ⟨⟨ok, h1, h2, h3, h4⟩, h5⟩ := h0
    refine ⟨fun ok' hk => ?_, good_back (M := M) h5 fun k u hm => h k u (List.mem_cons_of_mem _ hm)⟩
    rw [h1] at hk; cases hk
    rcases h4 with h4 | ⟨h4, h6⟩
    · exact .of_yields h4
    · exact yw_unputs (fun cs b => hsel x ok cs b h1) (h x u (List.mem_cons_self ..) h4 ok h1) h6

/-- One more has come there. -/
theorem good_snoc {pend pend' : List (Nat × Value)} {i : Nat} {oi : Oper} {v : Value} (hi : ops[i]? = some oi) (hp : ∀ x, x ∈ pend → x ∈ pend') (hpk : ∀ k u, (k, u) ∈ pend → ∀ ok, ops[k]? = some ok → ∀ d, oi.dst = some d → d ∉ ok.looksAt ops) :
    ∀ {M : List (Nat × Value)} {L : Array Bool} {a : Act}, Good0 P ops pend M L a → i ∈ Region.ready .any ops (fin M L) →
    (∀ j oj, ops[j]? = some oj → j ≠ i → (fin M L).getD j true = false → notWait oj i → oi.apart ops oj = true) →
    (Yields P ops oi v (puts ops M a) ∨ ((i, v) ∈ pend' ∧ ∀ d, oi.dst = some d → d ∉ oi.looksAt ops)) → Good0 P ops pend' (M ++ [(i, v)]) L a
  | [], L, a, _, hr, hf, hy => ⟨⟨oi, hi, hr, hf, hy.imp id fun ⟨h1, h2⟩ => ⟨h1, fun m hm d hd => by
      simp only [List.mem_singleton] at hm
      subst hm
      exact h2 d (dstOf_eq hi ▸ hd)⟩⟩, trivial⟩
  | (x, u) :: M, L, a, h0, hr, hf, hy => by
    obtain ⟨⟨ok, h1, h2, h3, h4⟩, h5⟩ := h0
    refine ⟨⟨ok, h1, h2, h3, ?_⟩, good_snoc hi hp hpk (M := M) h5 hr hf hy⟩
    rcases h4 with h4 | ⟨h4, h6⟩
    · exact .inl h4
    · refine .inr ⟨hp _ h4, fun m hm d hd => ?_⟩
      have hm' : m ∈ ((x, u) :: M) ++ [(i, v)] := hm
      rcases List.mem_append.1 hm' with hm | hm
      · exact h6 m hm d hd
      · simp only [List.mem_singleton] at hm
        subst hm
        exact hpk x u h4 ok h1 d (dstOf_eq hi ▸ hd)

theorem goodW_snoc {i : Nat} {oi : Oper} {v : Value} {w : World} (hi : ops[i]? = some oi) : ∀ {M : List (Nat × Value)} {a : Act}, GoodW P ops M a w → YW P ops oi v (puts ops M a) w → GoodW P ops (M ++ [(i, v)]) a w
  | [], _, _, hy => ⟨fun ok hk => by rw [hi] at hk; cases hk; exact hy, trivial⟩
  | (x, u) :: M, _, hw, hy => ⟨hw.1, goodW_snoc hi (M := M) hw.2 hy⟩
theorem puts_snoc {i : Nat} {v : Value} : ∀ {M : List (Nat × Value)} {a : Act}, puts ops (M ++ [(i, v)]) a = (puts ops M a).put (dstOf ops i) v
  | [], _ => rfl
  | (x, u) :: M, a => by simp only [List.cons_append, puts]; exact puts_snoc (M := M)
theorem fin_snoc {i : Nat} {v : Value} : ∀ {M : List (Nat × Value)} {L : Array Bool}, fin (M ++ [(i, v)]) L = (fin M L).setIfInBounds i true
  | [], _ => rfl
  | (x, u) :: M, L => by simp only [List.cons_append, fin]; exact fin_snoc (M := M)
theorem fin_set {j : Nat} : ∀ {M : List (Nat × Value)} {L : Array Bool}, (¬ ∃ u, (j, u) ∈ M) → fin M (L.setIfInBounds j true) = (fin M L).setIfInBounds j true
  | [], _, _ => rfl
  | (x, u) :: M, L, hn => by
    have hne : x ≠ j := fun e => hn ⟨u, by rw [← e]; exact List.mem_cons_self ..⟩
    simp only [fin]
    rw [← fin_set (M := M) (fun ⟨v, hv⟩ => hn ⟨v, List.mem_cons_of_mem _ hv⟩), Array.setIfInBounds_comm _ _ hne]

omit hsel in
/-- Whoever has come has come behind all that it waits for. -/
def closedL (ops : Array Oper) (L : Array Bool) : Prop := ∀ i oi, ops[i]? = some oi → L.getD i false = true → ∀ e ∈ oi.after, Region.binds .any e = true → L.getD e.on false = true
omit hsel in
theorem closedL.set {L : Array Bool} {j : Nat} (h : closedL ops L) (hr : j ∈ Region.ready .any ops L) : closedL ops (L.setIfInBounds j true) := by
  intro i oi hi hl e he hb
  by_cases hij : j = i
  · subst hij
    obtain ⟨_, o, ho, hall⟩ := mem_ready.1 hr
    rw [hi] at ho; cases ho
    exact getD_set_true (hall e he hb)
  · rw [getD_set_ne false hij] at hl
    exact getD_set_true (h i oi hi hl e he hb)

omit hsel in
def dep (ms : List Nat) (k i : Nat) : Bool := (ms.getD i 0).testBit k
omit hsel in
/-- Each bit has its reason. -/
def msOk (ops : Array Oper) (ms : List Nat) : Bool :=
  (List.range ops.size).all fun i => (List.range ops.size).all fun k => !dep ms k i || match ops[i]? with
    | some o => o.after.toList.any fun e => Region.binds .any e && decide (e.on < i) && (e.on == k || dep ms k e.on)
    | none => false
omit hsel in
theorem dep_closed {ms : List Nat} {L : Array Bool} (hms : msOk ops ms = true) (hL : closedL ops L) {k : Nat} (hk : k < ops.size) : ∀ i oi, ops[i]? = some oi → (∀ e ∈ oi.after, Region.binds .any e = true → L.getD e.on false = true) → dep ms k i = true → L.getD k false = true := by
  intro i
  induction i using Nat.strongRecOn with
  | _ i ih =>
    intro oi hi hall hd
    have hlt : i < ops.size := (Array.getElem?_eq_some_iff.1 hi).1
    simp only [msOk, List.all_eq_true, List.mem_range] at hms
    have h1 := hms i hlt k hk
    rw [hd, hi] at h1
    simp only [Bool.not_true, Bool.false_or, List.any_eq_true, Bool.and_eq_true, decide_eq_true_eq, Bool.or_eq_true, beq_iff_eq] at h1
    obtain ⟨e, he, ⟨hb, hlt'⟩, h2⟩ := h1
    have he' : e ∈ oi.after := by simpa using he
    have hl := hall e he' hb
    rcases h2 with h2 | h2
    · rw [← h2]; exact hl
    · have hon : e.on < ops.size := by omega
      have hoe : ops[e.on]? = some ops[e.on] := Array.getElem?_eq_getElem hon
      exact ih e.on hlt' _ hoe (hL _ _ hoe hl) h2

omit hsel in
/-- A plan: p: a pure one, then the rest; q: one that reads; x: a loud one, then the rest, or else one of the others. -/
inductive Pl
  | nil
  | none
  | p (i : Nat) (r : Pl)
  | q (i : Nat) (r : Pl)
  | x (i : Nat) (r o : Pl)
omit hsel in
def Pl.len : Pl → Nat
  | .nil => 0
  | .none => 0
  | .p _ r => r.len + 1
  | .q _ r => r.len + 1
  | .x _ r _ => r.len + 1
omit hsel in
def Pl.alts : Pl → List Nat
  | .x i _ o => i :: o.alts
  | _ => []
omit hsel in
/-- The walk of a plan. -/
def wpP (P : Program) (ops : Array Oper) (Q : Exit → Act → World → Prop) (ms : List Nat) : Pl → List (Nat × Value) → Act → World → Prop
  | .nil, _, a, w => Q .normal a w
  | .none, _, _, _ => True
  | .p i pl, pend, a, w => ∃ o v, ops[i]? = some o ∧ Yields P ops o v a ∧ wpP P ops Q ms pl pend (a.put o.dst v) w
  | .q i pl, pend, a, w => ∃ o v, ops[i]? = some o ∧ YW P ops o v a w ∧ wpP P ops Q ms pl ((i, v) :: pend) (a.put o.dst v) w
  | .x i pl o, pend, a, w => wpOp P ops Q i (fun a' w' => (∀ k u, (k, u) ∈ pend.filter (fun x => !dep ms x.1 i) → ∀ ok, ops[k]? = some ok → YW P ops ok u a' w') ∧ wpP P ops Q ms pl (pend.filter (fun x => !dep ms x.1 i)) a' w') a w ∧ wpP P ops Q ms o pend a w

omit hsel in
def offLooks (ops : Array Oper) (i k : Nat) : Bool := match dstOf ops i, ops[k]? with
  | some d, some ok => !(ok.looksAt ops).contains d
  | _, _ => true
omit hsel in
theorem offLooks_spec {i k : Nat} {oi ok : Oper} (hi : ops[i]? = some oi) (hk : ops[k]? = some ok) (h : offLooks ops i k = true) : ∀ d, oi.dst = some d → d ∉ ok.looksAt ops := by
  intro d hd
  have := dstOf_eq hi
  rw [hd] at this
  simp only [offLooks, this, hk] at h
  simpa using h
omit hsel in
def Pl.isNone : Pl → Bool
  | .none => true
  | _ => false
omit hsel in
def planOk (ops : Array Oper) (ms : List Nat) : Bool → Array Bool → List Nat → Pl → Bool
  | t, L, _, .nil => t && (Region.ready .any ops L).isEmpty
  | t, _, _, .none => !t
  | t, L, pk, .p i pl => t && (Region.ready .any ops L).contains i && Region.free .any ops L i && pk.all (offLooks ops i ·) && planOk ops ms true (L.setIfInBounds i true) pk pl
  | t, L, pk, .q i pl => t && (Region.ready .any ops L).contains i && Region.free .any ops L i && pk.all (offLooks ops i ·) && offLooks ops i i && decide (i < ops.size) && planOk ops ms true (L.setIfInBounds i true) (i :: pk) pl
  | t, L, pk, .x i pl o => (!t || decide (Region.ready .any ops L = i :: o.alts)) && (o.isNone || decide (o.len = pl.len + 1)) && planOk ops ms true (L.setIfInBounds i true) (pk.filter fun k => !dep ms k i) pl && planOk ops ms false L pk o

omit hsel in
theorem alt_of {ms : List Nat} {L : Array Bool} {pk : List Nat} {pend : List (Nat × Value)} {a : Act} {w : World} {j : Nat} : ∀ (pl : Pl) (n : Nat), j ∈ pl.alts → pl.len = n + 1 → planOk ops ms false L pk pl = true → wpP P ops Q ms pl pend a w →
    ∃ r : Pl, r.len = n ∧ planOk ops ms true (L.setIfInBounds j true) (pk.filter fun k => !dep ms k j) r = true ∧ wpOp P ops Q j (fun a' w' => (∀ k u, (k, u) ∈ pend.filter (fun x => !dep ms x.1 j) → ∀ ok, ops[k]? = some ok → YW P ops ok u a' w') ∧ wpP P ops Q ms r (pend.filter (fun x => !dep ms x.1 j)) a' w') a w
  | .nil, _, h, _, _, _ => by cases h
  | .none, _, h, _, _, _ => by cases h
  | .p _ _, _, h, _, _, _ => by cases h
  | .q _ _, _, h, _, _, _ => by cases h
  | .x i r o, n, h, hl, hok, hw => by
    simp only [planOk, Bool.and_eq_true, Bool.or_eq_true, decide_eq_true_eq] at hok
    obtain ⟨⟨⟨_, ho⟩, hr⟩, hok'⟩ := hok
    have hl' : r.len = n := by simpa [Pl.len] using hl
    simp only [Pl.alts, List.mem_cons] at h
    rcases h with rfl | h
    · exact ⟨r, hl', hr, hw.1⟩
    · refine alt_of o n h ?_ hok' hw.2
      rcases ho with ho | ho
      · cases o <;> simp [Pl.isNone] at ho
        cases h
      · omega

theorem good_ready {pend : List (Nat × Value)} {M : List (Nat × Value)} {L : Array Bool} {a : Act} (h : Good0 P ops pend M L a) (hr : Region.ready .any ops L = []) : M = [] := by
  cases M with
  | nil => rfl
  | cons x M =>
    obtain ⟨k, u⟩ := x
    have := h.1.choose_spec.2.1
    rw [hr] at this
    cases this

theorem any_of_plan {ms : List Nat} (hms : msOk ops ms = true) (hQ : ∀ ch a a' w, a.defers = a'.defers → Q (.panic ch) a w → Q (.panic ch) a' w) :
    ∀ (n : Nat) (pl : Pl), pl.len = n → ∀ (pend : List (Nat × Value)) (pk : List Nat) (listed : Array Bool) (a : Act) (w : World), planOk ops ms true listed pk pl = true → wpP P ops Q ms pl pend a w → (∀ k u, (k, u) ∈ pend → k ∈ pk ∧ k < ops.size) →
    ∀ (m : Nat) (M : List (Nat × Value)) (L : Array Bool) (a0 : Act), M.length = m → Good0 P ops pend M L a0 → GoodW P ops M a0 w → fin M L = listed → puts ops M a0 = a → closedL ops L → wpAny P .any ops Q (n + m) L a0 w := by
  intro n
  induction n with
  | zero =>
    intro pl hlen pend pk listed a w hok hwp hpk m
    obtain rfl : pl = .nil := by
      cases pl <;> simp [Pl.len] at hlen
      · rfl
      · simp [planOk] at hok
    have hr0 : Region.ready .any ops listed = [] := by simpa [planOk] using hok
    induction m with
    | zero =>
      intro M L a0 hm h0 hw hf hp hcl
      have : M = [] := List.eq_nil_of_length_eq_zero hm
      subst this
      simp only [fin, puts] at hf hp
      subst hf; subst hp
      exact ⟨hr0, hwp⟩
    | succ m ihm =>
      intro M L a0 hm h0 hw hf hp hcl
      refine ⟨fun hr => ?_, fun j hj => ?_⟩
      · have := good_ready hsel h0 hr
        subst this
        cases hm
      · by_cases hin : ∃ u, (j, u) ∈ M
        · obtain ⟨u, M', hpm, g0, gw, e1, e2⟩ := good_pull hsel h0 hw hj hin
          obtain ⟨⟨oj, hoj, _, _, _⟩, g1⟩ := g0
          refine YW.wpOp hoj (gw.1 oj hoj) ?_
          have hl := hpm.length_eq
          rw [← dstOf_eq hoj]
          refine ihm M' _ _ (by simp at hl; omega) g1 gw.2 (by rw [← hf, ← e2]; rfl) (by rw [← hp, ← e1]; rfl) (hcl.set hj)
        · have := good_notMem hsel h0 hj hin
          rw [hf, hr0] at this
          cases this
  | succ n ih =>
    intro pl0 hlen pend pk listed a w hok hwp hpk m
    -- the quiet ones: the walk there goes on; here nothing comes
    have quiet : ∀ (i : Nat) (pl : Pl), pl.len = n → ∀ (oi : Oper) (v : Value) (pend' : List (Nat × Value)) (pk' : List Nat), ops[i]? = some oi → i ∈ Region.ready .any ops listed → Region.free .any ops listed i = true → pk.all (offLooks ops i ·) = true → planOk ops ms true (listed.setIfInBounds i true) pk' pl = true →
        (∀ x, x ∈ pend → x ∈ pend') → (∀ k u, (k, u) ∈ pend' → k ∈ pk' ∧ k < ops.size) → YW P ops oi v a w → (Yields P ops oi v a ∨ ((i, v) ∈ pend' ∧ ∀ d, oi.dst = some d → d ∉ oi.looksAt ops)) → wpP P ops Q ms pl pend' (a.put oi.dst v) w →
        ∀ (M : List (Nat × Value)) (L : Array Bool) (a0 : Act), M.length = m → Good0 P ops pend M L a0 → GoodW P ops M a0 w → fin M L = listed → puts ops M a0 = a → closedL ops L → wpAny P .any ops Q (n + 1 + m) L a0 w := by
      intro i pl hpl oi v pend' pk' hoi hri hfr hall hok' hsub hpk' hyw hy hwp' M L a0 hm h0 hw hf hp hcl
      rw [show n + 1 + m = n + (m + 1) by omega]
      have hpk2 : ∀ k u, (k, u) ∈ pend → ∀ ok, ops[k]? = some ok → ∀ d, oi.dst = some d → d ∉ ok.looksAt ops := fun k u hm' ok hk => offLooks_spec hoi hk (List.all_eq_true.1 hall k (hpk k u hm').1)
      refine ih pl hpl pend' pk' _ _ w hok' hwp' hpk' (m + 1) (M ++ [(i, v)]) L a0 (by simp [hm]) ?_ ?_ ?_ ?_ hcl
      · refine good_snoc hsel hoi hsub hpk2 h0 (hf ▸ hri) ?_ (hp ▸ hy)
        rw [hf]
        exact fun j oj hj hne hun hnw => Region.free_spec hoi hfr j oj hj hne hun hnw
      · exact goodW_snoc hsel hoi hw (hp ▸ hyw)
      · rw [fin_snoc hsel, hf]
      · rw [puts_snoc hsel, hp, dstOf_eq hoi]
    cases pl0 with
    | nil => simp [Pl.len] at hlen
    | none => simp [Pl.len] at hlen
    | p i pl =>
      have hpl : pl.len = n := by simpa [Pl.len] using hlen
      obtain ⟨oi, v, hoi, hy, hwp'⟩ := hwp
      simp only [planOk, Bool.and_eq_true] at hok
      exact quiet i pl hpl oi v pend pk hoi (by simpa using hok.1.1.1.2) hok.1.1.2 hok.1.2 hok.2 (fun _ h => h) hpk (.of_yields hy) (.inl hy) hwp'
    | q i pl =>
      have hpl : pl.len = n := by simpa [Pl.len] using hlen
      obtain ⟨oi, v, hoi, hy, hwp'⟩ := hwp
      simp only [planOk, Bool.and_eq_true, decide_eq_true_eq] at hok
      refine quiet i pl hpl oi v ((i, v) :: pend) (i :: pk) hoi (by simpa using hok.1.1.1.1.1.2) hok.1.1.1.1.2 hok.1.1.1.2 hok.2 (fun _ h => List.mem_cons_of_mem _ h) (fun k u hm => ?_) hy (.inr ⟨List.mem_cons_self .., offLooks_spec hoi hoi hok.1.1.2⟩) hwp'
      rcases List.mem_cons.1 hm with e | hm
      · cases e; exact ⟨List.mem_cons_self .., hok.1.2⟩
      · exact ⟨List.mem_cons_of_mem _ (hpk k u hm).1, (hpk k u hm).2⟩
    | x i pl o =>
      clear quiet
      have hof : planOk ops ms false listed pk (.x i pl o) = true := by
        simp only [planOk, Bool.and_eq_true] at hok ⊢
        exact ⟨⟨⟨by simp, hok.1.1.2⟩, hok.1.2⟩, hok.2⟩
      have hri : Region.ready .any ops listed = (Pl.x i pl o).alts := by
        simp only [planOk, Bool.and_eq_true, Bool.not_true, Bool.false_or, decide_eq_true_eq] at hok
        exact hok.1.1.1
      have any : ∀ j, j ∈ Region.ready .any ops listed → ∃ (r : Pl) (oj : Oper), r.len = n ∧ ops[j]? = some oj ∧ planOk ops ms true (listed.setIfInBounds j true) (pk.filter fun k => !dep ms k j) r = true ∧ wpOp P ops Q j (fun a' w' => (∀ k u, (k, u) ∈ pend.filter (fun x => !dep ms x.1 j) → ∀ ok, ops[k]? = some ok → YW P ops ok u a' w') ∧ wpP P ops Q ms r (pend.filter (fun x => !dep ms x.1 j)) a' w') a w := by
        intro j hj
        obtain ⟨r, h1, h2, h3⟩ := alt_of (.x i pl o) n (by rw [← hri]; exact hj) hlen hof hwp
        obtain ⟨_, oj, hoj, _⟩ := mem_ready.1 hj
        exact ⟨r, oj, h1, hoj, h2, h3⟩
      have hne : Region.ready .any ops listed ≠ [] := by rw [hri]; simp [Pl.alts]
      induction m with
      | zero =>
        intro M L a0 hm h0 hw hf hp hcl
        have : M = [] := List.eq_nil_of_length_eq_zero hm
        subst this
        simp only [fin, puts] at hf hp
        subst hf; subst hp
        refine ⟨fun hr => (hne hr).elim, fun j hj => ?_⟩
        obtain ⟨r, oj, hrl, hoj, hok', hwj⟩ := any j hj
        refine wpOp_mono (fun a' w' h => ?_) hwj
        exact ih r hrl _ _ _ a' w' hok' h.2 (fun k u hm' => by
          obtain ⟨h1, h2⟩ := List.mem_filter.1 hm'
          exact ⟨List.mem_filter.2 ⟨(hpk k u h1).1, h2⟩, (hpk k u h1).2⟩) 0 [] _ a' rfl trivial trivial rfl rfl (hcl.set hj)
      | succ m ihm =>
        intro M L a0 hm h0 hw hf hp hcl
        refine ⟨fun hr => ?_, fun j hj => ?_⟩
        · have := good_ready hsel h0 hr
          subst this
          cases hm
        · by_cases hin : ∃ u, (j, u) ∈ M
          · obtain ⟨u, M', hpm, g0, gw, e1, e2⟩ := good_pull hsel h0 hw hj hin
            obtain ⟨⟨oj, hoj, _, _, _⟩, g1⟩ := g0
            refine YW.wpOp hoj (gw.1 oj hoj) ?_
            have hl := hpm.length_eq
            rw [← dstOf_eq hoj]
            refine ihm M' _ _ (by simp at hl; omega) g1 gw.2 (by rw [← hf, ← e2]; rfl) (by rw [← hp, ← e1]; rfl) (hcl.set hj)
          · have hj' := good_notMem hsel h0 hj hin
            rw [hf] at hj'
            obtain ⟨r, oi, hrl, hoi, hok', hwj⟩ := any j hj'
            have hap := good_apart hsel hoi h0 hj hin
            rw [← hp] at hwj
            refine wpOp_mono (fun a' w' h => ?_) (wpOp_sub hsel hoi hap hQ hwj)
            obtain ⟨⟨v, ds, e⟩, hpd, hwp'⟩ := h
            subst e
            obtain ⟨_, o', ho', hall'⟩ := mem_ready.1 hj
            rw [hoi] at ho'; cases ho'
            have hnd : ∀ k u, (k, u) ∈ M → (k, u) ∈ pend → (k, u) ∈ pend.filter (fun x => !dep ms x.1 j) := fun k u hm' hp' => by
              refine List.mem_filter.2 ⟨hp', ?_⟩
              cases hd : dep ms k j with
              | false => rfl
              | true =>
                have h1 := dep_closed hms hcl (hpk k u hp').2 j oi hoi hall' hd
                have h2 := unl_false (good_keys hsel h0 k u hm')
                rw [h1] at h2
                cases h2
            have g0 := good_put hsel hoi (v := v) (ds := ds) h0 hin hap hnd
            have e5 : (n + 1).add m = n + (m + 1) := by
              show n + 1 + m = _
              omega
            rw [e5]
            refine ih r hrl _ _ _ _ w' hok' hwp' (fun k u hm' => by
              obtain ⟨h1, h2⟩ := List.mem_filter.1 hm'
              exact ⟨List.mem_filter.2 ⟨(hpk k u h1).1, h2⟩, (hpk k u h1).2⟩) (m + 1) M _ _ hm g0 (good_back hsel g0 fun k u hm' hp' ok hk => hpd k u hp' ok hk) (by rw [fin_set hsel hin, hf]) rfl (hcl.set hj)

end
section
variable {P : Program} {ops : Array Oper} {Q : Exit → Act → World → Prop}
/-- A region that draws, by a plan. -/
theorem region_plan {id : Nat} {ms : List Nat} {pl : Pl} {a : Act} {w : World} (hm : P.follows .mixedOrders = true) (hsl : Region.noSelect ops = true) (hms : msOk ops ms = true) (hlen : pl.len = ops.size) (hok : planOk ops ms true (Array.replicate ops.size false) [] pl = true)
    (hQ : ∀ ch a a' w, a.defers = a'.defers → Q (.panic ch) a w → Q (.panic ch) a' w) (h : wpP P ops Q ms pl [] a { w with drawn := w.drawn + 1 }) : (Code.region id ops true).wp P Q a w := by
  have h1 := any_of_plan (Region.noSelect_spec hsl) hms hQ _ pl rfl [] [] _ a _ hok h (fun _ _ h => by cases h) 0 [] (Array.replicate ops.size false) a rfl trivial trivial rfl rfl (fun i oi hi hl => by
    have hlt : i < ops.size := (Array.getElem?_eq_some_iff.1 hi).1
    simp [hlt] at hl)
  rw [hlen] at h1
  exact wp_region_any hm h1

/-! ### The plan, in the judgement -/
variable {c : Cx} {l : TL} {H : List Asrt} {ms : List Nat} {pl o : Pl} {pend : List (Nat × Value)} {i : Nat}
variable {op : Op} {ty : TypeId} {pos : String} {af : Array Edge} {d : Nat} {v : Value} {dst : Option Tmp} {gd : Option (Nat × Bool)}

/-- Q says of a panic nothing of the temporaries. -/
def PanicFree (Q : Exit → Act → World → Prop) : Prop := ∀ ch a a' w, a.defers = a'.defers → Q (.panic ch) a w → Q (.panic ch) a' w
theorem PanicFree.body {fn : Func} {R : Ending → World → Prop} : PanicFree (bodyPost P fn R) := fun ch a a' w he h => ⟨he ▸ h.1, h.2⟩
theorem PanicFree.then_ {nx : Act → World → Prop} (h : PanicFree Q) : PanicFree (Exit.then nx Q) := h
theorem PanicFree.blk {id : Nat} (h : PanicFree Q) : PanicFree (Exit.inBlock id Q) := h

theorem J.draw {id : Nat} {os : List Oper} (ms : List Nat) (pl : Pl) (hm : P.follows .mixedOrders = true) (hQ : PanicFree Q) (hok : (Region.noSelect os.toArray && msOk os.toArray ms && decide (pl.len = os.toArray.size) && planOk os.toArray ms true (Array.replicate os.toArray.size false) [] pl) = true)
    (K : J c l H (wpP P os.toArray Q ms pl [])) : J c l H ((Code.region id os.toArray true).wp P Q) := J.mk fun a w s => by
  simp only [Bool.and_eq_true, decide_eq_true_eq] at hok
  exact region_plan hm hok.1.1.1 hok.1.1.2 hok.1.2 hok.2 hQ (K a _ ⟨s.1, s.2.1, s.2.2.drew⟩)

theorem J.pl_nil (K : J c l H (Q .normal)) : J c l H (wpP P ops Q ms .nil pend) := K
theorem J.pl_none : J c l H (wpP P ops Q ms .none pend) := J.mk fun a w s => trivial

theorem wanted_on {j dj : Nat} {b : Bool} {a : Act} {n : Nat} (r : TRel n l a) (hj : dstOf ops j = some dj) (hb : TL.get l dj = some (.bool b)) : Region.wanted ⟨dst, op, ty, pos, af, some (j, b)⟩ (yielded ops a.tmps) = true := by
  have h1 := r.get _ _ hb
  unfold dstOf at hj
  simp [Region.wanted, yielded, hj, h1]
/-- The guard of an operation: it is carried out, or not. -/
inductive Gd (l : TL) (ops : Array Oper) : Option (Nat × Bool) → Bool → Prop
  | none : Gd l ops none true
  | on {j dj b} (hj : dstOf ops j = some dj) (hb : TL.get l dj = some (.bool b)) : Gd l ops (some (j, b)) true
  | off {j dj b} {u : Value} (hj : dstOf ops j = some dj) (hb : TL.get l dj = some u) (hne : isB u b = false) : Gd l ops (some (j, b)) false
theorem Gd.wanted {t : Bool} (h : Gd l ops gd t) {a : Act} {n : Nat} (r : TRel n l a) : Region.wanted ⟨dst, op, ty, pos, af, gd⟩ (yielded ops a.tmps) = t := by
  cases h with
  | none => simp [Region.wanted]
  | on hj hb => exact wanted_on r hj hb
  | off hj hb hne => exact wanted_off r hj hb hne

theorem J.psplit0 {j dj : Nat} {b t : Bool} (hi : ops[i]? = some ⟨dst, op, ty, pos, af, some (j, b)⟩) (hj : dstOf ops j = some dj) (hb : TL.get l dj = some (.bool t))
    (K1 : t = true → J c ((dj, .bool true) :: l) H (wpP P ops Q ms (.p i pl) pend)) (K2 : t = false → J c ((dj, .bool false) :: l) H (wpP P ops Q ms (.p i pl) pend)) : J c l H (wpP P ops Q ms (.p i pl) pend) := J.split dj hb K1 K2
theorem J.psplit1 {j dj : Nat} {b t : Bool} (hi : ops[i]? = some ⟨dst, op, ty, pos, af, some (j, b)⟩) (hj : dstOf ops j = some dj) (hb : TL.get l dj = some (.bool t))
    (K1 : t = true → J c ((dj, .bool true) :: l) H (wpP P ops Q ms (.q i pl) pend)) (K2 : t = false → J c ((dj, .bool false) :: l) H (wpP P ops Q ms (.q i pl) pend)) : J c l H (wpP P ops Q ms (.q i pl) pend) := J.split dj hb K1 K2
theorem J.psplit2 {j dj : Nat} {b t : Bool} (hi : ops[i]? = some ⟨dst, op, ty, pos, af, some (j, b)⟩) (hj : dstOf ops j = some dj) (hb : TL.get l dj = some (.bool t))
    (K1 : t = true → J c ((dj, .bool true) :: l) H (wpP P ops Q ms (.x i pl o) pend)) (K2 : t = false → J c ((dj, .bool false) :: l) H (wpP P ops Q ms (.x i pl o) pend)) : J c l H (wpP P ops Q ms (.x i pl o) pend) := J.split dj hb K1 K2

/-- A pure one. -/
theorem J.pl0 (hi : ops[i]? = some ⟨some d, op, ty, pos, af, gd⟩) (hg : Gd l ops gd true) (hd : Nat.blt d c.n = true) (hv : Qv P c.n l op v) (K : J c ((d, v) :: l) H (wpP P ops Q ms pl pend)) : J c l H (wpP P ops Q ms (.p i pl) pend) := J.mk fun a w s =>
  ⟨_, v, hi, .inl ⟨hg.wanted s.1, fun w => hv a w (some d) ty pos af s.1⟩, K _ _ ⟨s.1.put hd, s.2.1, s.2.2⟩⟩
theorem J.pl0_off (hi : ops[i]? = some ⟨some d, op, ty, pos, af, gd⟩) (hg : Gd l ops gd false) (hd : Nat.blt d c.n = true) (K : J c ((d, undef) :: l) H (wpP P ops Q ms pl pend)) : J c l H (wpP P ops Q ms (.p i pl) pend) := J.mk fun a w s =>
  ⟨_, undef, hi, .inr ⟨hg.wanted s.1, rfl⟩, K _ _ ⟨s.1.put hd, s.2.1, s.2.2⟩⟩
/-- One that reads. -/
theorem J.pl1 (hi : ops[i]? = some ⟨some d, op, ty, pos, af, gd⟩) (hg : Gd l ops gd true) (hd : Nat.blt d c.n = true) (hv : Qr P c l H op v) (K : J c ((d, v) :: l) H (wpP P ops Q ms pl ((i, v) :: pend))) : J c l H (wpP P ops Q ms (.q i pl) pend) := J.mk fun a w s =>
  ⟨_, v, hi, .inl ⟨hg.wanted s.1, hv a w (some d) ty pos af s⟩, K _ _ ⟨s.1.put hd, s.2.1, s.2.2⟩⟩
theorem J.pl1_off (hi : ops[i]? = some ⟨some d, op, ty, pos, af, gd⟩) (hg : Gd l ops gd false) (hd : Nat.blt d c.n = true) (K : J c ((d, undef) :: l) H (wpP P ops Q ms pl ((i, undef) :: pend))) : J c l H (wpP P ops Q ms (.q i pl) pend) := J.mk fun a w s =>
  ⟨_, undef, hi, .inr ⟨hg.wanted s.1, rfl⟩, K _ _ ⟨s.1.put hd, s.2.1, s.2.2⟩⟩
/-- What is owed of the loads behind a loud one. -/
def owed (P : Program) (ops : Array Oper) (pend : List (Nat × Value)) (G : Act → World → Prop) (a : Act) (w : World) : Prop := (∀ k u, (k, u) ∈ pend → ∀ ok, ops[k]? = some ok → YW P ops ok u a w) ∧ G a w
theorem J.owe_nil {G : Act → World → Prop} (K : J c l H G) : J c l H (owed P ops [] G) := J.mk fun a w s => ⟨fun _ _ h => (by cases h), K a w s⟩
theorem J.owe {k : Nat} {u : Value} {G : Act → World → Prop} (hk : ops[k]? = some ⟨some d, op, ty, pos, af, gd⟩) (hg : Gd l ops gd true) (hv : Qr P c l H op u) (K : J c l H (owed P ops pend G)) : J c l H (owed P ops ((k, u) :: pend) G) := J.mk fun a w s => by
  obtain ⟨h1, h2⟩ := K a w s
  refine ⟨fun k' u' hm ok hok => ?_, h2⟩
  rcases List.mem_cons.1 hm with e | hm
  · cases e
    rw [hk] at hok; cases hok
    exact .inl ⟨hg.wanted s.1, hv a w (some d) ty pos af s⟩
  · exact h1 k' u' hm ok hok
theorem J.owe_off {k : Nat} {G : Act → World → Prop} (hk : ops[k]? = some ⟨some d, op, ty, pos, af, gd⟩) (hg : Gd l ops gd false) (K : J c l H (owed P ops pend G)) : J c l H (owed P ops ((k, undef) :: pend) G) := J.mk fun a w s => by
  obtain ⟨h1, h2⟩ := K a w s
  refine ⟨fun k' u' hm ok hok => ?_, h2⟩
  rcases List.mem_cons.1 hm with e | hm
  · cases e
    rw [hk] at hok; cases hok
    exact .inr ⟨hg.wanted s.1, rfl⟩
  · exact h1 k' u' hm ok hok

/-- What is still pending behind operation i. -/
inductive PendF (ms : List Nat) (i : Nat) : List (Nat × Value) → List (Nat × Value) → Prop
  | nil : PendF ms i [] []
  | keep {k u p p'} (h : dep ms k i = false) (hp : PendF ms i p p') : PendF ms i ((k, u) :: p) ((k, u) :: p')
  | gone {k u p p'} (h : dep ms k i = true) (hp : PendF ms i p p') : PendF ms i ((k, u) :: p) p'
theorem PendF.eq {p p' : List (Nat × Value)} (h : PendF ms i p p') : p.filter (fun x => !dep ms x.1 i) = p' := by
  induction h with
  | nil => rfl
  | keep h _ ih => simp [h, ih]
  | gone h _ ih => simp [h, ih]
/-- A loud one: its rule as an operation; behind it what is owed. -/
theorem J.pl2 {pend' : List (Nat × Value)} (hi : ops[i]? = some ⟨dst, op, ty, pos, af, gd⟩) (hg : Gd l ops gd true) (hp : PendF ms i pend pend')
    (K : J c l H (OW P Q ⟨dst, op, ty, pos, af, none⟩ (owed P ops pend' (wpP P ops Q ms pl pend')))) (K2 : J c l H (wpP P ops Q ms o pend)) : J c l H (wpP P ops Q ms (.x i pl o) pend) := J.mk fun a w s => by
  obtain rfl := hp.eq
  refine ⟨?_, K2 a w s⟩
  unfold wpOp
  simp only [hi]
  rw [if_pos (hg.wanted s.1)]
  exact .inl (K a w s)
theorem J.pl2_off {pend' : List (Nat × Value)} (hi : ops[i]? = some ⟨some d, op, ty, pos, af, gd⟩) (hg : Gd l ops gd false) (hd : Nat.blt d c.n = true) (hp : PendF ms i pend pend')
    (K : J c ((d, undef) :: l) H (owed P ops pend' (wpP P ops Q ms pl pend'))) (K2 : J c l H (wpP P ops Q ms o pend)) : J c l H (wpP P ops Q ms (.x i pl o) pend) := J.mk fun a w s => by
  obtain rfl := hp.eq
  refine ⟨?_, K2 a w s⟩
  unfold wpOp
  simp only [hi]
  rw [if_neg (by rw [hg.wanted s.1]; simp)]
  exact K _ _ ⟨s.1.put hd, s.2.1, s.2.2⟩
theorem J.pl2_off_none {pend' : List (Nat × Value)} (hi : ops[i]? = some ⟨none, op, ty, pos, af, gd⟩) (hg : Gd l ops gd false) (hp : PendF ms i pend pend')
    (K : J c l H (owed P ops pend' (wpP P ops Q ms pl pend'))) (K2 : J c l H (wpP P ops Q ms o pend)) : J c l H (wpP P ops Q ms (.x i pl o) pend) := J.mk fun a w s => by
  obtain rfl := hp.eq
  refine ⟨?_, K2 a w s⟩
  unfold wpOp
  simp only [hi]
  rw [if_neg (by rw [hg.wanted s.1]; simp)]
  exact K _ _ ⟨s.1.put_none, s.2.1, s.2.2⟩
end
end Go.Proofs.Ytfcaeifpclpnoaa.Eng
namespace Go.Proofs.Ytfcaeifpclpnoaa.Eng
open Go Go.RowKit
set_option linter.unusedVariables false
set_option linter.unusedSectionVars false
set_option linter.unusedSimpArgs false

/-- A struct's places. -/
class StP (P : Program) (T : Nat) (pl : outParam (List (Nat × Nat))) : Prop where
  ok : (match P.underlying T with | some (.struct fs) => some (fs.toList.map fun f => (f.offset, (P.info? f.type).map (fun i => i.size))) | _ => none) = some (pl.map fun x => (x.1, some x.2))

section
variable {P : Program}

theorem fold_splice : ∀ (vs : List Value) (off : Nat) (C : List Value), off + vs.length ≤ C.length →
    (vs.zipIdx.foldl (fun (cs : Array Value) (x : Value × Nat) => cs.setIfInBounds (off + x.2) x.1) C.toArray) = (splice C off vs).toArray := by
  intro vs
  suffices h : ∀ (vs : List Value) (k off : Nat) (C : List Value), off + k + vs.length ≤ C.length →
      ((vs.zipIdx k).foldl (fun (cs : Array Value) (x : Value × Nat) => cs.setIfInBounds (off + x.2) x.1) C.toArray) = (splice C (off + k) vs).toArray by
    intro off C hl
    have := h vs 0 off C (by simpa using hl)
    simpa using this
  intro vs
  induction vs with
  | nil => intro k off C _; simp [splice]
  | cons v vs ih =>
    intro k off C hl
    simp only [List.length_cons] at hl
    simp only [List.zipIdx_cons, List.foldl_cons]
    have e : (C.toArray.setIfInBounds (off + k) v) = (C.set (off + k) v).toArray := by simp
    rw [e, ih (k + 1) off (C.set (off + k) v) (by simp; omega)]
    congr 1
    simp only [splice]
    have e1 : off + (k + 1) = off + k + 1 := by omega
    rw [e1]
    generalize off + k = n at *
    rw [List.length_cons]
    have h1 : (C.set n v).take (n + 1) = C.take n ++ [v] := by
      rw [List.take_set, List.take_succ_eq_append_getElem (by omega)]
      rw [List.set_append_right _ _ (by simp; omega)]
      simp [show n - min n C.length = 0 by omega]
    have h2 : (C.set n v).drop (n + 1 + vs.length) = C.drop (n + (vs.length + 1)) := by
      rw [List.drop_set_of_lt (by omega)]
      congr 1
      omega
    rw [h1, h2]
    simp

def bfill (place : Nat → Option (Nat × Nat)) (C : List Value) : List (Nat × Value) → Option (List Value)
  | [] => some C
  | (i, v) :: rest => match place i with
    | none => none
    | some (off, size) => if v.cells.toList.length = size ∧ off + size ≤ C.length then bfill place (splice C off v.cells.toList) rest else none

theorem fill_of {place : Nat → Option (Nat × Nat)} : ∀ {parts : List (Nat × Value)} {C C' : List Value}, bfill place C parts = some C' → Instr.fill place C.toArray parts = some C'.toArray
  | [], C, C', h => by simp only [bfill, Option.some.injEq] at h; subst h; rfl
  | (i, v) :: rest, C, C', h => by
    simp only [bfill] at h
    cases hp : place i with
    | none => rw [hp] at h; cases h
    | some x =>
      obtain ⟨off, size⟩ := x
      rw [hp] at h
      simp only at h
      split at h
      · rename_i hc
        obtain ⟨h1, h2⟩ := hc
        have ih := fill_of h
        simp only [Instr.fill, hp]
        have h1' : v.cells.size = size := by simpa using h1
        rw [if_neg (by simp [h1']; omega)]
        have e := fold_splice v.cells.toList off C (by rw [h1]; exact h2)
        rw [← ih, ← e]
        congr 1
        rw [← Array.foldl_toList]
        simp [Array.toList_zipIdx]
      · cases h

def evp (l : TL) : List (Nat × Operand) → Option (List (Nat × Value))
  | [] => some []
  | (i, x) :: xs => match ev l x, evp l xs with
    | some v, some vs => some ((i, v) :: vs)
    | _, _ => none
theorem TRel.evp {n : Nat} {l : TL} {a : Act} (h : TRel n l a) : ∀ {xs vs}, Eng.evp l xs = some vs → xs.map (fun x => (x.1, a.eval x.2)) = vs
  | [], vs, hx => by simpa [Eng.evp] using hx
  | (i, x) :: xs, vs, hx => by
    simp only [Eng.evp] at hx
    cases h1 : Eng.ev l x with
    | none => simp [h1] at hx
    | some v =>
      cases h2 : Eng.evp l xs with
      | none => simp [h1, h2] at hx
      | some us =>
        simp only [h1, h2, Option.some.injEq] at hx
        subst hx
        simp [h.ev h1, TRel.evp h h2]

variable {c : Cx} {l : TL} {H : List Asrt} {Q : Exit → Act → World → Prop}
variable {ops : Array Oper} {rest : List Oper} {ty : TypeId} {pos : String} {af : Array Edge} {d : Nat} {v : Value} {dst : Option Tmp}

theorem run_buildA {T len E m z n agg z' } [i : Ty P T true m z] [j : Ar P T len E] [t : Ty P E agg n z'] {xs : List (Nat × Operand)} {vs : List (Nat × Value)} {cs : List Value} {a : Act} {k : Nat} (r : TRel k l a) (hx : evp l xs = some vs) (hf : bfill (fun i => some (i * n, n)) z vs = some cs) (w : World) :
    (execOp a.eval ⟨dst, .build T xs.toArray, ty, pos, af, none⟩).run P w = .ok (.value (.agg cs.toArray)) w := by
  obtain ⟨zv, h1, h2⟩ := run_zeroV (P := P) (w := w) (T := T)
  have h3 := r.evp hx
  have h4 := fill_of hf
  rw [← h3] at h4
  simp only [execOp, Instr.build, Sem.run_bind, h1, Result.andThen_ok, h2, run_und j.und, run_size (P := P) (w := w) (T := E)]
  simp only [List.map_toArray]
  have e : (List.map (fun x : Nat × Operand => match x with | (i, x) => (i, a.eval x)) xs) = xs.map (fun x => (x.1, a.eval x.2)) := rfl
  rw [h4]
  rfl

theorem mapM_places {fs : List Field} {pl : List (Nat × Nat)} {w : World} (h : (fs.map fun f => (f.offset, (P.info? f.type).map (fun i => i.size))) = pl.map fun x => (x.1, some x.2)) :
    (fs.mapM (m := Sem) fun f => do pure (f.offset, ← sizeOf f.type)).run P w = .ok pl w := by
  induction fs generalizing pl with
  | nil =>
    cases pl with
    | nil => simp
    | cons x pl => simp at h
  | cons f fs ih =>
    cases pl with
    | nil => simp at h
    | cons x pl =>
      simp only [List.map_cons, List.cons.injEq, Prod.mk.injEq] at h
      have h1 := run_sizeOf' (P := P) (w := w) h.1.2
      simp only [List.mapM_cons, Sem.run_bind, h1, Result.andThen_ok, Sem.run_pure, ih h.2, h.1.1]

theorem run_buildS {T m z pl} [i : Ty P T true m z] [j : StP P T pl] {xs : List (Nat × Operand)} {vs : List (Nat × Value)} {cs : List Value} {a : Act} {k : Nat} (r : TRel k l a) (hx : evp l xs = some vs) (hf : bfill (fun i => pl[i]?) z vs = some cs) (w : World) :
    (execOp a.eval ⟨dst, .build T xs.toArray, ty, pos, af, none⟩).run P w = .ok (.value (.agg cs.toArray)) w := by
  obtain ⟨zv, h1, h2⟩ := run_zeroV (P := P) (w := w) (T := T)
  have h3 := r.evp hx
  have h4 := fill_of hf
  rw [← h3] at h4
  have hj := j.ok
  cases hu : P.underlying T with
  | none => rw [hu] at hj; cases hj
  | some dsc =>
    rw [hu] at hj
    cases dsc <;> simp only [reduceCtorEq, Option.some.injEq] at hj
    rename_i fs
    have h5 := mapM_places (P := P) (w := w) hj
    have e5 : fs = fs.toList.toArray := by simp
    rw [e5] at hu
    simp only [execOp, Instr.build, Sem.run_bind, h1, Result.andThen_ok, h2, run_und hu, List.mapM_toArray, Sem.run_map, h5]
    simp only [List.map_toArray, List.getElem?_toArray]
    have h6 : Instr.fill (fun i => pl[i]?) z.toArray (List.map (fun x : Nat × Operand => match x with | (i, x) => (i, a.eval x)) xs) = some cs.toArray := h4
    rw [h6]
    rfl

section
variable {mm : Nat}
theorem Qv.buildA {T len E m z n agg z' } [i : Ty P T true m z] [j : Ar P T len E] [t : Ty P E agg n z'] {xs : List (Nat × Operand)} {vs : List (Nat × Value)} {cs : List Value} (hx : evp l xs = some vs) (hf : bfill (fun i => some (i * n, n)) z vs = some cs) : Qv P mm l (.build T xs.toArray) (.agg cs.toArray) := fun a w _ _ _ _ s => run_buildA s hx hf w
theorem Qv.buildS {T m z pl} [i : Ty P T true m z] [j : StP P T pl] {xs : List (Nat × Operand)} {vs : List (Nat × Value)} {cs : List Value} (hx : evp l xs = some vs) (hf : bfill (fun i => pl[i]?) z vs = some cs) : Qv P mm l (.build T xs.toArray) (.agg cs.toArray) := fun a w _ _ _ _ s => run_buildS s hx hf w
end

/-! ### Equality -/
theorem run_eqlA {T : Nat} {x y : Operand} {xs ys : List Value} {r : Bool} (hg : P.eqGuardType P.depth T = false) (he : ∀ w, (Op.equal T (.agg xs.toArray) (.agg ys.toArray)).run P w = .ok r w) (w : World) :
    ((do eqGuard .eql T x y (.agg xs.toArray) (.agg ys.toArray); binOp .eql T (.agg xs.toArray) (.agg ys.toArray) : Sem Value)).run P w = .ok (.bool r) w := by
  simp [eqGuard, hg, binOp, he]
theorem run_neqA {T : Nat} {x y : Operand} {xs ys : List Value} {r : Bool} (hg : P.eqGuardType P.depth T = false) (he : ∀ w, (Op.equal T (.agg xs.toArray) (.agg ys.toArray)).run P w = .ok r w) (w : World) :
    ((do eqGuard .neq T x y (.agg xs.toArray) (.agg ys.toArray); binOp .neq T (.agg xs.toArray) (.agg ys.toArray) : Sem Value)).run P w = .ok (.bool !r) w := by
  simp [eqGuard, hg, binOp, he]
theorem run_eqlA_op {T T' : Nat} {x y : Operand} {xs ys : List Value} {r : Bool} {a : Act} {k : Nat} (t : TRel k l a) (hx : ev l x = some (.agg xs.toArray)) (hy : ev l y = some (.agg ys.toArray)) (hg : P.eqGuardType P.depth T = false) (he : ∀ w, (Op.equal T (.agg xs.toArray) (.agg ys.toArray)).run P w = .ok r w) (w : World) :
    (execOp a.eval ⟨dst, .binOp .eql T x y T', ty, pos, af, none⟩).run P w = .ok (.value (.bool r)) w := by
  have h := run_eqlA (x := x) (y := y) hg he w
  simp only [execOp, t.ev hx, t.ev hy, Sem.run_bind] at h ⊢
  rw [h]; rfl
theorem run_neqA_op {T T' : Nat} {x y : Operand} {xs ys : List Value} {r : Bool} {a : Act} {k : Nat} (t : TRel k l a) (hx : ev l x = some (.agg xs.toArray)) (hy : ev l y = some (.agg ys.toArray)) (hg : P.eqGuardType P.depth T = false) (he : ∀ w, (Op.equal T (.agg xs.toArray) (.agg ys.toArray)).run P w = .ok r w) (w : World) :
    (execOp a.eval ⟨dst, .binOp .neq T x y T', ty, pos, af, none⟩).run P w = .ok (.value (.bool !r)) w := by
  have h := run_neqA (x := x) (y := y) hg he w
  simp only [execOp, t.ev hx, t.ev hy, Sem.run_bind] at h ⊢
  rw [h]; rfl
theorem run_eqlB_op {T T' : Nat} [i : BoolT P T] {x y : Operand} {b b' : Bool} {a : Act} {k : Nat} (t : TRel k l a) (hx : ev l x = some (.bool b)) (hy : ev l y = some (.bool b')) (w : World) :
    (execOp a.eval ⟨dst, .binOp .eql T x y T', ty, pos, af, none⟩).run P w = .ok (.value (.bool (b == b'))) w := by
  simp [execOp, t.ev hx, t.ev hy, eqGuard, binOp, run_equal_bool (P := P) w T b b' i.und]
theorem run_neqB_op {T T' : Nat} [i : BoolT P T] {x y : Operand} {b b' : Bool} {a : Act} {k : Nat} (t : TRel k l a) (hx : ev l x = some (.bool b)) (hy : ev l y = some (.bool b')) (w : World) :
    (execOp a.eval ⟨dst, .binOp .neq T x y T', ty, pos, af, none⟩).run P w = .ok (.value (.bool !(b == b'))) w := by
  simp [execOp, t.ev hx, t.ev hy, eqGuard, binOp, run_equal_bool (P := P) w T b b' i.und]
section
variable {mm : Nat}
theorem Qv.eqlA {T T' : Nat} {x y : Operand} {xs ys : List Value} {r : Bool} (hx : ev l x = some (.agg xs.toArray)) (hy : ev l y = some (.agg ys.toArray)) (hg : P.eqGuardType P.depth T = false) (he : ∀ w, (Op.equal T (.agg xs.toArray) (.agg ys.toArray)).run P w = .ok r w) : Qv P mm l (.binOp .eql T x y T') (.bool r) := fun a w _ _ _ _ s => run_eqlA_op s hx hy hg he w
theorem Qv.neqA {T T' : Nat} {x y : Operand} {xs ys : List Value} {r : Bool} (hx : ev l x = some (.agg xs.toArray)) (hy : ev l y = some (.agg ys.toArray)) (hg : P.eqGuardType P.depth T = false) (he : ∀ w, (Op.equal T (.agg xs.toArray) (.agg ys.toArray)).run P w = .ok r w) : Qv P mm l (.binOp .neq T x y T') (.bool !r) := fun a w _ _ _ _ s => run_neqA_op s hx hy hg he w
theorem Qv.eqlB {T T' : Nat} [i : BoolT P T] {x y : Operand} {b b' : Bool} (hx : ev l x = some (.bool b)) (hy : ev l y = some (.bool b')) : Qv P mm l (.binOp .eql T x y T') (.bool (b == b')) := fun a w _ _ _ _ s => run_eqlB_op s hx hy w
theorem Qv.neqB {T T' : Nat} [i : BoolT P T] {x y : Operand} {b b' : Bool} (hx : ev l x = some (.bool b)) (hy : ev l y = some (.bool b')) : Qv P mm l (.binOp .neq T x y T') (.bool !(b == b')) := fun a w _ _ _ _ s => run_neqB_op s hx hy w
end

/-! ### Calls that only reckon, of functions without a body -/
theorem run_ext {f : Nat} {xs : List Operand} {ts : Array TypeId} {vs : List Value} {r : Value} {a : Act} {n : Nat} (t : TRel n l a) (hx : evs l xs = some vs) (hr : ∀ w, (callFunc f vs.toArray).run P w = .ok (.value r) w) (w : World) :
    (execOp a.eval ⟨dst, .call ⟨.value (.func f), xs.toArray, ts⟩, ty, pos, af, none⟩).run P w = .ok (.value r) w := by
  have h := t.evs hx
  simp [execOp, resolve, Act.eval, Deferred.ofValue, invoke, hr, h]
theorem Qv.ext {mm f : Nat} {xs : List Operand} {ts : Array TypeId} {vs : List Value} {r : Value} (hx : evs l xs = some vs) (hr : ∀ w, (callFunc f vs.toArray).run P w = .ok (.value r) w) : Qv P mm l (.call ⟨.value (.func f), xs.toArray, ts⟩) r := fun a w _ _ _ _ s => run_ext s hx hr w
end
end Go.Proofs.Ytfcaeifpclpnoaa.Eng
namespace Go.Proofs.Ytfcaeifpclpnoaa.Eng
open Go Go.RowKit
set_option linter.unusedVariables false
set_option linter.unusedSectionVars false
set_option linter.unusedSimpArgs false

/-- Block g is a row of capacity cap, whose first n elements are the cells C. -/
def rowAt (g cap : Nat) (E sz n : Nat) (C : List Value) : Asrt where
  holds h fp := fp = [g] ∧ C.length = n * sz ∧ n ≤ cap ∧ cap ≤ maxLen ∧ ∃ cur : Array Value, h g = some (.cells cur E (0, 0)) ∧ cur.size = cap * sz ∧ cur.toList.take (n * sz) = C
  loc h h' fp he := by
    rintro ⟨rfl, h1, h2, h3, cur, h4, h5⟩
    exact ⟨rfl, h1, h2, h3, cur, (he g (by simp)).trans h4, h5⟩
/-- The slice v is nil, or such a row, of n elements. -/
def row (v : Value) (E sz n : Nat) (C : List Value) : Asrt where
  holds h fp := (v = .slice none 0 0 ∧ n = 0 ∧ C = [] ∧ fp = []) ∨ ∃ g cap, v = .slice (some ⟨g, 0, none⟩) n cap ∧ (rowAt g cap E sz n C).holds h fp
  loc h h' fp he := by
    rintro (h1 | ⟨g, cap, h1, h2⟩)
    · exact .inl h1
    · exact .inr ⟨g, cap, h1, (rowAt g cap E sz n C).loc h h' fp he h2⟩

theorem Sat.nilRow {w0 w own H} (h : Sat w0 own H w) (E sz : Nat) : Sat w0 own (row (.slice none 0 0) E sz 0 [] :: H) w := by
  obtain ⟨fp, hh, hn, hi, hf⟩ := h
  exact ⟨fp, ⟨[], fp, rfl, .inl ⟨rfl, rfl, rfl, rfl⟩, hh⟩, hn, hi, hf⟩
theorem J.nilRow {c l H G} (E sz : Nat) (K : J c l (row (.slice none 0 0) E sz 0 [] :: H) G) : J c l H G := J.mk fun a w s => K a w ⟨s.1, s.2.1, s.2.2.nilRow E sz⟩

/-- An assertion is told otherwise. -/
theorem Sat.conv {w0 w own A A' H} (h : Sat w0 own (A :: H) w) (hA : ∀ h fp, A.holds h fp → A'.holds h fp) : Sat w0 own (A' :: H) w := by
  obtain ⟨fp, ⟨f, g, e, ha, hg⟩, r⟩ := h
  exact ⟨fp, ⟨f, g, e, hA _ _ ha, hg⟩, r⟩
theorem rowAt.row {h fp g cap E sz n C} (hh : (rowAt g cap E sz n C).holds h fp) : (Eng.row (.slice (some ⟨g, 0, none⟩) n cap) E sz n C).holds h fp := .inr ⟨g, cap, rfl, hh⟩

/-- A row that is not empty is opened. -/
theorem J.openRow {c l H H' G v E sz n C} (ho : Out (row v E sz n C) H H') (hn : n ≠ 0) (K : ∀ g cap, v = .slice (some ⟨g, 0, none⟩) n cap → J c l (rowAt g cap E sz n C :: H') G) : J c l H G := J.mk fun a w s => by
  have s1 := s.2.2.perm ho.perm
  obtain ⟨fp, ⟨f, g, e, ha, hg⟩, r⟩ := s1
  rcases ha with ⟨_, h0, _⟩ | ⟨b, cap, hv, hr⟩
  · exact absurd h0 hn
  · exact K b cap hv a w ⟨s.1, s.2.1, fp, ⟨f, g, e, hr, hg⟩, r⟩
/-- Any row is opened: nil, or not. -/
theorem J.caseRow {c l H H' G v E sz n C} (ho : Out (row v E sz n C) H H') (K0 : v = .slice none 0 0 → n = 0 → C = [] → J c l H' G) (K : ∀ g cap, v = .slice (some ⟨g, 0, none⟩) n cap → J c l (rowAt g cap E sz n C :: H') G) : J c l H G := J.mk fun a w s => by
  have s1 := s.2.2.perm ho.perm
  obtain ⟨fp, ⟨f, g, e, ha, hg⟩, r⟩ := s1
  rcases ha with ⟨h1, h2, h3, h4⟩ | ⟨b, cap, hv, hr⟩
  · subst h4
    exact K0 h1 h2 h3 a w ⟨s.1, s.2.1, fp, by rw [e]; exact hg, r⟩
  · exact K b cap hv a w ⟨s.1, s.2.1, fp, ⟨f, g, e, hr, hg⟩, r⟩
/-- And shut again. -/
theorem J.shutRow {c l H H' G g cap E sz n C} (ho : Out (rowAt g cap E sz n C) H H') (K : J c l (row (.slice (some ⟨g, 0, none⟩) n cap) E sz n C :: H') G) : J c l H G := J.mk fun a w s =>
  K a w ⟨s.1, s.2.1, (s.2.2.perm ho.perm).conv fun _ _ => rowAt.row⟩

theorem Sat.rowAt {w0 w own H g cap E sz n C} (h : Sat w0 own H w) (hm : Eng.rowAt g cap E sz n C ∈ H) : ∃ cur : Array Value, w.heap[g]? = some (.cells cur E (0, 0)) ∧ cur.size = cap * sz ∧ cur.toList.take (n * sz) = C ∧ C.length = n * sz ∧ n ≤ cap := by
  obtain ⟨fp, ⟨rfl, h1, h2, h3, cur, h4, h5, h6⟩, _, _⟩ := h.mem hm
  exact ⟨cur, h4, h5, h6, h1, h2⟩
theorem Sat.rowCell {w0 w own H g cap E sz n C} (h : Sat w0 own H w) (hm : Eng.rowAt g cap E sz n C ∈ H) {j : Nat} {v : Value} (hj : C[j]? = some v) : w.cell? ⟨g, j, none⟩ = some v := by
  obtain ⟨cur, h1, h2, h3, h4, h5⟩ := h.rowAt hm
  rw [← h3, List.getElem?_take] at hj
  split at hj
  · simp only [World.cell?, h1]
    simpa using hj
  · cases hj

section
variable {P : Program} {c : Cx} {l : TL} {H : List Asrt} {Q : Exit → Act → World → Prop} {X : Act → World → Prop}
variable {ty : TypeId} {pos : String} {af : Array Edge} {d : Nat} {v : Value} {dst : Option Tmp} {mm : Nat}

theorem Qr.row1 {T n z} [i : Ty P T false n z] {x : Operand} {g off cap E sz k : Nat} {C : List Value} (hx : ev l x = some (.pointer (some ⟨g, off, none⟩))) (hm : In (rowAt g cap E sz k C) H) (hv : C[off]? = some v) : Qr P c l H (.load T x) v := fun a w _ _ _ _ s => by
  have hc := s.2.2.rowCell hm.mem hv
  simp [execOp, s.1.ev hx, run_load1 (P := P) (T := T) hc]
theorem Qr.rowN {T n z} [i : Ty P T true n z] {x : Operand} {g off cap E sz k : Nat} {C cs : List Value} (hx : ev l x = some (.pointer (some ⟨g, off, none⟩))) (hm : In (rowAt g cap E sz k C) H) (hcs : (C.drop off).take n = cs) (hn : cs.length = n) : Qr P c l H (.load T x) (.agg cs.toArray) := fun a w _ _ _ _ s => by
  have hl := run_loadN (P := P) (w := w) (T := T) (ad := ⟨g, off, none⟩) hn (fun j v hj => by
    rw [addr_add]
    refine s.2.2.rowCell hm.mem ?_
    rw [← hcs, List.getElem?_take] at hj
    split at hj
    · rwa [List.getElem?_drop] at hj
    · cases hj)
  simp [execOp, s.1.ev hx, hl]

/-! ### Builtins -/
theorem run_builtin {b : Builtin} {xs : List Operand} {ts : Array TypeId} {vs : List Value} {a : Act} {n : Nat} (t : TRel n l a) (hx : evs l xs = some vs) (w : World) :
    ∃ cs : Array Bool, (execOp a.eval ⟨dst, .call ⟨.builtin b, xs.toArray, ts⟩, ty, pos, af, none⟩).run P w = (builtin b ts ty cs vs.toArray).run P w := by
  have h := t.evs hx
  refine ⟨(xs.toArray.map fun | .const _ => true | _ => false), ?_⟩
  simp only [execOp, resolve, invoke, Sem.run_bind, Sem.run_pure, Result.andThen_ok, List.map_toArray, h]
  congr 2
theorem Qv.lenS {T E bytes} [i : Sl P T E bytes] {x : Operand} {a : Option Addr} {n cap : Nat} (hx : ev l x = some (.slice a n cap)) : Qv P mm l (.call ⟨.builtin .len, #[x], #[T]⟩) (.int .i64 n) := fun a' w dst ty pos af s => by
  obtain ⟨cs, h⟩ := run_builtin (P := P) (b := .len) (xs := [x]) (ts := #[T]) (vs := [.slice a n cap]) (dst := dst) (ty := ty) (pos := pos) (af := af) s (by simp [evs, hx]) w
  rw [show ([x] : List Operand).toArray = #[x] from rfl] at h
  rw [h]
  simp [builtin, Builtin.len_, run_und i.und, goInt]
theorem Qv.lenStr {T} [i : StrT P T] {x : Operand} {s : ByteArray} (hx : ev l x = some (.string s)) : Qv P mm l (.call ⟨.builtin .len, #[x], #[T]⟩) (.int .i64 s.size) := fun a' w dst ty pos af r => by
  obtain ⟨cs, h⟩ := run_builtin (P := P) (b := .len) (xs := [x]) (ts := #[T]) (vs := [.string s]) (dst := dst) (ty := ty) (pos := pos) (af := af) r (by simp [evs, hx]) w
  rw [show ([x] : List Operand).toArray = #[x] from rfl] at h
  rw [h]
  simp [builtin, Builtin.len_, run_und i.und, goInt]
theorem Qv.capS {T E bytes} [i : Sl P T E bytes] {x : Operand} {a : Option Addr} {n cap : Nat} (hx : ev l x = some (.slice a n cap)) : Qv P mm l (.call ⟨.builtin .cap, #[x], #[T]⟩) (.int .i64 cap) := fun a' w dst ty pos af s => by
  obtain ⟨cs, h⟩ := run_builtin (P := P) (b := .cap) (xs := [x]) (ts := #[T]) (vs := [.slice a n cap]) (dst := dst) (ty := ty) (pos := pos) (af := af) s (by simp [evs, hx]) w
  rw [show ([x] : List Operand).toArray = #[x] from rfl] at h
  rw [h]
  simp [builtin, Builtin.cap_, run_und i.und, goInt]
/-- The length of a row, nil or not. -/
theorem Qr.lenRow {T E bytes} [i : Sl P T E bytes] {x : Operand} {E' sz n : Nat} {C : List Value} (hx : ev l x = some v) (hm : In (row v E' sz n C) H) : Qr P c l H (.call ⟨.builtin .len, #[x], #[T]⟩) (.int .i64 n) := fun a' w dst ty pos af s => by
  obtain ⟨fp, hh, _, _⟩ := s.2.2.mem hm.mem
  rcases hh with ⟨rfl, rfl, _⟩ | ⟨g, cap, rfl, _⟩
  · exact Qv.lenS (bytes := bytes) hx a' w dst ty pos af s.1
  · exact Qv.lenS (bytes := bytes) hx a' w dst ty pos af s.1
def imax (x y : Int) : Int := if y > x then y else x
def imin (x y : Int) : Int := if y < x then y else x
theorem Qv.max {x y : Operand} {k : IntKind} {e f : Int} {T T' : Nat} (hx : ev l x = some (.int k e)) (hy : ev l y = some (.int k f)) : Qv P mm l (.call ⟨.builtin .max, #[x, y], #[T, T']⟩) (.int k (imax e f)) := fun a' w dst ty pos af s => by
  obtain ⟨cs, h⟩ := run_builtin (P := P) (b := .max) (xs := [x, y]) (ts := #[T, T']) (vs := [.int k e, .int k f]) (dst := dst) (ty := ty) (pos := pos) (af := af) s (by simp [evs, hx, hy]) w
  rw [show ([x, y] : List Operand).toArray = #[x, y] from rfl] at h
  rw [h]
  simp [builtin, Builtin.max_, Builtin.max2, imax]
theorem Qv.min {x y : Operand} {k : IntKind} {e f : Int} {T T' : Nat} (hx : ev l x = some (.int k e)) (hy : ev l y = some (.int k f)) : Qv P mm l (.call ⟨.builtin .min, #[x, y], #[T, T']⟩) (.int k (imin e f)) := fun a' w dst ty pos af s => by
  obtain ⟨cs, h⟩ := run_builtin (P := P) (b := .min) (xs := [x, y]) (ts := #[T, T']) (vs := [.int k e, .int k f]) (dst := dst) (ty := ty) (pos := pos) (af := af) s (by simp [evs, hx, hy]) w
  rw [show ([x, y] : List Operand).toArray = #[x, y] from rfl] at h
  rw [h]
  simp [builtin, Builtin.min_, Builtin.min2, imin]

/-! ### A slice that is made of its parts -/
def rep (k : Nat) (z : List Value) : List Value := (List.replicate k z).flatten
theorem zeros_eq {z : List Value} {len n : Nat} (hz : z.length = n) : ((Array.range (len * n)).map fun k => z.toArray[k % z.toArray.size]!) = (rep len z).toArray := by
  subst hz
  apply Array.ext'
  apply List.ext_getElem?
  intro k
  simp only [Array.toList_map, Array.toList_range, List.getElem?_map, List.size_toArray, List.toList_toArray]
  by_cases hk : k < len * z.length
  · have hz0 : 0 < z.length := by
      rcases Nat.eq_zero_or_pos z.length with h | h
      · rw [h] at hk; omega
      · exact h
    have hmod : k % z.length < z.length := Nat.mod_lt _ hz0
    rw [List.getElem?_range hk]
    simp only [Option.map_some]
    have : ∀ (len k : Nat), k < len * z.length → (rep len z)[k]? = z[k % z.length]? := by
      intro len
      induction len with
      | zero => intro k hk; omega
      | succ len ih =>
        intro k hk
        have e : rep (len + 1) z = z ++ rep len z := by simp [rep, List.replicate_succ]
        rw [e]
        by_cases h : k < z.length
        · rw [List.getElem?_append_left h, Nat.mod_eq_of_lt h]
        · rw [List.getElem?_append_right (by omega), ih (k - z.length) (by rw [Nat.succ_mul] at hk; omega)]
          congr 1
          rw [Nat.mod_eq_sub_mod (by omega : k ≥ z.length)]
    rw [this len k hk, List.getElem?_eq_getElem hmod]
    simp [hmod]
  · rw [List.getElem?_eq_none (by simp; omega)]
    symm
    simp only [Option.map_none]
    apply List.getElem?_eq_none
    simp [rep]
    omega
theorem J.buildSlice {T E bytes agg n z} [i : Sl P T E bytes] [t : Ty P E agg n z] {len : Nat} {xs : List (Nat × Operand)} {vs : List (Nat × Value)} {cs : List Value} (hd : Nat.blt d c.n = true) (hx : evp l xs = some vs) (hz : z.length = n) (hb : Nat.ble (len * n) 1000 = true) (hpos : (len * n == 0) = false) (hf : bfill (fun i => some (i * n, n)) (rep len z) vs = some cs)
    (K : ∀ b, J c ((d, .slice (some ⟨b, 0, none⟩) len len) :: l) (blk b cs E :: H) X) : J c l H (OW P Q ⟨some d, .buildSlice T len xs.toArray, ty, pos, af, none⟩ X) :=
  J.opv fun a w s => by
    obtain ⟨zv, h1, h2⟩ := run_zeroV (P := P) (w := w) (T := E)
    have h3 := s.1.evp hx
    have h4 := fill_of hf
    rw [← h3] at h4
    have hb' : len * n ≤ 1000 := Nat.le_of_ble_eq_true hb
    refine ⟨_, w.alloc (.cells cs.toArray E), ?_, K w.heap.size _ _ ⟨s.1.put hd, s.2.1, s.2.2.new _ _ fun h' hh => ⟨rfl, hh⟩⟩⟩
    have e : (List.map (fun x : Nat × Operand => match x with | (i, x) => (i, a.eval x)) xs) = xs.map (fun x => (x.1, a.eval x.2)) := rfl
    have h5 : Instr.fill (fun i => some (i * n, n)) (rep len z).toArray (List.map (fun x : Nat × Operand => match x with | (i, x) => (i, a.eval x)) xs) = some cs.toArray := h4
    have hr := zeros_eq (len := len) hz
    rw [← hr] at h5
    have h0 : ¬ len * n = 0 := by simpa using hpos
    simp only [execOp, Instr.buildSlice, Sem.run_bind, run_und i.und, Result.andThen_ok, run_size (P := P) (w := w) (T := E)]
    rw [if_neg (by omega), if_neg h0]
    simp only [Sem.run_bind, Sem.run_pure, Result.andThen_ok, h1, h2, List.map_toArray]
    simp only [h5]
    rfl
theorem J.buildSlice0 {T E bytes agg n z} [i : Sl P T E bytes] [t : Ty P E agg n z] (hd : Nat.blt d c.n = true)
    (K : ∀ b, J c ((d, .slice (some ⟨b, 0, none⟩) 0 0) :: l) (blk b [] E :: H) X) : J c l H (OW P Q ⟨some d, .buildSlice T 0 #[], ty, pos, af, none⟩ X) :=
  J.opv fun a w s => by
    refine ⟨.slice (some ⟨w.heap.size, 0, none⟩) 0 0, w.alloc (.cells #[] E), ?_, K w.heap.size _ _ ⟨s.1.put hd, s.2.1, s.2.2.new _ _ fun h' hh => ⟨rfl, hh⟩⟩⟩
    simp only [execOp, Instr.buildSlice, Sem.run_bind, run_und i.und, Result.andThen_ok, run_size (P := P) (w := w) (T := E), Nat.zero_mul]
    rw [if_neg (by omega), if_pos trivial]
    have e0 : ∀ f : Nat → Value, Array.map f (Array.range 0) = #[] := by
      intro f
      apply Array.ext'
      simp
    simp only [Sem.run_bind, Sem.run_pure, Result.andThen_ok, e0]
    simp [Instr.fill, newRow]

/-! ### append -/
theorem J.appendCore {T E bytes agg sz z} [i : Sl P T E bytes] [t : Ty P E agg sz z] {s x : Operand} {n m cx : Nat} {C news : List Value} {H1 : List Asrt} {ad : Addr} (hd : Nat.blt d c.n = true) (hs : ev l s = some v) (ho : Out (row v E sz n C) H H1) (hx : ev l x = some (.slice (some ad) m cx))
    (hnews : ∀ a w, St c l H a w → ∀ j u, news[j]? = some u → w.cell? (ad.add j) = some u) (hl : news.length = m * sz) (h1 : news.all (·.oneCell') = true) (hz : z.length = sz) (hsz : (sz == 0) = false) (hm0 : (m == 0) = false) (h63 : n + m ≤ maxLen) (hby : (n + m) * bytes ≤ 140737488355328)
    (K : ∀ v', J c ((d, v') :: l) (row v' E sz (n + m) (C ++ news) :: H1) X) : J c l H (OW P Q ⟨some d, .call ⟨.builtin .append, #[s, x], #[T, T]⟩, ty, pos, af, none⟩ X) :=
  J.opv fun a w st => by
    have hnw := hnews a w st
    obtain ⟨cbs, hrun⟩ := run_builtin (P := P) (b := .append) (xs := [s, x]) (ts := #[T, T]) (vs := [v, .slice (some ad) m cx]) (dst := some d) (ty := ty) (pos := pos) (af := af) st.1 (by simp [evs, hs, hx]) w
    rw [show ([s, x] : List Operand).toArray = #[s, x] from rfl] at hrun
    have h1' : ∀ u ∈ news, u.oneCell' = true := by simpa using h1
    have hsz0 : 0 < sz := by
      rcases Nat.eq_zero_or_pos sz with h | h
      · subst h; cases hsz
      · exact h
    have hm0' : 0 < m := by
      rcases Nat.eq_zero_or_pos m with h | h
      · subst h; cases hm0
      · exact h
    -- the element type's row of the table
    have hsi := t.siz
    have hzi := t.zer
    have hbi := i.byt
    obtain ⟨inf, hinf⟩ : ∃ inf, P.info? E = some inf := by
      cases hu : P.info? E with
      | none => rw [hu] at hsi; cases hsi
      | some x => exact ⟨x, rfl⟩
    rw [hinf] at hsi hzi hbi
    simp only [Option.map_some, Option.some.injEq] at hsi hzi hbi
    obtain ⟨zv, hzv⟩ : ∃ zv, inf.zero = some zv := by
      cases hu : inf.zero with
      | none => rw [hu] at hzi; cases hzi
      | some x => exact ⟨x, rfl⟩
    rw [hzv] at hzi
    simp only [Option.map_some, Option.some.injEq] at hzi
    have hzs : zv.cells.size = sz := by rw [hzi]; simpa using hz
    have hsmall : ((n + m : Nat) : Int) ≤ 9223372036854775807 := by simp only [maxLen] at h63; omega
    obtain ⟨fp, ⟨f, g, rfl, ha, hg⟩, hn, hi, hf⟩ := st.2.2.perm ho.perm
    -- a new row
    have fresh : ∀ (old : Nat) (C0 : List Value), old < n + m → C0.length = n * sz → Sat c.w0 c.own (row (.slice (some ⟨w.heap.size, 0, none⟩) (n + m) (grownCap w (n + m) old E)) E sz (n + m) (C0 ++ news) :: H1) (w.drew.alloc (.cells (C0.toArray ++ news.toArray ++ Builtin.zeroCells zv.cells (grownCap w (n + m) old E - (n + m))) E)) := by
      intro old C0 hold hC0
      have hge := grownCap_ge w (n + m) old E
      have hcm := grownCap_le_maxLen w (n + m) old E h63
      have hS : Sat c.w0 c.own H1 w.drew := Sat.drew ⟨g, hg, (List.nodup_append.1 hn).2.1, fun i hi' => hi i (List.mem_append_right _ hi'), hf⟩
      refine hS.new _ _ fun h' hh => ?_
      refine rowAt.row ⟨rfl, by rw [List.length_append, hC0, hl, Nat.add_mul], hge, hcm, _, hh, ?_, ?_⟩
      · simp only [Array.size_append, List.size_toArray, size_zeroCells, hzs, hC0, hl, ← Nat.add_mul]
        congr 1
        omega
      · simp only [Array.toList_append, List.append_assoc]
        rw [← List.append_assoc]
        have : (n + m) * sz = (C0 ++ news).length := by rw [List.length_append, hC0, hl, Nat.add_mul]
        rw [this]
        exact List.take_left
    rcases ha with ⟨rfl, rfl, rfl, rfl⟩ | ⟨b, cap, rfl, rfl, hCl, hnc, hcm, cur, hb, hcs, htake⟩
    · -- nil
      have hr := run_append_nil (P := P) w T ty E inf zv i.und hinf hzv ad m cx news (by rw [hl, hsi]) hnw (by omega) (by omega) (by rw [hbi]; have hb' := hby; simp only [Nat.zero_add] at hb'; omega)
      have hS := fresh 0 [] (by omega) (by simp)
      simp only [Nat.zero_add, List.nil_append, Array.empty_append] at hS ⊢
      refine ⟨.slice (some ⟨w.heap.size, 0, none⟩) m (grownCap w m 0 E), _, ?_, K _ _ _ ⟨st.1.put hd, st.2.1, by simpa using hS⟩⟩
      · rw [hrun]
        simp only [builtin, Sem.run_bind]
        rw [show ([Value.slice none 0 0, Value.slice (some ad) m cx] : List Value).toArray = #[.slice none 0 0, .slice (some ad) m cx] from rfl, hr]
        rfl
    · by_cases hroom : n + m ≤ cap
      · have hS : Sat c.w0 c.own (Eng.rowAt b cap E sz n C :: H1) w := ⟨[b] ++ g, ⟨[b], g, rfl, ⟨rfl, hCl, hnc, hcm, cur, hb, hcs, htake⟩, hg⟩, hn, hi, hf⟩
        have hfit : n * inf.size + news.length ≤ cur.size := by rw [hl, hcs, hsi, ← Nat.add_mul]; exact Nat.mul_le_mul_right _ hroom
        have hr := run_append_room (P := P) w T ty E inf i.und hinf b n cap cur hb ad m cx news (by rw [hl, hsi]) hnw h1' hroom hfit
        have hS' : Sat c.w0 c.own (Eng.row (.slice (some ⟨b, 0, none⟩) (n + m) cap) E sz (n + m) (C ++ news) :: H1) (w.setRow b (cur.toList.take (n * inf.size) ++ news ++ cur.toList.drop (n * inf.size + news.length)).toArray) := by
          refine hS.turn rfl rfl rfl (by simp [World.setRow]) fun fp hfp => ?_
          obtain ⟨rfl, _⟩ := hfp
          refine ⟨rowAt.row ⟨rfl, by rw [List.length_append, hCl, hl, Nat.add_mul], hroom, hcm, _, setRow_heap w b cur _ E _ hb, ?_, ?_⟩, fun k hk => ?_⟩
          · rw [hsi] at hfit ⊢
            simp only [List.size_toArray, List.length_append, List.length_take, List.length_drop, Array.length_toList]
            omega
          · rw [hsi, htake]
            have : (n + m) * sz = (C ++ news).length := by rw [List.length_append, hCl, hl, Nat.add_mul]
            rw [this]
            exact List.take_left
          · exact setRow_other w b k _ (fun e => hk (by simp [e]))
        refine ⟨_, _, ?_, K _ _ _ ⟨st.1.put hd, st.2.1, hS'⟩⟩
        rw [hrun]
        simp only [builtin, Sem.run_bind]
        rw [show ([Value.slice (some ⟨b, 0, none⟩) n cap, Value.slice (some ad) m cx] : List Value).toArray = #[.slice (some ⟨b, 0, none⟩) n cap, .slice (some ad) m cx] from rfl, hr]
        rfl
      · have hcells : ∀ j u, C[j]? = some u → w.cell? ((⟨b, 0, none⟩ : Addr).add j) = some u := by
          intro j u hj
          rw [addr_add, Nat.zero_add]
          rw [← htake, List.getElem?_take] at hj
          have hb' : w.heap[b]? = some (.cells cur E (0, 0)) := hb
          split at hj
          · simp only [World.cell?, hb']
            simpa using hj
          · cases hj
        have hr := run_append_grow (P := P) w T ty E inf zv i.und hinf hzv ⟨b, 0, none⟩ n cap C (by rw [hCl, hsi]) hcells ad m cx news (by rw [hl, hsi]) hnw (by omega) hsmall (growslice_fits (by omega) (by rw [hbi]; exact hby))
        refine ⟨_, _, ?_, K _ _ _ ⟨st.1.put hd, st.2.1, fresh cap C (by omega) hCl⟩⟩
        rw [hrun]
        simp only [builtin, Sem.run_bind]
        rw [show ([Value.slice (some ⟨b, 0, none⟩) n cap, Value.slice (some ad) m cx] : List Value).toArray = #[.slice (some ⟨b, 0, none⟩) n cap, .slice (some ad) m cx] from rfl, hr]
        rfl
/-- append of what a block holds. -/
theorem J.append {T E bytes agg sz z} [i : Sl P T E bytes] [t : Ty P E agg sz z] {s x : Operand} {n m cx b o E' : Nat} {C D news : List Value} {H1 : List Asrt} (hd : Nat.blt d c.n = true) (hs : ev l s = some v) (ho : Out (row v E sz n C) H H1) (hx : ev l x = some (.slice (some ⟨b, o, none⟩) m cx)) (hm : In (blk b D E') H) (hnews : (D.drop o).take (m * sz) = news)
    (hl : news.length = m * sz) (h1 : news.all (·.oneCell') = true) (hz : z.length = sz) (hsz : (sz == 0) = false) (hm0 : (m == 0) = false) (h63 : n + m ≤ maxLen) (hby : (n + m) * bytes ≤ 140737488355328)
    (K : ∀ v', J c ((d, v') :: l) (row v' E sz (n + m) (C ++ news) :: H1) X) : J c l H (OW P Q ⟨some d, .call ⟨.builtin .append, #[s, x], #[T, T]⟩, ty, pos, af, none⟩ X) :=
  J.appendCore (bytes := bytes) hd hs ho hx (fun a w st j u hj => by
    rw [addr_add]
    refine st.2.2.cell hm.mem ?_
    rw [← hnews, List.getElem?_take] at hj
    split at hj
    · rwa [List.getElem?_drop] at hj
    · cases hj) hl h1 hz hsz hm0 h63 hby K
theorem J.appendNil {T E bytes agg sz z} [i : Sl P T E bytes] [t : Ty P E agg sz z] {s x : Operand} {m cx b o E' : Nat} {D news : List Value} (hd : Nat.blt d c.n = true) (hs : ev l s = some (.slice none 0 0)) (hx : ev l x = some (.slice (some ⟨b, o, none⟩) m cx)) (hm : In (blk b D E') H) (hnews : (D.drop o).take (m * sz) = news)
    (hl : news.length = m * sz) (h1 : news.all (·.oneCell') = true) (hz : z.length = sz) (hsz : (sz == 0) = false) (hm0 : (m == 0) = false) (h63 : 0 + m ≤ maxLen) (hby : (0 + m) * bytes ≤ 140737488355328)
    (K : ∀ v', J c ((d, v') :: l) (row v' E sz (0 + m) news :: H) X) : J c l H (OW P Q ⟨some d, .call ⟨.builtin .append, #[s, x], #[T, T]⟩, ty, pos, af, none⟩ X) :=
  J.nilRow E sz (J.append (bytes := bytes) (C := []) hd hs .here hx (.there hm) hnews hl h1 hz hsz hm0 h63 hby K)
end
end Go.Proofs.Ytfcaeifpclpnoaa.Eng
