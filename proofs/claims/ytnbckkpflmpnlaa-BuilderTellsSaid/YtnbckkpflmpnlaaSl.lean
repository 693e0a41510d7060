/-
  The engine, part 1: assertions on blocks of memory with footprints, and worlds that meet them. No conditions.
-/
import Derived.WalkKit
import Derived.Below
import Derived.Laws.CopyRow
import Derived.OrdersHeld
namespace Go.Proofs.Ytnbckkpflmpnlaa.Eng
open Go Go.RowKit
set_option linter.unusedVariables false

/-! ### Assertions -/
abbrev Hp := Nat → Option Obj
def hp (w : World) : Hp := fun i => w.heap[i]?

/-- What is said of the blocks that a footprint names, and of no others. -/
structure Asrt where
  holds : Hp → List Nat → Prop
  loc : ∀ (h h' : Hp) (fp : List Nat), (∀ i, i ∈ fp → h' i = h i) → holds h fp → holds h' fp

def Holds (h : Hp) : List Asrt → List Nat → Prop
  | [], fp => fp = []
  | A :: H, fp => ∃ f g, fp = f ++ g ∧ A.holds h f ∧ Holds h H g

theorem Holds.loc {h h' : Hp} : ∀ {H : List Asrt} {fp : List Nat}, (∀ i, i ∈ fp → h' i = h i) → Holds h H fp → Holds h' H fp
  | [], _, _, hh => hh
  | A :: H, _, he, hh => by
    obtain ⟨f, g, rfl, ha, hg⟩ := hh
    exact ⟨f, g, rfl, A.loc _ _ _ (fun i hi => he i (List.mem_append_left _ hi)) ha, Holds.loc (fun i hi => he i (List.mem_append_right _ hi)) hg⟩

theorem Holds.perm {h : Hp} {H H' : List Asrt} (p : H.Perm H') : ∀ {fp : List Nat}, Holds h H fp → ∃ fp', fp.Perm fp' ∧ Holds h H' fp' := by
  induction p with
  | nil => exact fun {fp} hh => ⟨fp, .refl _, hh⟩
  | cons A _ ih =>
    rintro fp ⟨f, g, rfl, ha, hg⟩
    obtain ⟨g', hp, hg'⟩ := ih hg
    exact ⟨f ++ g', hp.append_left f, f, g', rfl, ha, hg'⟩
  | swap A B H =>
    rintro fp ⟨f, g, rfl, ha, f', g', rfl, hb, hg⟩
    refine ⟨f' ++ (f ++ g'), ?_, f', f ++ g', rfl, hb, f, g', rfl, ha, hg⟩
    rw [← List.append_assoc, ← List.append_assoc]
    exact (List.perm_append_comm).append_right g'
  | trans _ _ ih1 ih2 =>
    intro fp hh
    obtain ⟨f1, p1, h1⟩ := ih1 hh
    obtain ⟨f2, p2, h2⟩ := ih2 h1
    exact ⟨f2, p1.trans p2, h2⟩

theorem Holds.append {h : Hp} : ∀ {H H' : List Asrt} {f g : List Nat}, Holds h H f → Holds h H' g → Holds h (H ++ H') (f ++ g)
  | [], _, _, _, hf, hg => by cases hf; exact hg
  | A :: H, _, _, _, ⟨f, g, e, ha, hh⟩, hg => by
    subst e
    rw [List.append_assoc]
    exact ⟨f, g ++ _, rfl, ha, Holds.append hh hg⟩

theorem Holds.split {h : Hp} : ∀ {H H' : List Asrt} {fp : List Nat}, Holds h (H ++ H') fp → ∃ f g, fp = f ++ g ∧ Holds h H f ∧ Holds h H' g
  | [], _, fp, hh => ⟨[], fp, rfl, rfl, hh⟩
  | A :: H, _, _, ⟨f, g, e, ha, hh⟩ => by
    subst e
    obtain ⟨f', g', e', h1, h2⟩ := Holds.split hh
    subst e'
    exact ⟨f ++ f', g', by rw [List.append_assoc], ⟨f, f', rfl, ha, h1⟩, h2⟩

/-! ### Worlds -/
/-- What may have turned since w0: nothing that stood there, but what is owned. -/
structure Fr (w0 : World) (own : List Nat) (w : World) : Prop where
  os : w.os = w0.os
  tape : w.tape = w0.tape
  output : w.output = w0.output
  size : w0.heap.size ≤ w.heap.size
  same : ∀ i, i < w0.heap.size → i ∉ own → w.heap[i]? = w0.heap[i]?

theorem Fr.refl (w : World) (own : List Nat) : Fr w own w := ⟨rfl, rfl, rfl, Nat.le_refl _, fun _ _ _ => rfl⟩

def Sat (w0 : World) (own : List Nat) (H : List Asrt) (w : World) : Prop :=
  ∃ fp, Holds (hp w) H fp ∧ fp.Nodup ∧ (∀ i, i ∈ fp → i < w.heap.size ∧ (i < w0.heap.size → i ∈ own)) ∧ Fr w0 own w

theorem Sat.fr {w0 w own H} (h : Sat w0 own H w) : Fr w0 own w := h.choose_spec.2.2.2

theorem Sat.perm {w0 w own H H'} (p : H.Perm H') (h : Sat w0 own H w) : Sat w0 own H' w := by
  obtain ⟨fp, hh, hn, hi, hf⟩ := h
  obtain ⟨fp', p', hh'⟩ := hh.perm p
  exact ⟨fp', hh', p'.nodup_iff.1 hn, fun i hi' => hi i (p'.mem_iff.2 hi'), hf⟩

theorem Sat.drop {w0 w own A H} (h : Sat w0 own (A :: H) w) : Sat w0 own H w := by
  obtain ⟨fp, ⟨f, g, rfl, ha, hg⟩, hn, hi, hf⟩ := h
  exact ⟨g, hg, (List.nodup_append.1 hn).2.1, fun i hi' => hi i (List.mem_append_right _ hi'), hf⟩

theorem Sat.drops {w0 w own} : ∀ {H' H : List Asrt}, Sat w0 own (H' ++ H) w → Sat w0 own H w
  | [], _, h => h
  | _ :: H', _, h => Sat.drops (H' := H') h.drop

/-- Another world with the same blocks. -/
theorem Sat.same {w0 w w' own H} (h : Sat w0 own H w) (h1 : w'.heap = w.heap) (h2 : w'.os = w.os) (h3 : w'.tape = w.tape) (h4 : w'.output = w.output) : Sat w0 own H w' := by
  obtain ⟨fp, hh, hn, hi, hf⟩ := h
  have he : hp w' = hp w := by funext i; simp [hp, h1]
  exact ⟨fp, he ▸ hh, hn, fun i hi' => by rw [h1]; exact hi i hi', ⟨h2.trans hf.os, h3.trans hf.tape, h4.trans hf.output, by rw [h1]; exact hf.size, fun i hi' ho => by rw [h1]; exact hf.same i hi' ho⟩⟩

theorem Sat.drew {w0 w own H} (h : Sat w0 own H w) : Sat w0 own H { w with drawn := w.drawn + 1 } := h.same rfl rfl rfl rfl

theorem Sat.mem {w0 w own A H} (h : Sat w0 own H w) (hm : A ∈ H) : ∃ fp, A.holds (hp w) fp ∧ fp.Nodup ∧ ∀ i, i ∈ fp → i < w.heap.size ∧ (i < w0.heap.size → i ∈ own) := by
  obtain ⟨s, t, rfl⟩ := List.append_of_mem hm
  have p : (s ++ A :: t).Perm (A :: (s ++ t)) := List.perm_middle
  obtain ⟨fp, ⟨f, g, rfl, ha, hg⟩, hn, hi, hf⟩ := h.perm p
  exact ⟨f, ha, (List.nodup_append.1 hn).1, fun i hi' => hi i (List.mem_append_left _ hi')⟩

/-- A new block. -/
theorem Sat.new {w0 w own H} (h : Sat w0 own H w) (o : Obj) (A : Asrt) (hA : ∀ h' : Hp, h' w.heap.size = some o → A.holds h' [w.heap.size]) : Sat w0 own (A :: H) (w.alloc o) := by
  obtain ⟨fp, hh, hn, hi, hf⟩ := h
  have hold : ∀ i, i < w.heap.size → (w.alloc o).heap[i]? = w.heap[i]? := fun i hi => Below.heap_alloc w o i hi
  have hnew : (w.alloc o).heap[w.heap.size]? = some o := by show (w.heap.push o)[w.heap.size]? = _; simp
  have hsz : (w.alloc o).heap.size = w.heap.size + 1 := by show (w.heap.push o).size = _; simp
  refine ⟨w.heap.size :: fp, ⟨[w.heap.size], fp, rfl, hA _ hnew, hh.loc fun i hi' => hold i (hi i hi').1⟩, ?_, ?_, ?_⟩
  · refine List.nodup_cons.2 ⟨fun hc => ?_, hn⟩
    exact absurd (hi _ hc).1 (Nat.lt_irrefl _)
  · intro i hi'
    rcases List.mem_cons.1 hi' with rfl | hi'
    · exact ⟨by omega, fun hc => absurd hf.size (by omega)⟩
    · exact ⟨by have := (hi i hi').1; omega, (hi i hi').2⟩
  · exact ⟨hf.os, hf.tape, hf.output, by have := hf.size; omega, fun i hi' ho => (hold i (by have := hf.size; omega)).trans (hf.same i hi' ho)⟩

/-- One assertion is made another one, by a turn of its own blocks. -/
theorem Sat.turn {w0 w w' own A A' H} (h : Sat w0 own (A :: H) w) (h2 : w'.os = w.os) (h3 : w'.tape = w.tape) (h4 : w'.output = w.output) (h1 : w'.heap.size = w.heap.size)
    (hA : ∀ fp, A.holds (hp w) fp → A'.holds (hp w') fp ∧ ∀ i, i ∉ fp → w'.heap[i]? = w.heap[i]?) : Sat w0 own (A' :: H) w' := by
  obtain ⟨fp, ⟨f, g, rfl, ha, hg⟩, hn, hi, hf⟩ := h
  obtain ⟨ha', hs⟩ := hA f ha
  have hd := (List.nodup_append.1 hn).2.2
  refine ⟨f ++ g, ⟨f, g, rfl, ha', hg.loc fun i hi' => hs i fun hc => hd i hc i hi' rfl⟩, hn, fun i hi' => by rw [h1]; exact hi i hi', ?_⟩
  refine ⟨h2.trans hf.os, h3.trans hf.tape, h4.trans hf.output, by rw [h1]; exact hf.size, fun i hi' ho => (hs i fun hc => ho ((hi i (List.mem_append_left _ hc)).2 hi')).trans (hf.same i hi' ho)⟩

/-- A call: its own assertions are handed over, and come back otherwise; the rest stays. -/
theorem Sat.call {w0 w w' own H2 H3} {f g : List Nat} (hn : (f ++ g).Nodup) (hi : ∀ i, i ∈ f ++ g → i < w.heap.size ∧ (i < w0.heap.size → i ∈ own)) (hf : Fr w0 own w)
    (hg : Holds (hp w) H2 g) (h3 : Sat w f H3 w') : Sat w0 own (H3 ++ H2) w' := by
  obtain ⟨fp, hh, hn', hi', hf'⟩ := h3
  have hd := (List.nodup_append.1 hn).2.2
  have hgi : ∀ i, i ∈ g → w'.heap[i]? = w.heap[i]? := fun i hig => hf'.same i (hi i (List.mem_append_right _ hig)).1 fun hc => hd i hc i hig rfl
  refine ⟨fp ++ g, hh.append (hg.loc fun i hig => hgi i hig), ?_, ?_, ?_⟩
  · refine List.nodup_append.2 ⟨hn', (List.nodup_append.1 hn).2.1, fun i hip j hjg e => ?_⟩
    subst e
    exact hd i ((hi' i hip).2 (hi i (List.mem_append_right _ hjg)).1) i hjg rfl
  · intro i hm
    rcases List.mem_append.1 hm with hm | hm
    · refine ⟨(hi' i hm).1, fun h0 => ?_⟩
      have h1 := (hi' i hm).2 (Nat.lt_of_lt_of_le h0 hf.size)
      exact (hi i (List.mem_append_left _ h1)).2 h0
    · have h1 := hi i (List.mem_append_right _ hm)
      exact ⟨Nat.lt_of_lt_of_le h1.1 hf'.size, h1.2⟩
  · refine ⟨hf'.os.trans hf.os, hf'.tape.trans hf.tape, hf'.output.trans hf.output, Nat.le_trans hf.size hf'.size, fun i h0 ho => ?_⟩
    refine (hf'.same i (Nat.lt_of_lt_of_le h0 hf.size) fun hc => ho ?_).trans (hf.same i h0 ho)
    exact (hi i (List.mem_append_left _ hc)).2 h0

/-! ### Blocks of cells -/
/-- Block b is a row of the cells C. -/
def blk (b : Nat) (C : List Value) (T : TypeId) : Asrt where
  holds h fp := fp = [b] ∧ h b = some (.cells C.toArray T (0, 0))
  loc h h' fp he := by
    rintro ⟨rfl, hb⟩
    exact ⟨rfl, (he b (by simp)).trans hb⟩

theorem Sat.blk {w0 w own H b C T} (h : Sat w0 own H w) (hm : blk b C T ∈ H) : w.heap[b]? = some (.cells C.toArray T (0, 0)) ∧ b < w.heap.size := by
  obtain ⟨fp, ⟨rfl, hb⟩, _, hi⟩ := h.mem hm
  exact ⟨hb, (hi b (by simp)).1⟩

theorem Sat.cell {w0 w own H b C T} (h : Sat w0 own H w) (hm : Eng.blk b C T ∈ H) {j : Nat} {v : Value} (hj : C[j]? = some v) : w.cell? ⟨b, j, none⟩ = some v := by
  have hb := (h.blk hm).1
  simp [World.cell?, hb, hj]

/-- Block b is turned. -/
theorem Sat.put {w0 w own H b C T} (h : Sat w0 own (Eng.blk b C T :: H) w) (C' : List Value) : Sat w0 own (Eng.blk b C' T :: H) (w.setRow b C'.toArray) := by
  have hb := (h.blk (List.mem_cons_self ..)).1
  refine h.turn ?_ ?_ ?_ ?_ ?_
  · rfl
  · rfl
  · rfl
  · simp [World.setRow]
  · rintro fp ⟨rfl, _⟩
    refine ⟨⟨rfl, ?_⟩, fun i hi => ?_⟩
    · exact setRow_heap w b _ _ _ _ hb
    · simp only [List.mem_singleton] at hi
      simp only [World.setRow, Array.getElem?_modify]
      rw [if_neg (fun e => hi e.symm)]
end Go.Proofs.Ytnbckkpflmpnlaa.Eng
