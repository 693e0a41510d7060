/-
  The engine, part 6: what came in: its cells by shapes, and the memory that was there before. No conditions.
-/
import Derived.Test.YtnbckkpflmpnlaaRow
import Derived.OpenShut
import Derived.ShutString
namespace Go.Proofs.Ytnbckkpflmpnlaa.Eng
open Go Go.RowKit
set_option linter.unusedVariables false

/-! ### The memory that was there before, as it was -/
def frozen (W : World) : Asrt where
  holds h fp := fp = List.range W.heap.size ∧ ∀ i, i < W.heap.size → h i = W.heap[i]?
  loc h h' fp he := by
    rintro ⟨rfl, hb⟩
    exact ⟨rfl, fun i hi => (he i (List.mem_range.2 hi)).trans (hb i hi)⟩

theorem cell_lt {W : World} {ad : Addr} {v : Value} (h : W.cell? ad = some v) : ad.block < W.heap.size := by
  rcases Nat.lt_or_ge ad.block W.heap.size with h1 | h1
  · exact h1
  · simp [World.cell?, Array.getElem?_eq_none h1] at h
theorem cell_same {W w : World} {ad : Addr} (h : w.heap[ad.block]? = W.heap[ad.block]?) : w.cell? ad = W.cell? ad := by
  simp [World.cell?, h]
theorem Sat.frozen {w0 w own H W} (h : Sat w0 own H w) (hm : frozen W ∈ H) {ad : Addr} {v : Value} (hv : W.cell? ad = some v) : w.cell? ad = some v := by
  obtain ⟨fp, ⟨rfl, hb⟩, _, _⟩ := h.mem hm
  rw [cell_same (hb _ (cell_lt hv))]
  exact hv

section
variable {P : Program} {c : Cx} {l : TL} {H : List Asrt}
theorem Qr.old1 {T n z W} [i : Ty P T false n z] {x : Operand} {ad : Addr} {v : Value} (hx : ev l x = some (.pointer (some ad))) (hm : In (frozen W) H) (hv : W.cell? ad = some v) : Qr P c l H (.load T x) v := fun a w _ _ _ _ s => by
  have hc := s.2.2.frozen hm.mem hv
  simp [execOp, s.1.ev hx, run_load1 (P := P) (T := T) hc]
theorem Qr.oldN {T n z W} [i : Ty P T true n z] {x : Operand} {ad : Addr} {cs : List Value} (hx : ev l x = some (.pointer (some ad))) (hm : In (frozen W) H) (hn : cs.length = n) (hv : ∀ j v, cs[j]? = some v → W.cell? (ad.add j) = some v) : Qr P c l H (.load T x) (.agg cs.toArray) := fun a w _ _ _ _ s => by
  have hl := run_loadN (P := P) (w := w) (T := T) (ad := ad) hn (fun j v hj => s.2.2.frozen hm.mem (hv j v hj))
  simp [execOp, s.1.ev hx, hl]
end

/-- What a law wants, of a call that is handed all that was there before. -/
theorem CSpec.belowF {P : Program} {f : Nat} {args : List Value} {W : World} {r : Value} (h : CSpec P f args [frozen W] W (Keeps r [frozen W])) : Calls P f args.toArray W fun e w' => e = .returned r ∧ Below W.heap.size W w' :=
  (h (List.range W.heap.size) ⟨List.range W.heap.size, [], by simp, ⟨rfl, fun _ _ => rfl⟩, rfl⟩ List.nodup_range (fun i hi => List.mem_range.1 hi)).mono fun e w' ⟨H3, ⟨he, hH⟩, hS⟩ => ⟨he, ⟨hS.fr.os, hS.fr.tape, hS.fr.output, hS.fr.size, fun i hi => by
    subst hH
    obtain ⟨fp, ⟨rfl, hb⟩, _, _⟩ := hS.mem (List.mem_cons_self ..)
    exact hb i hi⟩⟩

/-! ### Shapes -/
inductive Sh
  | int (k : IntKind)
  | bool
  | str
  | sl (L : List Sh)

mutual
def Sh.Reads (W : World) : Sh → Value → Prop
  | .int k, v => ∃ n, v = .int k n ∧ (Lit.int k n).wf = true
  | .bool, v => ∃ b, v = .bool b
  | .str, v => ∃ s : ByteArray, v = .string s ∧ s.size ≤ maxLen
  | .sl L, v => v = .slice none 0 0 ∨ ∃ a len cap, v = .slice (some a) len cap ∧ len ≤ cap ∧ cap ≤ maxLen ∧ ∃ C : Nat → List Value, ∀ i, i < len → Sh.ReadsL W L (C i) ∧ ∀ j u, (C i)[j]? = some u → W.cell? (a.add (i * L.length + j)) = some u
def Sh.ReadsL (W : World) : List Sh → List Value → Prop
  | [], cs => cs = []
  | s :: L, cs => ∃ v cs', cs = v :: cs' ∧ Sh.Reads W s v ∧ Sh.ReadsL W L cs'
end

theorem Sh.ReadsL.append {W : World} : ∀ {L M : List Sh} {cs : List Value}, Sh.ReadsL W L (cs.take L.length) → Sh.ReadsL W M (cs.drop L.length) → Sh.ReadsL W (L ++ M) cs
  | [], M, cs, _, h2 => h2
  | s :: L, M, cs, h1, h2 => by
    simp only [Sh.ReadsL] at h1
    obtain ⟨v, cs', he, hv, hL⟩ := h1
    cases cs with
    | nil => simp at he
    | cons u us =>
      simp only [List.length_cons, List.take_succ_cons, List.cons.injEq] at he
      obtain ⟨rfl, rfl⟩ := he
      exact ⟨u, us, rfl, hv, Sh.ReadsL.append hL (by simpa using h2)⟩
theorem Sh.ReadsL.length {W : World} : ∀ {L : List Sh} {cs : List Value}, Sh.ReadsL W L cs → cs.length = L.length
  | [], cs, h => by simp only [Sh.ReadsL] at h; simp [h]
  | s :: L, cs, h => by
    simp only [Sh.ReadsL] at h
    obtain ⟨v, cs', rfl, _, hL⟩ := h
    simp [hL.length]

def places : Nat → List (Nat × Nat) → Bool
  | _, [] => true
  | o, (p, n) :: r => o == p && places (o + n) r

def flat (P : Program) : Nat → TypeId → Option (List Sh)
  | 0, _ => none
  | k + 1, T => match P.underlying T with
    | some (.int q) => some [.int q]
    | some .bool => some [.bool]
    | some .string => some [.str]
    | some (.slice e) => match flat P k e with
      | some L => if L.length = P.cellsOf e then some [.sl L] else none
      | none => none
    | some (.array n e) => match flat P k e with
      | some L => if L.length = P.cellsOf e ∧ n * L.length = P.cellsOf T then some (List.replicate n L).flatten else none
      | none => none
    | some (.struct fs) => match fs.toList.mapM (fun f => flat P k f.type) with
      | some Ls => if (Ls.map List.length = fs.toList.map fun f => P.cellsOf f.type) ∧ places 0 (fs.toList.map fun f => (f.offset, P.cellsOf f.type)) = true ∧ Ls.flatten.length = P.cellsOf T then some Ls.flatten else none
      | none => none
    | _ => none

theorem reps_reads {W : World} {L : List Sh} : ∀ {n : Nat} {cs : List Value}, cs.length = n * L.length → (∀ i, i < n → Sh.ReadsL W L ((cs.drop (i * L.length)).take L.length)) → Sh.ReadsL W (List.replicate n L).flatten cs
  | 0, cs, hl, _ => by
    simp only [Nat.zero_mul, List.length_eq_zero_iff] at hl
    subst hl
    simp [Sh.ReadsL]
  | n + 1, cs, hl, h => by
    rw [List.replicate_succ, List.flatten_cons]
    refine Sh.ReadsL.append (by simpa using h 0 (Nat.succ_pos n)) (reps_reads ?_ fun i hi => ?_)
    · rw [List.length_drop, hl, Nat.succ_mul]; omega
    · have := h (i + 1) (Nat.succ_lt_succ hi)
      rw [List.drop_drop]
      rwa [Nat.succ_mul, Nat.add_comm] at this

theorem struct_reads {W : World} {P : Program} : ∀ {fs : List Field} {Ls : List (List Sh)} {cs : List Value} {o : Nat}, Ls.map List.length = (fs.map fun f => P.cellsOf f.type) → places o (fs.map fun f => (f.offset, P.cellsOf f.type)) = true → cs.length = Ls.flatten.length →
    (∀ (i : Nat) (f : Field) (L : List Sh), fs[i]? = some f → Ls[i]? = some L → Sh.ReadsL W L ((cs.drop (f.offset - o)).take (P.cellsOf f.type))) → Sh.ReadsL W Ls.flatten cs
  | [], [], cs, o, _, _, hl, _ => by
    simp only [List.flatten_nil, List.length_nil, List.length_eq_zero_iff] at hl
    subst hl
    simp [Sh.ReadsL]
  | [], _ :: _, _, _, h, _, _, _ => by simp at h
  | _ :: _, [], _, _, h, _, _, _ => by simp at h
  | f :: fs, L :: Ls, cs, o, h1, h2, hl, h => by
    simp only [List.map_cons, List.cons.injEq] at h1
    simp only [List.map_cons, places, Bool.and_eq_true, beq_iff_eq] at h2
    obtain ⟨h2, h3⟩ := h2
    have h0 := h 0 f L rfl rfl
    rw [← h2, Nat.sub_self, List.drop_zero, ← h1.1] at h0
    rw [List.flatten_cons]
    have hle : ∀ (fs : List Field) (o : Nat), places o (fs.map fun f => (f.offset, P.cellsOf f.type)) = true → ∀ (i : Nat) (f : Field), fs[i]? = some f → o ≤ f.offset := by
      intro fs
      induction fs with
      | nil => intro o _ i f hf; simp at hf
      | cons g gs ih =>
        intro o hp i f hf
        simp only [List.map_cons, places, Bool.and_eq_true, beq_iff_eq] at hp
        cases i with
        | zero =>
          simp only [List.getElem?_cons_zero, Option.some.injEq] at hf
          subst hf
          omega
        | succ i =>
          have := ih _ hp.2 i f (by simpa using hf)
          omega
    refine Sh.ReadsL.append h0 (struct_reads (o := o + P.cellsOf f.type) h1.2 h3 ?_ fun i g M hg hM => ?_)
    · rw [List.length_drop, hl, List.flatten_cons, List.length_append]; omega
    · have h4 := h (i + 1) g M (by simpa using hg) (by simpa using hM)
      have h5 := hle fs _ h3 i g hg
      rw [List.drop_drop, h1.1]
      rwa [show g.offset - o = P.cellsOf f.type + (g.offset - (o + P.cellsOf f.type)) by omega] at h4

theorem mapM_get {α β : Type} {f : α → Option β} : ∀ {xs : List α} {ys : List β}, xs.mapM f = some ys → ∀ (i : Nat) (x : α) (y : β), xs[i]? = some x → ys[i]? = some y → f x = some y
  | [], ys, h, i, x, y, hx, _ => by simp at hx
  | a :: xs, ys, h, i, x, y, hx, hy => by
    rw [List.mapM_cons] at h
    cases ha : f a with
    | none => simp [ha] at h
    | some b =>
      cases hb : xs.mapM f with
      | none => simp [ha, hb] at h
      | some bs =>
        simp [ha, hb] at h
        subst h
        cases i with
        | zero =>
          simp at hx hy
          subst hx; subst hy
          exact ha
        | succ i => exact mapM_get hb i x y (by simpa using hx) (by simpa using hy)
theorem range_get {α : Type} {g : Nat → Option α} {n : Nat} {ys : List α} (h : (List.range n).mapM g = some ys) : ys.length = n ∧ ∀ (j : Nat) (u : α), ys[j]? = some u → g j = some u := by
  have hl : ys.length = n := by simpa using mapM_some_length h
  refine ⟨hl, fun j u hu => ?_⟩
  have hj : j < n := by
    rcases Nat.lt_or_ge j n with h1 | h1
    · exact h1
    · rw [List.getElem?_eq_none (by omega)] at hu; cases hu
  exact mapM_get h j j u (by simp [hj]) hu

variable {H : Type} {enc : TypeId × Value → H} {P : Program} {W : World} {spare : Nat → Bool} {held : Bool}
theorem flat_reads : ∀ (k fuel : Nat) (T : TypeId) (cs : List Value) (x : DataW H × List MemPlace) (L : List Sh), DataW.trod enc P W 0 spare held fuel T cs = some x → flat P k T = some L → Sh.ReadsL W L cs
  | 0, _, _, _, _, _, _, h => by simp [flat] at h
  | k + 1, fuel, T, cs, x, L, ht, h => by
    unfold flat at h
    split at h
    · rename_i q hu
      simp only [Option.some.injEq] at h
      subst h
      obtain ⟨n, rfl, _, hw⟩ := DataW.trod_int hu ht
      exact ⟨_, [], rfl, ⟨n, rfl, hw⟩, rfl⟩
    · rename_i hu
      simp only [Option.some.injEq] at h
      subst h
      obtain ⟨n, rfl, _⟩ := DataW.trod_bool hu ht
      exact ⟨_, [], rfl, ⟨n, rfl⟩, rfl⟩
    · rename_i hu
      simp only [Option.some.injEq] at h
      subst h
      obtain ⟨n, rfl, _, hs⟩ := DataW.trod_string hu ht
      exact ⟨_, [], rfl, ⟨n, rfl, hs⟩, rfl⟩
    · rename_i e hu
      split at h
      · rename_i M hM
        split at h
        · rename_i hc
          simp only [Option.some.injEq] at h
          subst h
          rcases DataW.trod_slice hu ht with ⟨rfl, _⟩ | ⟨a, len, cap, elems, rest, n, _, rfl, _, _, hl, hm, hlen, hel, _⟩
          · exact ⟨_, [], rfl, by simp [Sh.Reads], rfl⟩
          · refine ⟨_, [], rfl, ?_, rfl⟩
            simp only [Sh.Reads]
            refine .inr ⟨a, len, cap, rfl, hl, hm, ?_⟩
            have each : ∀ i, i < len → ∃ C, Sh.ReadsL W M C ∧ ∀ j u, C[j]? = some u → W.cell? (a.add (i * M.length + j)) = some u := by
              intro i hi
              have h1 := hel i hi
              rw [List.getElem?_eq_getElem (by omega)] at h1
              cases hcs : W.cells? 0 (a.add (i * P.cellsOf e)) (P.cellsOf e) with
              | none => rw [hcs] at h1; cases h1
              | some C =>
                rw [hcs] at h1
                refine ⟨C, flat_reads k _ _ _ _ _ h1 hM, fun j u hu => ?_⟩
                simp only [World.cells?, Nat.zero_le, if_true] at hcs
                have h2 := (range_get hcs).2 j u hu
                rw [hc]
                rwa [show (a.add (i * P.cellsOf e)).add j = a.add (i * P.cellsOf e + j) from by
                  unfold Addr.add
                  repeat' split
                  all_goals (first | omega | (cases a; simp_all; done) | (cases a; simp_all; omega))] at h2
            refine ⟨fun i => if h : i < len then (each i h).choose else [], fun i hi => ?_⟩
            simp only [dif_pos hi]
            exact (each i hi).choose_spec
        · cases h
      · cases h
    · rename_i n e hu
      split at h
      · rename_i M hM
        split at h
        · rename_i hc
          simp only [Option.some.injEq] at h
          subst h
          obtain ⟨xs, m, _, _, hl, hn, hx⟩ := DataW.trod_array hu ht
          refine reps_reads (by rw [hl, hc.2]) fun i hi => ?_
          have h1 := hx i hi
          rw [List.getElem?_eq_getElem (by omega), ← hc.1] at h1
          exact flat_reads k _ _ _ _ _ h1 hM
        · cases h
      · cases h
    · rename_i fs hu
      split at h
      · rename_i Ls hM
        split at h
        · rename_i hc
          simp only [Option.some.injEq] at h
          subst h
          obtain ⟨xs, m, _, _, hl, hn, hx⟩ := DataW.trod_struct hu ht
          refine struct_reads hc.1 hc.2.1 (by rw [hl, hc.2.2]) fun i f L hf hL => ?_
          have h1 := hx i f (by simpa using hf)
          have hi : i < fs.size := by
            rcases Nat.lt_or_ge i fs.size with h2 | h2
            · exact h2
            · rw [List.getElem?_eq_none (by simpa using h2)] at hf; cases hf
          rw [List.getElem?_eq_getElem (by omega)] at h1
          exact flat_reads k _ _ _ _ _ (by simpa using h1) (mapM_get hM i f L hf hL)
        · cases h
      · cases h
    · cases h

/-- An argument of many cells. -/
theorem in_agg {r : Reach} {b0 : Nat} {T : TypeId} {v : Value} {d : DataW H} {ps : List MemPlace} {k : Nat} {L : List Sh} (ho : Value.okWide P W r b0 T v) (hd : DataW.Trod enc P W 0 spare held T v d ps) (hs : (match P.underlying T with | some (.struct _) | some (.array _ _) => true | _ => false) = true) (hf : flat P k T = some L) :
    ∃ cs : List Value, v = .agg cs.toArray ∧ Sh.ReadsL W L cs := by
  obtain ⟨fuel, hd⟩ := hd
  have : ∃ cs, v = .agg cs := by
    unfold Value.okWide at ho
    split at ho
    · exact ⟨_, ho.choose_spec.1⟩
    · exact ⟨_, ho.choose_spec.1⟩
    · split at hs <;> simp_all
  obtain ⟨cs, rfl⟩ := this
  exact ⟨cs.toList, by simp, flat_reads k fuel T _ _ L hd hf⟩
end Go.Proofs.Ytnbckkpflmpnlaa.Eng
