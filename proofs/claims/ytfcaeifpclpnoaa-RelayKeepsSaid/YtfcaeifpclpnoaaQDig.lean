/-
  Digits of 16 bits. No conditions.
-/
import Derived.Test.YtfcaeifpclpnoaaQRow
import Derived.OpenShut
import Derived.ShutString
import Derived.DeepKeys
import Derived.Laws.Externs
namespace Go.Proofs.Ytfcaeifpclpnoaa.Eng
open Go Go.RowKit
set_option linter.unusedVariables false

/-! ### The memory that was there before, as it was -/
def frozen (W : World) : Asrt where
  holds h fp := fp = List.range W.heap.size ∧ ∀ i, i < W.heap.size → h i = W.heap[i]?
  loc h h' fp he := by
    rintro ⟨rfl, hb⟩
    exact ⟨rfl, fun i hi => (he i (List.mem_range.2 hi)).trans (hb i hi)⟩

theorem cell_lt {W : World} {ad : Addr} {v : Value} (h : W.cell? ad = some v) : ad.block < W.heap.size := by
  rcases Nat.lt_or_ge ad.block W.heap.size with h1 | h1
  · exact h1
  · simp [World.cell?, Array.getElem?_eq_none h1] at h
theorem cell_same {W w : World} {ad : Addr} (h : w.heap[ad.block]? = W.heap[ad.block]?) : w.cell? ad = W.cell? ad := by
  simp [World.cell?, h]
theorem Sat.frozen {w0 w own H W} (h : Sat w0 own H w) (hm : frozen W ∈ H) {ad : Addr} {v : Value} (hv : W.cell? ad = some v) : w.cell? ad = some v := by
  obtain ⟨fp, ⟨rfl, hb⟩, _, _⟩ := h.mem hm
  rw [cell_same (hb _ (cell_lt hv))]
  exact hv

section
variable {P : Program} {c : Cx} {l : TL} {H : List Asrt}
theorem Qr.old1 {T n z W} [i : Ty P T false n z] {x : Operand} {ad : Addr} {v : Value} (hx : ev l x = some (.pointer (some ad))) (hm : In (frozen W) H) (hv : W.cell? ad = some v) : Qr P c l H (.load T x) v := fun a w _ _ _ _ s => by
  have hc := s.2.2.frozen hm.mem hv
  simp [execOp, s.1.ev hx, run_load1 (P := P) (T := T) hc]
theorem Qr.oldN {T n z W} [i : Ty P T true n z] {x : Operand} {ad : Addr} {cs : List Value} (hx : ev l x = some (.pointer (some ad))) (hm : In (frozen W) H) (hn : cs.length = n) (hv : ∀ j v, cs[j]? = some v → W.cell? (ad.add j) = some v) : Qr P c l H (.load T x) (.agg cs.toArray) := fun a w _ _ _ _ s => by
  have hl := run_loadN (P := P) (w := w) (T := T) (ad := ad) hn (fun j v hj => s.2.2.frozen hm.mem (hv j v hj))
  simp [execOp, s.1.ev hx, hl]
end

/-- What a law wants, of a call that is handed all that was there before. -/
theorem CSpec.belowF {P : Program} {f : Nat} {args : List Value} {W : World} {r : Value} (h : CSpec P f args [frozen W] W (Keeps r [frozen W])) : Calls P f args.toArray W fun e w' => e = .returned r ∧ Below W.heap.size W w' :=
  (h (List.range W.heap.size) ⟨List.range W.heap.size, [], by simp, ⟨rfl, fun _ _ => rfl⟩, rfl⟩ List.nodup_range (fun i hi => List.mem_range.1 hi)).mono fun e w' ⟨H3, ⟨he, hH⟩, hS⟩ => ⟨he, ⟨hS.fr.os, hS.fr.tape, hS.fr.output, hS.fr.size, fun i hi => by
    subst hH
    obtain ⟨fp, ⟨rfl, hb⟩, _, _⟩ := hS.mem (List.mem_cons_self ..)
    exact hb i hi⟩⟩

/-! ### Shapes -/
inductive Sh
  | int (k : IntKind)
  | bool
  | str
  | sl (L : List Sh)

mutual
def Sh.Reads (W : World) : Sh → Value → Prop
  | .int k, v => ∃ n, v = .int k n ∧ (Lit.int k n).wf = true
  | .bool, v => ∃ b, v = .bool b
  | .str, v => ∃ s : ByteArray, v = .string s ∧ s.size ≤ maxLen
  | .sl L, v => v = .slice none 0 0 ∨ ∃ a len cap, v = .slice (some a) len cap ∧ len ≤ cap ∧ cap ≤ maxLen ∧ ∃ C : Nat → List Value, ∀ i, i < len → Sh.ReadsL W L (C i) ∧ ∀ j u, (C i)[j]? = some u → W.cell? (a.add (i * L.length + j)) = some u
def Sh.ReadsL (W : World) : List Sh → List Value → Prop
  | [], cs => cs = []
  | s :: L, cs => ∃ v cs', cs = v :: cs' ∧ Sh.Reads W s v ∧ Sh.ReadsL W L cs'
end

theorem Sh.ReadsL.append {W : World} : ∀ {L M : List Sh} {cs : List Value}, Sh.ReadsL W L (cs.take L.length) → Sh.ReadsL W M (cs.drop L.length) → Sh.ReadsL W (L ++ M) cs
  | [], M, cs, _, h2 => h2
  | s :: L, M, cs, h1, h2 => by
    simp only [Sh.ReadsL] at h1
    obtain ⟨v, cs', he, hv, hL⟩ := h1
    cases cs with
    | nil => simp at he
    | cons u us =>
      simp only [List.length_cons, List.take_succ_cons, List.cons.injEq] at he
      obtain ⟨rfl, rfl⟩ := he
      exact ⟨u, us, rfl, hv, Sh.ReadsL.append hL (by simpa using h2)⟩
theorem Sh.ReadsL.length {W : World} : ∀ {L : List Sh} {cs : List Value}, Sh.ReadsL W L cs → cs.length = L.length
  | [], cs, h => by simp only [Sh.ReadsL] at h; simp [h]
  | s :: L, cs, h => by
    simp only [Sh.ReadsL] at h
    obtain ⟨v, cs', rfl, _, hL⟩ := h
    simp [hL.length]

def places : Nat → List (Nat × Nat) → Bool
  | _, [] => true
  | o, (p, n) :: r => o == p && places (o + n) r

def flat (P : Program) : Nat → TypeId → Option (List Sh)
  | 0, _ => none
  | k + 1, T => match P.underlying T with
    | some (.int q) => some [.int q]
    | some .bool => some [.bool]
    | some .string => some [.str]
    | some (.slice e) => match flat P k e with
      | some L => if L.length = P.cellsOf e then some [.sl L] else none
      | none => none
    | some (.array n e) => match flat P k e with
      | some L => if L.length = P.cellsOf e ∧ n * L.length = P.cellsOf T then some (List.replicate n L).flatten else none
      | none => none
    | some (.struct fs) => match fs.toList.mapM (fun f => flat P k f.type) with
      | some Ls => if (Ls.map List.length = fs.toList.map fun f => P.cellsOf f.type) ∧ places 0 (fs.toList.map fun f => (f.offset, P.cellsOf f.type)) = true ∧ Ls.flatten.length = P.cellsOf T then some Ls.flatten else none
      | none => none
    | _ => none

theorem reps_reads {W : World} {L : List Sh} : ∀ {n : Nat} {cs : List Value}, cs.length = n * L.length → (∀ i, i < n → Sh.ReadsL W L ((cs.drop (i * L.length)).take L.length)) → Sh.ReadsL W (List.replicate n L).flatten cs
  | 0, cs, hl, _ => by
    simp only [Nat.zero_mul, List.length_eq_zero_iff] at hl
    subst hl
    simp [Sh.ReadsL]
  | n + 1, cs, hl, h => by
    rw [List.replicate_succ, List.flatten_cons]
    refine Sh.ReadsL.append (by simpa using h 0 (Nat.succ_pos n)) (reps_reads ?_ fun i hi => ?_)
    · rw [List.length_drop, hl, Nat.succ_mul]; omega
    · have := h (i + 1) (Nat.succ_lt_succ hi)
      rw [List.drop_drop]
      rwa [Nat.succ_mul, Nat.add_comm] at this

theorem struct_reads {W : World} {P : Program} : ∀ {fs : List Field} {Ls : List (List Sh)} {cs : List Value} {o : Nat}, Ls.map List.length = (fs.map fun f => P.cellsOf f.type) → places o (fs.map fun f => (f.offset, P.cellsOf f.type)) = true → cs.length = Ls.flatten.length →
    (∀ (i : Nat) (f : Field) (L : List Sh), fs[i]? = some f → Ls[i]? = some L → Sh.ReadsL W L ((cs.drop (f.offset - o)).take (P.cellsOf f.type))) → Sh.ReadsL W Ls.flatten cs
  | [], [], cs, o, _, _, hl, _ => by
    simp only [List.flatten_nil, List.length_nil, List.length_eq_zero_iff] at hl
    subst hl
    simp [Sh.ReadsL]
  | [], _ :: _, _, _, h, _, _, _ => by simp at h
  | _ :: _, [], _, _, h, _, _, _ => by simp at h
  | f :: fs, L :: Ls, cs, o, h1, h2, hl, h => by
    simp only [List.map_cons, List.cons.injEq] at h1
    simp only [List.map_cons, places, Bool.and_eq_true, beq_iff_eq] at h2
    obtain ⟨h2, h3⟩ := h2
    have h0 := h 0 f L rfl rfl
    rw [← h2, Nat.sub_self, List.drop_zero, ← h1.1] at h0
    rw [List.flatten_cons]
    have hle : ∀ (fs : List Field) (o : Nat), places o (fs.map fun f => (f.offset, P.cellsOf f.type)) = true → ∀ (i : Nat) (f : Field), fs[i]? = some f → o ≤ f.offset := by
      intro fs
      induction fs with
      | nil => intro o _ i f hf; simp at hf
      | cons g gs ih =>
        intro o hp i f hf
        simp only [List.map_cons, places, Bool.and_eq_true, beq_iff_eq] at hp
        cases i with
        | zero =>
          simp only [List.getElem?_cons_zero, Option.some.injEq] at hf
          subst hf
          omega
        | succ i =>
          have := ih _ hp.2 i f (by simpa using hf)
          omega
    refine Sh.ReadsL.append h0 (struct_reads (o := o + P.cellsOf f.type) h1.2 h3 ?_ fun i g M hg hM => ?_)
    · rw [List.length_drop, hl, List.flatten_cons, List.length_append]; omega
    · have h4 := h (i + 1) g M (by simpa using hg) (by simpa using hM)
      have h5 := hle fs _ h3 i g hg
      rw [List.drop_drop, h1.1]
      rwa [show g.offset - o = P.cellsOf f.type + (g.offset - (o + P.cellsOf f.type)) by omega] at h4

theorem mapM_get {α β : Type} {f : α → Option β} : ∀ {xs : List α} {ys : List β}, xs.mapM f = some ys → ∀ (i : Nat) (x : α) (y : β), xs[i]? = some x → ys[i]? = some y → f x = some y
  | [], ys, h, i, x, y, hx, _ => by simp at hx
  | a :: xs, ys, h, i, x, y, hx, hy => by
    rw [List.mapM_cons] at h
    cases ha : f a with
    | none => simp [ha] at h
    | some b =>
      cases hb : xs.mapM f with
      | none => simp [ha, hb] at h
      | some bs =>
        simp [ha, hb] at h
        subst h
        cases i with
        | zero =>
          simp at hx hy
          subst hx; subst hy
          exact ha
        | succ i => exact mapM_get hb i x y (by simpa using hx) (by simpa using hy)
theorem range_get {α : Type} {g : Nat → Option α} {n : Nat} {ys : List α} (h : (List.range n).mapM g = some ys) : ys.length = n ∧ ∀ (j : Nat) (u : α), ys[j]? = some u → g j = some u := by
  have hl : ys.length = n := by simpa using mapM_some_length h
  refine ⟨hl, fun j u hu => ?_⟩
  have hj : j < n := by
    rcases Nat.lt_or_ge j n with h1 | h1
    · exact h1
    · rw [List.getElem?_eq_none (by omega)] at hu; cases hu
  exact mapM_get h j j u (by simp [hj]) hu

variable {H : Type} {enc : TypeId × Value → H} {P : Program} {W : World} {spare : Nat → Bool} {held : Bool}
theorem flat_reads : ∀ (k fuel : Nat) (T : TypeId) (cs : List Value) (x : DataW H × List MemPlace) (L : List Sh), DataW.trod enc P W 0 spare held fuel T cs = some x → flat P k T = some L → Sh.ReadsL W L cs
  | 0, _, _, _, _, _, _, h => by simp [flat] at h
  | k + 1, fuel, T, cs, x, L, ht, h => by
    unfold flat at h
    split at h
    · rename_i q hu
      simp only [Option.some.injEq] at h
      subst h
      obtain ⟨n, rfl, _, hw⟩ := DataW.trod_int hu ht
      exact ⟨_, [], rfl, ⟨n, rfl, hw⟩, rfl⟩
    · rename_i hu
      simp only [Option.some.injEq] at h
      subst h
      obtain ⟨n, rfl, _⟩ := DataW.trod_bool hu ht
      exact ⟨_, [], rfl, ⟨n, rfl⟩, rfl⟩
    · rename_i hu
      simp only [Option.some.injEq] at h
      subst h
      obtain ⟨n, rfl, _, hs⟩ := DataW.trod_string hu ht
      exact ⟨_, [], rfl, ⟨n, rfl, hs⟩, rfl⟩
    · rename_i e hu
      split at h
      · rename_i M hM
        split at h
        · rename_i hc
          simp only [Option.some.injEq] at h
          subst h
          rcases DataW.trod_slice hu ht with ⟨rfl, _⟩ | ⟨a, len, cap, elems, rest, n, _, rfl, _, _, hl, hm, hlen, hel, _⟩
          · exact ⟨_, [], rfl, by simp [Sh.Reads], rfl⟩
          · refine ⟨_, [], rfl, ?_, rfl⟩
            simp only [Sh.Reads]
            refine .inr ⟨a, len, cap, rfl, hl, hm, ?_⟩
            have each : ∀ i, i < len → ∃ C, Sh.ReadsL W M C ∧ ∀ j u, C[j]? = some u → W.cell? (a.add (i * M.length + j)) = some u := by
              intro i hi
              have h1 := hel i hi
              rw [List.getElem?_eq_getElem (by omega)] at h1
              cases hcs : W.cells? 0 (a.add (i * P.cellsOf e)) (P.cellsOf e) with
              | none => rw [hcs] at h1; cases h1
              | some C =>
                rw [hcs] at h1
                refine ⟨C, flat_reads k _ _ _ _ _ h1 hM, fun j u hu => ?_⟩
                simp only [World.cells?, Nat.zero_le, if_true] at hcs
                have h2 := (range_get hcs).2 j u hu
                rw [hc]
                rwa [show (a.add (i * P.cellsOf e)).add j = a.add (i * P.cellsOf e + j) from by
                  unfold Addr.add
                  repeat' split
                  all_goals (first | omega | (cases a; simp_all; done) | (cases a; simp_all; omega))] at h2
            refine ⟨fun i => if h : i < len then (each i h).choose else [], fun i hi => ?_⟩
            simp only [dif_pos hi]
            exact (each i hi).choose_spec
        · cases h
      · cases h
    · rename_i n e hu
      split at h
      · rename_i M hM
        split at h
        · rename_i hc
          simp only [Option.some.injEq] at h
          subst h
          obtain ⟨xs, m, _, _, hl, hn, hx⟩ := DataW.trod_array hu ht
          refine reps_reads (by rw [hl, hc.2]) fun i hi => ?_
          have h1 := hx i hi
          rw [List.getElem?_eq_getElem (by omega), ← hc.1] at h1
          exact flat_reads k _ _ _ _ _ h1 hM
        · cases h
      · cases h
    · rename_i fs hu
      split at h
      · rename_i Ls hM
        split at h
        · rename_i hc
          simp only [Option.some.injEq] at h
          subst h
          obtain ⟨xs, m, _, _, hl, hn, hx⟩ := DataW.trod_struct hu ht
          refine struct_reads hc.1 hc.2.1 (by rw [hl, hc.2.2]) fun i f L hf hL => ?_
          have h1 := hx i f (by simpa using hf)
          have hi : i < fs.size := by
            rcases Nat.lt_or_ge i fs.size with h2 | h2
            · exact h2
            · rw [List.getElem?_eq_none (by simpa using h2)] at hf; cases hf
          rw [List.getElem?_eq_getElem (by omega)] at h1
          exact flat_reads k _ _ _ _ _ (by simpa using h1) (mapM_get hM i f L hf hL)
        · cases h
      · cases h
    · cases h

/-- An argument of many cells. -/
theorem in_agg {r : Reach} {b0 : Nat} {T : TypeId} {v : Value} {d : DataW H} {ps : List MemPlace} {k : Nat} {L : List Sh} (ho : Value.okWide P W r b0 T v) (hd : DataW.Trod enc P W 0 spare held T v d ps) (hs : (match P.underlying T with | some (.struct _) | some (.array _ _) => true | _ => false) = true) (hf : flat P k T = some L) :
    ∃ cs : List Value, v = .agg cs.toArray ∧ Sh.ReadsL W L cs := by
  obtain ⟨fuel, hd⟩ := hd
  have : ∃ cs, v = .agg cs := by
    unfold Value.okWide at ho
    split at ho
    · exact ⟨_, ho.choose_spec.1⟩
    · exact ⟨_, ho.choose_spec.1⟩
    · split at hs <;> simp_all
  obtain ⟨cs, rfl⟩ := this
  exact ⟨cs.toList, by simp, flat_reads k fuel T _ _ L hd hf⟩
end Go.Proofs.Ytfcaeifpclpnoaa.Eng
namespace Go.Proofs.Ytfcaeifpclpnoaa.Eng
open Go Go.RowKit
set_option linter.unusedVariables false

def Sh.plain : Sh → Bool
  | .sl _ => false
  | _ => true
def litOf : Value → Lit
  | .int k n => .int k n
  | .bool b => .bool b
  | .string s => .string s.data.toList
  | _ => .bool false

theorem litOf_inj {W : World} : ∀ {s : Sh} {u v : Value}, s.plain = true → Sh.Reads W s u → Sh.Reads W s v → litOf u = litOf v → u = v
  | .int k, u, v, _, hu, hv, e => by
    simp only [Sh.Reads] at hu hv
    obtain ⟨n, rfl, _⟩ := hu
    obtain ⟨m, rfl, _⟩ := hv
    simp only [litOf, Lit.int.injEq, true_and] at e
    rw [e]
  | .bool, u, v, _, hu, hv, e => by
    simp only [Sh.Reads] at hu hv
    obtain ⟨n, rfl⟩ := hu
    obtain ⟨m, rfl⟩ := hv
    simp only [litOf, Lit.bool.injEq] at e
    rw [e]
  | .str, u, v, _, hu, hv, e => by
    simp only [Sh.Reads] at hu hv
    obtain ⟨n, rfl, _⟩ := hu
    obtain ⟨m, rfl, _⟩ := hv
    simp only [litOf, Lit.string.injEq] at e
    have : n.data = m.data := Array.toList_inj.1 e
    cases n; cases m
    simp_all
theorem lits_inj {W : World} : ∀ {L : List Sh} {cs ds : List Value}, L.all Sh.plain = true → Sh.ReadsL W L cs → Sh.ReadsL W L ds → cs.map litOf = ds.map litOf → cs = ds
  | [], cs, ds, _, h1, h2, _ => by simp only [Sh.ReadsL] at h1 h2; rw [h1, h2]
  | s :: L, cs, ds, hp, h1, h2, e => by
    simp only [Sh.ReadsL] at h1 h2
    obtain ⟨u, us, rfl, hu, hus⟩ := h1
    obtain ⟨v, vs, rfl, hv, hvs⟩ := h2
    simp only [List.all_cons, Bool.and_eq_true] at hp
    simp only [List.map_cons, List.cons.injEq] at e
    rw [litOf_inj hp.1 hu hv e.1, lits_inj hp.2 hus hvs e.2]

theorem ReadsL_split {W : World} : ∀ {L M : List Sh} {cs : List Value}, Sh.ReadsL W (L ++ M) cs → Sh.ReadsL W L (cs.take L.length) ∧ Sh.ReadsL W M (cs.drop L.length)
  | [], M, cs, h => by simpa [Sh.ReadsL] using h
  | s :: L, M, cs, h => by
    simp only [List.cons_append, Sh.ReadsL] at h
    obtain ⟨v, cs', rfl, hv, hr⟩ := h
    obtain ⟨h1, h2⟩ := ReadsL_split hr
    exact ⟨by simp only [List.length_cons, List.take_succ_cons, Sh.ReadsL]; exact ⟨v, _, rfl, hv, h1⟩, by simpa using h2⟩
theorem reps_split {W : World} {L : List Sh} : ∀ {n : Nat} {cs : List Value}, Sh.ReadsL W (List.replicate n L).flatten cs → ∀ i, i < n → Sh.ReadsL W L ((cs.drop (i * L.length)).take L.length)
  | 0, _, _, i, h => absurd h (Nat.not_lt_zero i)
  | n + 1, cs, h, i, hi => by
    rw [List.replicate_succ, List.flatten_cons] at h
    obtain ⟨h1, h2⟩ := ReadsL_split h
    cases i with
    | zero => simpa using h1
    | succ i =>
      have := reps_split h2 i (Nat.lt_of_succ_lt_succ hi)
      rw [List.drop_drop] at this
      rwa [Nat.succ_mul, Nat.add_comm]
theorem structs_split {W : World} {P : Program} : ∀ {fs : List Field} {Ls : List (List Sh)} {cs : List Value} {o : Nat}, Ls.map List.length = (fs.map fun f => P.cellsOf f.type) → places o (fs.map fun f => (f.offset, P.cellsOf f.type)) = true → Sh.ReadsL W Ls.flatten cs →
    ∀ (i : Nat) (f : Field) (L : List Sh), fs[i]? = some f → Ls[i]? = some L → o ≤ f.offset ∧ Sh.ReadsL W L ((cs.drop (f.offset - o)).take (P.cellsOf f.type))
  | [], _, _, _, _, _, _, i, f, L, hf, _ => by simp at hf
  | _ :: _, [], _, _, h, _, _, _, _, _, _, _ => by simp at h
  | g :: fs, M :: Ls, cs, o, h1, h2, h, i, f, L, hf, hL => by
    simp only [List.map_cons, List.cons.injEq] at h1
    simp only [List.map_cons, places, Bool.and_eq_true, beq_iff_eq] at h2
    rw [List.flatten_cons] at h
    obtain ⟨ha, hb⟩ := ReadsL_split h
    cases i with
    | zero =>
      simp only [List.getElem?_cons_zero, Option.some.injEq] at hf hL
      subst hf; subst hL
      refine ⟨by omega, ?_⟩
      rw [← h2.1, Nat.sub_self, List.drop_zero, ← h1.1]
      exact ha
    | succ i =>
      obtain ⟨h3, h4⟩ := structs_split (o := o + P.cellsOf g.type) h1.2 h2.2 hb i f L (by simpa using hf) (by simpa using hL)
      refine ⟨by omega, ?_⟩
      rw [List.drop_drop, h1.1] at h4
      rwa [show f.offset - o = P.cellsOf g.type + (f.offset - (o + P.cellsOf g.type)) by omega]

theorem range_mapM {α : Type} {g : Nat → Option α} {h : Nat → α} {n : Nat} (hg : ∀ i, i < n → g i = some (h i)) : (List.range n).mapM g = some ((List.range n).map h) := by
  have : ∀ (l : List Nat), (∀ i, i ∈ l → g i = some (h i)) → l.mapM g = some (l.map h) := by
    intro l
    induction l with
    | nil => intro _; rfl
    | cons a r ih =>
      intro hl
      rw [List.mapM_cons, hl a (by simp), ih fun i hi => hl i (by simp [hi])]
      rfl
  exact this _ fun i hi => hg i (List.mem_range.1 hi)
theorem list_mapM {α β : Type} {g : α → Option β} : ∀ {xs : List α} {ys : List β}, xs.length = ys.length → (∀ (i : Nat) (x : α) (y : β), xs[i]? = some x → ys[i]? = some y → g x = some y) → xs.mapM g = some ys
  | [], [], _, _ => rfl
  | [], _ :: _, h, _ => by simp at h
  | _ :: _, [], h, _ => by simp at h
  | x :: xs, y :: ys, hl, h => by
    rw [List.mapM_cons, h 0 x y rfl rfl, list_mapM (by simpa using hl) fun i a b ha hb => h (i + 1) a b (by simpa using ha) (by simpa using hb)]
    rfl

theorem reps_flat : ∀ {c n : Nat} {cs : List Value}, cs.length = n * c → ((List.range n).map fun i => ((cs.drop (i * c)).take c)).flatten = cs
  | c, 0, cs, h => by
    simp only [Nat.zero_mul, List.length_eq_zero_iff] at h
    subst h; rfl
  | c, n + 1, cs, h => by
    rw [List.range_succ_eq_map, List.map_cons, List.flatten_cons, List.map_map]
    have h1 := reps_flat (c := c) (n := n) (cs := cs.drop c) (by rw [List.length_drop, h, Nat.succ_mul]; omega)
    simp only [Nat.zero_mul, List.drop_zero]
    have h2 : ((List.range n).map ((fun i => (cs.drop (i * c)).take c) ∘ Nat.succ)) = (List.range n).map fun i => ((cs.drop c).drop (i * c)).take c := by
      refine List.map_congr_left fun i _ => ?_
      simp [List.drop_drop, Nat.succ_mul, Nat.add_comm]
    rw [h2, h1, List.take_append_drop]

variable {P : Program} {W : World}
theorem flat_keys : ∀ (k : Nat) (T : TypeId) (cs : List Value) (L : List Sh), flat P k T = some L → L.all Sh.plain = true → P.keyTypeAt k T = true → Sh.ReadsL W L cs → P.keyLits k T cs = some (cs.map litOf)
  | 0, _, _, _, h, _, _, _ => by simp [flat] at h
  | k + 1, T, cs, L, h, hp, hk, hr => by
    unfold flat at h
    unfold Program.keyTypeAt at hk
    unfold Program.keyLits
    cases hu : P.underlying T with
    | none => rw [hu] at h; cases h
    | some d =>
      rw [hu] at h hk
      cases d with
      | int q =>
        simp only [Option.some.injEq] at h
        subst h
        simp only [Sh.ReadsL, Sh.Reads] at hr
        obtain ⟨v, cs', rfl, ⟨n, rfl, hw⟩, rfl⟩ := hr
        simp [hw, litOf]
      | bool =>
        simp only [Option.some.injEq] at h
        subst h
        simp only [Sh.ReadsL, Sh.Reads] at hr
        obtain ⟨v, cs', rfl, ⟨n, rfl⟩, rfl⟩ := hr
        simp [litOf]
      | string =>
        simp only [Option.some.injEq] at h
        subst h
        simp only [Sh.ReadsL, Sh.Reads] at hr
        obtain ⟨v, cs', rfl, ⟨n, rfl, hs⟩, rfl⟩ := hr
        simp [litOf, hs]
      | slice e => simp at hk
      | array n e =>
        simp only at h hk ⊢
        cases hM : flat P k e with
        | none => rw [hM] at h; cases h
        | some M =>
          rw [hM] at h
          simp only at h
          split at h
          · rename_i hc
            simp only [Option.some.injEq] at h
            subst h
            have hl := hr.length
            rw [List.length_flatten, List.map_replicate, List.sum_replicate_nat] at hl
            rw [if_pos (by rw [hl, hc.2])]
            cases Nat.eq_zero_or_pos n with
            | inl h0 =>
              subst h0
              simp only [Nat.zero_mul, List.length_eq_zero_iff] at hl
              subst hl
              rfl
            | inr hpos =>
              have hpM : M.all Sh.plain = true := by
                rw [List.all_eq_true] at hp ⊢
                intro s hs
                exact hp s (List.mem_flatten.2 ⟨M, List.mem_replicate.2 ⟨by omega, rfl⟩, hs⟩)
              have hg := range_mapM (n := n) (g := fun i => P.keyLits k e ((cs.drop (i * P.cellsOf e)).take (P.cellsOf e))) (h := fun i => ((cs.drop (i * P.cellsOf e)).take (P.cellsOf e)).map litOf) (fun i hi => flat_keys k e _ M hM hpM hk (by rw [← hc.1]; exact reps_split hr i hi))
              rw [hg]
              have h2 := congrArg (List.map litOf) (reps_flat (c := P.cellsOf e) (n := n) (cs := cs) (by rw [hl, hc.1]))
              rw [← h2, List.map_flatten, List.map_map]
              rfl
          · cases h
      | struct fs =>
        simp only at h hk ⊢
        simp only [Bool.and_eq_true] at hk
        cases hM : fs.toList.mapM (fun f => flat P k f.type) with
        | none => rw [hM] at h; cases h
        | some Ls =>
          rw [hM] at h
          simp only at h
          split at h
          · rename_i hc
            simp only [Option.some.injEq] at h
            subst h
            have hl := hr.length
            have hall := Array.all_eq_true_iff_forall_mem.1 hk.1.1
            rw [if_pos ⟨by rw [hl, hc.2.2], Array.all_eq_true_iff_forall_mem.2 fun f hf => (Bool.and_eq_true_iff.1 (hall f hf)).1⟩]
            have hlen : Ls.length = fs.toList.length := by simpa using mapM_some_length hM
            have hg := list_mapM (g := fun f => P.keyLits k f.type ((cs.drop f.offset).take (P.cellsOf f.type))) (xs := fs.toList) (ys := fs.toList.map fun f => ((cs.drop f.offset).take (P.cellsOf f.type)).map litOf) (by simp) (fun i f y hf hy => by
              rw [List.getElem?_map, hf] at hy
              simp only [Option.map_some, Option.some.injEq] at hy
              subst hy
              have hi : i < Ls.length := by
                rcases Nat.lt_or_ge i fs.toList.length with h2 | h2
                · omega
                · rw [List.getElem?_eq_none h2] at hf; cases hf
              have hL : Ls[i]? = some Ls[i] := List.getElem?_eq_getElem hi
              have hmem : f ∈ fs := Array.mem_toList_iff.1 (List.mem_of_getElem? hf)
              have hpL : Ls[i].all Sh.plain = true := by
                rw [List.all_eq_true] at hp ⊢
                intro s hs
                exact hp s (List.mem_flatten.2 ⟨_, List.getElem_mem hi, hs⟩)
              have h5 := (structs_split (o := 0) hc.1 hc.2.1 hr i f _ hf hL).2
              exact flat_keys k _ _ _ (mapM_get hM i f _ hf hL) hpL (Bool.and_eq_true_iff.1 (hall f hmem)).2 (by simpa using h5))
            rw [hg]
            simp only [Option.map_some, Option.some.injEq]
            have key : ∀ (gs : List Field) (Ls : List (List Sh)) (o : Nat) (us : List Value), Ls.map List.length = (gs.map fun f => P.cellsOf f.type) → places o (gs.map fun f => (f.offset, P.cellsOf f.type)) = true → us.length = Ls.flatten.length →
                (gs.map fun f => ((us.drop (f.offset - o)).take (P.cellsOf f.type))).flatten = us := by
              intro gs
              induction gs with
              | nil =>
                intro Ls o us h1 _ h3
                have : Ls = [] := by simpa using h1
                subst this
                have : us = [] := by simpa using h3
                subst this
                rfl
              | cons g gs ih =>
                intro Ls o us h1 h2 h3
                cases Ls with
                | nil => simp at h1
                | cons M Ls =>
                  simp only [List.map_cons, List.cons.injEq] at h1
                  simp only [List.map_cons, places, Bool.and_eq_true, beq_iff_eq] at h2
                  rw [List.map_cons, List.flatten_cons]
                  have hle : ∀ (fs : List Field) (o : Nat), places o (fs.map fun f => (f.offset, P.cellsOf f.type)) = true → ∀ f ∈ fs, o ≤ f.offset := by
                    intro fs
                    induction fs with
                    | nil => intro o _ f hf; cases hf
                    | cons x xs ih =>
                      intro o hp f hf
                      simp only [List.map_cons, places, Bool.and_eq_true, beq_iff_eq] at hp
                      rcases List.mem_cons.1 hf with rfl | hf
                      · omega
                      · have := ih _ hp.2 f hf; omega
                  have h5 := ih Ls (o + P.cellsOf g.type) (us.drop (P.cellsOf g.type)) h1.2 h2.2 (by rw [List.length_drop, h3, List.flatten_cons, List.length_append, h1.1]; omega)
                  have h6 : (gs.map fun f => ((us.drop (f.offset - o)).take (P.cellsOf f.type))) = gs.map fun f => (((us.drop (P.cellsOf g.type)).drop (f.offset - (o + P.cellsOf g.type))).take (P.cellsOf f.type)) := by
                    refine List.map_congr_left fun f hf => ?_
                    have := hle gs _ h2.2 f hf
                    rw [List.drop_drop, show P.cellsOf g.type + (f.offset - (o + P.cellsOf g.type)) = f.offset - o by omega]
                  rw [h6, h5, ← h2.1, Nat.sub_self, List.drop_zero, List.take_append_drop]
            have h7 := key fs.toList Ls 0 cs hc.1 hc.2.1 hl
            have h8 := congrArg (List.map litOf) h7
            rw [← h8, List.map_flatten, List.map_map]
            simp [Function.comp_def]
          · cases h
      | _ => simp at hk

/-- Two values of many plain cells. -/
theorem eq_flat {T : TypeId} {k : Nat} {L : List Sh} {cs ds : List Value} {b : Bool} (hf : flat P k T = some L) (hp : L.all Sh.plain = true) (hk : P.keyTypeAt k T = true) (hs : (match P.underlying T with | some (.struct _) | some (.array _ _) => true | _ => false) = true) (hc : L.length = P.cellsOf T) (hk9 : k ≤ 10000)
    (h1 : Sh.ReadsL W L cs) (h2 : Sh.ReadsL W L ds) (hb : b = true ↔ cs = ds) (w : World) : (Op.equal T (.agg cs.toArray) (.agg ds.toArray)).run P w = .ok b w := by
  have hform : ∀ us : List Value, us.length = L.length → (Value.agg us.toArray).formed P T = true := by
    intro us hus
    unfold Value.formed
    split at hs <;> simp_all
  obtain ⟨r, hr, hi⟩ := run_equalIn_deep (10000 - k) k T hk w k k _ _ _ _ (hform cs h1.length) (hform ds h2.length) (flat_keys (W := W) k T cs L hf hp hk h1) (flat_keys (W := W) k T ds L hf hp hk h2)
  rw [show 10000 - k + k = 10000 by omega] at hr
  have : b = r := by
    rw [Bool.eq_iff_iff, hb, hi]
    constructor
    · intro e; rw [e]
    · exact lits_inj hp h1 h2
  rw [this]
  exact hr
end Go.Proofs.Ytfcaeifpclpnoaa.Eng
namespace Go.Proofs.Ytfcaeifpclpnoaa.Eng
open Go Go.RowKit
set_option linter.unusedVariables false

def wv (n : Int) : List Value := [.int .u64 (n % 18446744073709551616), .int .u64 (n / 18446744073709551616 % 18446744073709551616), .int .u64 (n / 340282366920938463463374607431768211456 % 18446744073709551616), .int .u64 (n / 6277101735386680763835789423207666416102355444464034512896 % 18446744073709551616)]
/-- A number that is wide. -/
def Wd (n : Int) : Prop := 0 ≤ n ∧ n < 115792089237316195423570985008687907853269984665640564039457584007913129639936
/-- A word. -/
def Wo (n : Int) : Prop := 0 ≤ n ∧ n < 18446744073709551616

theorem wv_words {x0 x1 x2 x3 : Int} (h0 : Wo x0) (h1 : Wo x1) (h2 : Wo x2) (h3 : Wo x3) :
    wv (x0 + 18446744073709551616 * x1 + 340282366920938463463374607431768211456 * x2 + 6277101735386680763835789423207666416102355444464034512896 * x3) = [.int .u64 x0, .int .u64 x1, .int .u64 x2, .int .u64 x3] := by
  unfold Wo at *
  simp only [wv, List.cons.injEq, Value.int.injEq, true_and, and_true]
  refine ⟨?_, ?_, ?_, ?_⟩ <;> omega
theorem wd_words {n : Int} (h : Wd n) : ∃ x0 x1 x2 x3, Wo x0 ∧ Wo x1 ∧ Wo x2 ∧ Wo x3 ∧ n = x0 + 18446744073709551616 * x1 + 340282366920938463463374607431768211456 * x2 + 6277101735386680763835789423207666416102355444464034512896 * x3 := by
  unfold Wd at h
  unfold Wo
  refine ⟨n % 18446744073709551616, n / 18446744073709551616 % 18446744073709551616, n / 340282366920938463463374607431768211456 % 18446744073709551616, n / 6277101735386680763835789423207666416102355444464034512896 % 18446744073709551616, ?_, ?_, ?_, ?_, ?_⟩
  all_goals omega
theorem wd_of {x0 x1 x2 x3 : Int} (h0 : Wo x0) (h1 : Wo x1) (h2 : Wo x2) (h3 : Wo x3) : Wd (x0 + 18446744073709551616 * x1 + 340282366920938463463374607431768211456 * x2 + 6277101735386680763835789423207666416102355444464034512896 * x3) := by
  unfold Wo at *
  unfold Wd
  omega
theorem wv_inj {a b : Int} (ha : Wd a) (hb : Wd b) : wv a = wv b ↔ a = b := by
  constructor
  · intro h
    simp only [wv, List.cons.injEq, Value.int.injEq, true_and, and_true] at h
    unfold Wd at *
    omega
  · rintro rfl; rfl
theorem wv_small {n : Int} (h : Wo n) : wv n = [.int .u64 n, .int .u64 0, .int .u64 0, .int .u64 0] := by
  have := wv_words h (x1 := 0) (x2 := 0) (x3 := 0) (by unfold Wo; omega) (by unfold Wo; omega) (by unfold Wo; omega)
  simpa using this
theorem wv_zero : wv 0 = [.int .u64 0, .int .u64 0, .int .u64 0, .int .u64 0] := rfl
theorem wv_length (n : Int) : (wv n).length = 4 := rfl
theorem wv_take (n : Int) : (wv n).take 4 = wv n := rfl
theorem wv_drop (n : Int) : (wv n).drop 4 = [] := rfl
/-- Many wide numbers, one behind the other. -/
def wvs (ns : Nat → Int) : Nat → List Value
  | 0 => []
  | k + 1 => wvs ns k ++ wv (ns k)
theorem wvs_length (ns : Nat → Int) : ∀ k, (wvs ns k).length = k * 4
  | 0 => rfl
  | k + 1 => by rw [wvs, List.length_append, wvs_length ns k, wv_length]; omega
theorem wvs_get {ns : Nat → Int} : ∀ {m k off : Nat}, off = 4 * k → k < m → ((wvs ns m).drop off).take 4 = wv (ns k)
  | 0, k, _, _, h => by omega
  | m + 1, k, off, he, h => by
    subst he
    rcases Nat.lt_or_ge k m with h1 | h1
    · rw [wvs, List.drop_append_of_le_length (by rw [wvs_length]; omega), List.take_append_of_le_length (by rw [List.length_drop, wvs_length]; omega)]
      exact wvs_get rfl h1
    · have : k = m := by omega
      subst this
      rw [wvs, List.drop_append, List.drop_eq_nil_of_le (by rw [wvs_length]; omega), wvs_length]
      rw [show 4 * k - k * 4 = 0 by omega]
      rfl
def upd (ns : Nat → Int) (k : Nat) (x : Int) : Nat → Int := fun j => if j = k then x else ns j
theorem wvs_same {ns ms : Nat → Int} : ∀ {m : Nat}, (∀ j, j < m → ns j = ms j) → wvs ns m = wvs ms m
  | 0, _ => rfl
  | m + 1, h => by rw [wvs, wvs, wvs_same fun j hj => h j (Nat.lt_succ_of_lt hj), h m (Nat.lt_succ_self m)]
theorem wvs_set {ns : Nat → Int} {x : Int} : ∀ {m k off : Nat}, off = 4 * k → k < m → splice (wvs ns m) off (wv x) = wvs (upd ns k x) m
  | 0, k, _, _, h => by omega
  | m + 1, k, off, he, h => by
    subst he
    rcases Nat.lt_or_ge k m with h1 | h1
    · have ih := wvs_set (ns := ns) (x := x) (m := m) (k := k) rfl h1
      rw [wvs, wvs, ← ih]
      unfold splice
      rw [wv_length, List.take_append_of_le_length (by rw [wvs_length]; omega), List.drop_append_of_le_length (by rw [wvs_length]; omega)]
      have : upd ns k x m = ns m := if_neg (by omega)
      rw [this]
      simp only [List.append_assoc]
    · have : k = m := by omega
      subst this
      rw [wvs, wvs]
      have e1 : wvs (upd ns k x) k = wvs ns k := wvs_same fun j hj => if_neg (by omega)
      have e2 : upd ns k x k = x := if_pos rfl
      rw [e1, e2]
      unfold splice
      rw [wv_length, List.take_append, List.take_of_length_le (by rw [wvs_length]; omega), wvs_length, show 4 * k - k * 4 = 0 by omega, List.drop_eq_nil_of_le (by rw [List.length_append, wvs_length, wv_length]; omega)]
      simp
theorem wvs_row {ns : Nat → Int} {m a off : Nat} (he : off = 8 * a) (h : 2 * a + 1 < m) : ((wvs ns m).drop off).take 8 = wvs (fun j => ns (2 * a + j)) 2 := by
  subst he
  have h1 := wvs_get (ns := ns) (m := m) (k := 2 * a) (off := 4 * (2 * a)) rfl (by omega)
  have h2 := wvs_get (ns := ns) (m := m) (k := 2 * a + 1) (off := 4 * (2 * a + 1)) rfl h
  simp only [wvs, List.nil_append]
  rw [show (8 : Nat) = 4 + 4 from rfl, List.take_add, List.drop_drop]
  rw [show (4 + 4) * a = 4 * (2 * a) by omega, h1, show 4 * (2 * a) + 4 = 4 * (2 * a + 1) by omega, h2]
  rfl
theorem wvs_inj {ns ms : Nat → Int} : ∀ {m : Nat}, (∀ j, j < m → Wd (ns j)) → (∀ j, j < m → Wd (ms j)) → (wvs ns m = wvs ms m ↔ ∀ j, j < m → ns j = ms j)
  | 0, _, _ => ⟨fun _ j hj => by omega, fun _ => rfl⟩
  | m + 1, h1, h2 => by
    constructor
    · intro e
      rw [wvs, wvs] at e
      obtain ⟨e1, e2⟩ := List.append_inj e (by rw [wvs_length, wvs_length])
      have i1 := (wvs_inj (fun j hj => h1 j (Nat.lt_succ_of_lt hj)) (fun j hj => h2 j (Nat.lt_succ_of_lt hj))).1 e1
      have i2 := (wv_inj (h1 m (Nat.lt_succ_self m)) (h2 m (Nat.lt_succ_self m))).1 e2
      intro j hj
      rcases Nat.lt_or_ge j m with h | h
      · exact i1 j h
      · have : j = m := by omega
        subst this; exact i2
    · exact wvs_same

theorem wv_ones (n : Int) : (wv n).all (·.oneCell') = true := rfl
theorem wvs_ones (ns : Nat → Int) : ∀ k, (wvs ns k).all (·.oneCell') = true
  | 0 => rfl
  | k + 1 => by rw [wvs, List.all_append, wvs_ones ns k, wv_ones]; rfl
/-! Tables -/
def tab (g : Nat → Value) : Nat → List Value
  | 0 => []
  | n + 1 => tab g n ++ [g n]
theorem tab_length {g : Nat → Value} : ∀ n, (tab g n).length = n
  | 0 => rfl
  | n + 1 => by simp [tab, tab_length n]
theorem tab_get {g : Nat → Value} : ∀ {n k : Nat}, k < n → (tab g n)[k]? = some (g k)
  | 0, k, h => by omega
  | n + 1, k, h => by
    rcases Nat.lt_or_ge k n with h1 | h1
    · rw [tab, List.getElem?_append_left (by rw [tab_length]; exact h1), tab_get h1]
    · have e : k = n := by omega
      subst e
      rw [tab, List.getElem?_append_right (by rw [tab_length]; omega), tab_length]
      simp
theorem tab_at {g : Nat → Value} {n k off : Nat} (he : off = k) (h : k < n) : (tab g n)[off]? = some (g k) := by rw [he]; exact tab_get h
theorem tab_same {g g' : Nat → Value} : ∀ {n : Nat}, (∀ j, j < n → g j = g' j) → tab g n = tab g' n
  | 0, _ => rfl
  | n + 1, h => by rw [tab, tab, tab_same (n := n) fun j hj => h j (by omega), h n (by omega)]
theorem tab_eq {g : Nat → Value} {n : Nat} {C : List Value} (hl : C.length = n) (h : ∀ k, k < n → C[k]? = some (g k)) : C = tab g n := by
  refine List.ext_getElem? fun k => ?_
  rcases Nat.lt_or_ge k n with h1 | h1
  · rw [h k h1, tab_get h1]
  · rw [List.getElem?_eq_none (by omega), List.getElem?_eq_none (by rw [tab_length]; exact h1)]
theorem tab_set {g : Nat → Value} {n k : Nat} {v : Value} (h : k < n) : splice (tab g n) k [v] = tab (fun j => if j = k then v else g j) n := by
  have e : splice (tab g n) k [v] = (tab g n).set k v := by
    unfold splice
    rw [List.set_eq_take_append_cons_drop, if_pos (by rw [tab_length]; exact h)]
    simp
  rw [e]
  refine tab_eq (by rw [List.length_set, tab_length]) fun j hj => ?_
  rw [List.getElem?_set]
  split
  · rename_i e; subst e
    rw [if_pos (by rw [tab_length]; exact h), if_pos rfl]
  · rename_i e
    rw [tab_get hj, if_neg (by omega)]
theorem tab_put {g : Nat → Value} {n k off : Nat} {v : Value} (he : off = k) (h : k < n) : splice (tab g n) off [v] = tab (fun j => if j = k then v else g j) n := by rw [he]; exact tab_set h
theorem tab_ones {g : Nat → Value} : ∀ {n : Nat}, (∀ j, (g j).oneCell' = true) → (tab g n).all (·.oneCell') = true
  | 0, _ => rfl
  | n + 1, h => by simp only [tab, List.all_append, tab_ones h, List.all_cons, List.all_nil, h n, Bool.and_self]
theorem splice_all {C vs : List Value} (h : C.length = vs.length) : splice C 0 vs = vs := by
  unfold splice
  rw [Nat.zero_add, ← h, List.drop_length]
  simp

/-- How cells are told. -/
theorem nl : (∀ (C : List Value) (o : Nat) (vs : List Value), splice C o vs = C.take o ++ vs ++ C.drop (o + vs.length)) ∧ (∀ (k : IntKind) (n : Int), (Value.int k n).cells.toList = [.int k n]) ∧ (∀ b : Bool, (Value.bool b).cells.toList = [.bool b]) ∧ (∀ b : ByteArray, (Value.string b).cells.toList = [.string b]) ∧
    (∀ a : Option Addr, (Value.pointer a).cells.toList = [.pointer a]) ∧ (∀ (a : Option Addr) (n m : Nat), (Value.slice a n m).cells.toList = [.slice a n m]) ∧ (∀ l : List Value, (Value.agg l.toArray).cells.toList = l) ∧
    (∀ (n : Nat) (a : Value) (l : List Value), List.take (n + 1) (a :: l) = a :: List.take n l) ∧ (∀ l : List Value, List.take 0 l = []) ∧ (∀ n : Nat, List.take n ([] : List Value) = []) ∧
    (∀ (n : Nat) (a : Value) (l : List Value), List.drop (n + 1) (a :: l) = List.drop n l) ∧ (∀ l : List Value, List.drop 0 l = l) ∧ (∀ n : Nat, List.drop n ([] : List Value) = []) ∧
    (∀ (a : Value) (l : List Value), (a :: l).length = l.length + 1) ∧ (([] : List Value).length = 0) ∧ (∀ l : List Value, [] ++ l = l) ∧ (∀ (a : Value) (l m : List Value), (a :: l) ++ m = a :: (l ++ m)) ∧ (∀ l : List Value, l ++ [] = l) ∧
    (∀ n : Nat, 0 + n = n) ∧ (∀ n : Nat, n + 0 = n) ∧ (∀ n : Nat, n * 1 = n) ∧ (∀ n : Nat, 0 * n = 0) ∧ ((0 : Int).toNat = 0) ∧ ((1 : Int).toNat = 1) ∧ (∀ n : Nat, (n : Int).toNat = n) ∧
    (∀ (a b : Value) (l : List Value), (a :: l).set 0 b = b :: l) ∧ (∀ (a b : Value) (l : List Value) (n : Nat), (a :: l).set (n + 1) b = a :: l.set n b) ∧ (∀ n : Int, (wv n).length = 4) ∧ (∀ n : Int, (wv n).take 4 = wv n) ∧ (∀ n : Int, (wv n).drop 4 = []) ∧
    (∀ ns : Nat → Int, (wvs ns 16).length = 64) ∧ (∀ ns : Nat → Int, (wvs ns 16).take 64 = wvs ns 16) ∧ (∀ ns : Nat → Int, (wvs ns 16).drop 64 = []) ∧ (∀ ns : Nat → Int, (wvs ns 2).length = 8) ∧ (∀ ns : Nat → Int, (wvs ns 2).take 8 = wvs ns 2) ∧ (∀ ns : Nat → Int, (wvs ns 2).drop 8 = []) ∧
    (∀ (g : Nat → Value) (n : Nat), (tab g n).length = n) ∧ (∀ (g : Nat → Value) (n : Nat), (tab g n).take n = tab g n) ∧ (∀ (g : Nat → Value) (n : Nat), (tab g n).drop n = []) ∧ (∀ (a : Value) (n : Nat), (List.replicate n a).length = n) ∧ (∀ (k : Nat) (a b c d : Value), (rep k [a, b, c, d]).length = k * 4) ∧ (∀ (a : Value) (n : Nat), (List.replicate n a).drop n = []) ∧ (∀ (a b c d : Value), (rep 16 [a, b, c, d]).drop 64 = []) := by
  refine ⟨fun _ _ _ => rfl, fun _ _ => rfl, fun _ => rfl, fun _ => rfl, fun _ => rfl, fun _ _ _ => rfl, fun _ => rfl, fun _ _ _ => rfl, fun _ => rfl, fun _ => List.take_nil, fun _ _ _ => rfl, fun _ => rfl, fun _ => List.drop_nil, fun _ _ => rfl, rfl, fun _ => rfl, fun _ _ _ => rfl, fun _ => List.append_nil _, fun _ => Nat.zero_add _, fun _ => rfl, fun _ => Nat.mul_one _, fun _ => Nat.zero_mul _, rfl, rfl, fun _ => rfl, fun _ _ _ => rfl, fun _ _ _ _ => rfl, fun _ => rfl, fun _ => rfl, fun _ => rfl, fun ns => wvs_length ns 16, fun ns => List.take_of_length_le (by rw [wvs_length]; decide), fun ns => List.drop_eq_nil_of_le (by rw [wvs_length]; decide), fun ns => wvs_length ns 2, fun ns => List.take_of_length_le (by rw [wvs_length]; decide), fun ns => List.drop_eq_nil_of_le (by rw [wvs_length]; decide), fun g n => tab_length n, fun g n => List.take_of_length_le (by rw [tab_length]; exact Nat.le_refl _), fun g n => List.drop_eq_nil_of_le (by rw [tab_length]; exact Nat.le_refl _), fun a n => List.length_replicate, fun k a b c d => by simp [rep], fun a n => by simp, fun a b c d => List.drop_eq_nil_of_le (by simp [rep])⟩
theorem wf_wo {x : Int} (h : (Lit.int .u64 x).wf = true) : Wo x := by
  have := wfu64 h
  unfold Wo; omega
theorem wo_wf {x : Int} (h : Wo x) : (Lit.int .u64 x).wf = true := by
  unfold Wo at h
  simp [Lit.wf, IntKind.min, IntKind.max, IntKind.signed, IntKind.bits]
  omega
abbrev wsh : List Sh := [.int .u64, .int .u64, .int .u64, .int .u64]
theorem wv_reads {W : World} (n : Int) : Sh.ReadsL W wsh (wv n) := by
  simp only [Sh.ReadsL, Sh.Reads, wv]
  refine ⟨_, _, rfl, ⟨_, rfl, wo_wf ?_⟩, _, _, rfl, ⟨_, rfl, wo_wf ?_⟩, _, _, rfl, ⟨_, rfl, wo_wf ?_⟩, _, _, rfl, ⟨_, rfl, wo_wf ?_⟩, rfl⟩
  all_goals (unfold Wo; omega)
theorem reads_wv {W : World} {cs : List Value} (h : Sh.ReadsL W wsh cs) : ∃ n, Wd n ∧ cs = wv n := by
  simp only [Sh.ReadsL, Sh.Reads] at h
  obtain ⟨_, _, rfl, ⟨x0, rfl, h0⟩, _, _, rfl, ⟨x1, rfl, h1⟩, _, _, rfl, ⟨x2, rfl, h2⟩, _, _, rfl, ⟨x3, rfl, h3⟩, rfl⟩ := h
  exact ⟨_, wd_of (wf_wo h0) (wf_wo h1) (wf_wo h2) (wf_wo h3), (wv_words (wf_wo h0) (wf_wo h1) (wf_wo h2) (wf_wo h3)).symm⟩
/-- Two wide values, held against each other. -/
theorem wv_eq {P : Program} {T : TypeId} (hf : flat P 3 T = some wsh) (hk : P.keyTypeAt 3 T = true) (hs : (match P.underlying T with | some (.struct _) | some (.array _ _) => true | _ => false) = true) (hc : 4 = P.cellsOf T) {a b : Int} (ha : Wd a) (hb : Wd b) (w : World) :
    (Op.equal T (.agg (wv a).toArray) (.agg (wv b).toArray)).run P w = .ok (decide (a = b)) w :=
  eq_flat (W := w) hf rfl hk hs hc (by decide) (wv_reads a) (wv_reads b) (by rw [decide_eq_true_eq, wv_inj ha hb]) w

theorem add_words {a0 a1 a2 a3 b0 b1 b2 b3 s0 s1 s2 s3 c0 c1 c2 c3 : Int} (ha0 : Wo a0) (ha1 : Wo a1) (ha2 : Wo a2) (ha3 : Wo a3) (hb0 : Wo b0) (hb1 : Wo b1) (hb2 : Wo b2) (hb3 : Wo b3) (h0 : Wo s0) (h1 : Wo s1) (h2 : Wo s2) (h3 : Wo s3)
    (e0 : a0 + b0 = s0 + 18446744073709551616 * c0) (e1 : a1 + b1 + c0 = s1 + 18446744073709551616 * c1) (e2 : a2 + b2 + c1 = s2 + 18446744073709551616 * c2) (e3 : a3 + b3 + c2 = s3 + 18446744073709551616 * c3) :
    (c3 = 0 → (Wd ((a0 + 18446744073709551616 * a1 + 340282366920938463463374607431768211456 * a2 + 6277101735386680763835789423207666416102355444464034512896 * a3) + (b0 + 18446744073709551616 * b1 + 340282366920938463463374607431768211456 * b2 + 6277101735386680763835789423207666416102355444464034512896 * b3)) ∧
      wv ((a0 + 18446744073709551616 * a1 + 340282366920938463463374607431768211456 * a2 + 6277101735386680763835789423207666416102355444464034512896 * a3) + (b0 + 18446744073709551616 * b1 + 340282366920938463463374607431768211456 * b2 + 6277101735386680763835789423207666416102355444464034512896 * b3)) = [.int .u64 s0, .int .u64 s1, .int .u64 s2, .int .u64 s3])) ∧
    (¬ c3 = 0 → ¬ Wd ((a0 + 18446744073709551616 * a1 + 340282366920938463463374607431768211456 * a2 + 6277101735386680763835789423207666416102355444464034512896 * a3) + (b0 + 18446744073709551616 * b1 + 340282366920938463463374607431768211456 * b2 + 6277101735386680763835789423207666416102355444464034512896 * b3))) := by
  constructor
  · intro hc
    have : (a0 + 18446744073709551616 * a1 + 340282366920938463463374607431768211456 * a2 + 6277101735386680763835789423207666416102355444464034512896 * a3) + (b0 + 18446744073709551616 * b1 + 340282366920938463463374607431768211456 * b2 + 6277101735386680763835789423207666416102355444464034512896 * b3) = s0 + 18446744073709551616 * s1 + 340282366920938463463374607431768211456 * s2 + 6277101735386680763835789423207666416102355444464034512896 * s3 := by omega
    rw [this]
    exact ⟨wd_of h0 h1 h2 h3, wv_words h0 h1 h2 h3⟩
  · intro hc
    unfold Wo at *
    unfold Wd
    omega

def wadd (a b : Int) : Int := if a + b < 115792089237316195423570985008687907853269984665640564039457584007913129639936 then a + b else 0
def wsub (a b : Int) : Int := if b ≤ a then a - b else 0
theorem wadd_comm (a b : Int) : wadd a b = wadd b a := by unfold wadd; rw [Int.add_comm]
theorem wadd_lt {a b : Int} (h : a + b < 115792089237316195423570985008687907853269984665640564039457584007913129639936) : wadd a b = a + b := if_pos h
theorem wadd_ge {a b : Int} (h : ¬ a + b < 115792089237316195423570985008687907853269984665640564039457584007913129639936) : wadd a b = 0 := if_neg h
theorem wsub_le {a b : Int} (h : b ≤ a) : wsub a b = a - b := if_pos h
theorem wsub_gt {a b : Int} (h : ¬ b ≤ a) : wsub a b = 0 := if_neg h
theorem wadd_wd {a b : Int} (ha : Wd a) (hb : Wd b) : Wd (wadd a b) := by unfold wadd Wd at *; split <;> omega
theorem wsub_wd {a b : Int} (ha : Wd a) (hb : Wd b) : Wd (wsub a b) := by unfold wsub Wd at *; split <;> omega
theorem sub_words {a0 a1 a2 a3 b0 b1 b2 b3 s0 s1 s2 s3 c0 c1 c2 c3 : Int} (ha0 : Wo a0) (ha1 : Wo a1) (ha2 : Wo a2) (ha3 : Wo a3) (hb0 : Wo b0) (hb1 : Wo b1) (hb2 : Wo b2) (hb3 : Wo b3) (h0 : Wo s0) (h1 : Wo s1) (h2 : Wo s2) (h3 : Wo s3)
    (e0 : a0 - b0 = s0 - 18446744073709551616 * c0) (e1 : a1 - b1 - c0 = s1 - 18446744073709551616 * c1) (e2 : a2 - b2 - c1 = s2 - 18446744073709551616 * c2) (e3 : a3 - b3 - c2 = s3 - 18446744073709551616 * c3) :
    (c3 = 0 → ((b0 + 18446744073709551616 * b1 + 340282366920938463463374607431768211456 * b2 + 6277101735386680763835789423207666416102355444464034512896 * b3) ≤ (a0 + 18446744073709551616 * a1 + 340282366920938463463374607431768211456 * a2 + 6277101735386680763835789423207666416102355444464034512896 * a3) ∧ wv ((a0 + 18446744073709551616 * a1 + 340282366920938463463374607431768211456 * a2 + 6277101735386680763835789423207666416102355444464034512896 * a3) - (b0 + 18446744073709551616 * b1 + 340282366920938463463374607431768211456 * b2 + 6277101735386680763835789423207666416102355444464034512896 * b3)) = [.int .u64 s0, .int .u64 s1, .int .u64 s2, .int .u64 s3])) ∧ (¬ c3 = 0 → ¬ (b0 + 18446744073709551616 * b1 + 340282366920938463463374607431768211456 * b2 + 6277101735386680763835789423207666416102355444464034512896 * b3) ≤ (a0 + 18446744073709551616 * a1 + 340282366920938463463374607431768211456 * a2 + 6277101735386680763835789423207666416102355444464034512896 * a3)) := by
  constructor
  · intro hc
    have : (a0 + 18446744073709551616 * a1 + 340282366920938463463374607431768211456 * a2 + 6277101735386680763835789423207666416102355444464034512896 * a3) - (b0 + 18446744073709551616 * b1 + 340282366920938463463374607431768211456 * b2 + 6277101735386680763835789423207666416102355444464034512896 * b3) = (s0 + 18446744073709551616 * s1 + 340282366920938463463374607431768211456 * s2 + 6277101735386680763835789423207666416102355444464034512896 * s3) := by omega
    rw [this]
    refine ⟨?_, wv_words h0 h1 h2 h3⟩
    unfold Wo at *
    omega
  · intro hc
    unfold Wo at *
    omega

/-- Cells of wide numbers, out of what came in. -/
def wshs : Nat → List Sh
  | 0 => []
  | k + 1 => wshs k ++ wsh
theorem wshs_length : ∀ k, (wshs k).length = k * 4
  | 0 => rfl
  | k + 1 => by rw [wshs, List.length_append, wshs_length k]; simp; omega
theorem wvs_reads {W : World} {ns : Nat → Int} : ∀ k, Sh.ReadsL W (wshs k) (wvs ns k)
  | 0 => rfl
  | k + 1 => by
    have h1 := wvs_reads (W := W) (ns := ns) k
    have h2 := wv_reads (W := W) (ns k)
    rw [wshs, wvs]
    refine Sh.ReadsL.append ?_ ?_
    · rw [List.take_append_of_le_length (by rw [wshs_length, wvs_length]; omega), List.take_of_length_le (by rw [wshs_length, wvs_length]; omega)]
      exact h1
    · rw [List.drop_append, List.drop_eq_nil_of_le (by rw [wshs_length, wvs_length]; omega), wshs_length, wvs_length, Nat.sub_self]
      exact h2
theorem reads_wvs {W : World} : ∀ {k : Nat} {cs : List Value}, Sh.ReadsL W (wshs k) cs → ∃ ns : Nat → Int, (∀ j, Wd (ns j)) ∧ cs = wvs ns k
  | 0, cs, h => ⟨fun _ => 0, fun _ => (by unfold Wd; omega : Wd 0), h⟩
  | k + 1, cs, h => by
    rw [wshs] at h
    obtain ⟨h1, h2⟩ := ReadsL_split h
    obtain ⟨ns, hn, e1⟩ := reads_wvs h1
    obtain ⟨x, hx, e2⟩ := reads_wv h2
    refine ⟨upd ns k x, fun j => ?_, ?_⟩
    · unfold upd
      split
      · exact hx
      · exact hn j
    have e3 : wvs (upd ns k x) k = wvs ns k := wvs_same fun j hj => if_neg (by omega)
    rw [wvs, e3, show upd ns k x k = x from if_pos rfl, ← e1, ← e2, List.take_append_drop]
theorem wvs_eq {P : Program} {T m : Nat} (hf : flat P 5 T = some (wshs m)) (hp : (wshs m).all Sh.plain = true) (hk : P.keyTypeAt 5 T = true) (hs : (match P.underlying T with | some (.struct _) | some (.array _ _) => true | _ => false) = true) (hc : (wshs m).length = P.cellsOf T) {ns ms : Nat → Int} {b : Bool} (h1 : ∀ j, j < m → Wd (ns j)) (h2 : ∀ j, j < m → Wd (ms j)) (hb : b = true ↔ ∀ j, j < m → ns j = ms j) (w : World) :
    (Op.equal T (.agg (wvs ns m).toArray) (.agg (wvs ms m).toArray)).run P w = .ok b w :=
  eq_flat (W := w) hf hp hk hs hc (by decide) (wvs_reads m) (wvs_reads m) (by rw [hb, wvs_inj h1 h2]) w
end Go.Proofs.Ytfcaeifpclpnoaa.Eng
namespace Go.Proofs.Ytfcaeifpclpnoaa.Eng
open Go Go.RowKit
set_option linter.unusedVariables false

section
variable {P : Program} {c : Cx} {l : TL} {H : List Asrt} {Q : Exit → Act → World → Prop}

theorem St.to {c l l' H H' R a w} (s : St c l H a w) (hs : Eng.sub l l') (ho : Outs H' H R) : St c l' H' a w :=
  ⟨(s.sub hs).1, s.2.1, Sat.drops (H' := R) ((s.2.2.perm ho.perm).perm List.perm_append_comm)⟩

/-- What holds at a loop's head: a state for each s of which I holds, and a measure. -/
theorem J.loopI {σ : Type} {x : Code} {R : List Asrt} (I : σ → Prop) (L : σ → TL) (HH : σ → List Asrt) (m : σ → Nat) (s0 : σ) (hI : I s0) (hs : Eng.sub l (L s0)) (ho : Outs (HH s0) H R)
    (round : ∀ s, I s → J c (L s) (HH s) (x.wp P (Exit.then (fun a w => ∃ s', m s' < m s ∧ I s' ∧ St c (L s') (HH s') a w) Q))) : J c l H ((Code.loop x).wp P Q) :=
  J.loop (σ := {s // I s}) (fun s => L s.1) (fun s => HH s.1) (fun s => m s.1) ⟨s0, hI⟩ (fun a w s => s.to hs ho)
    (fun s => J.mk fun a w t => Code.wp_mono (fun e a' w' q => by
      cases e with
      | normal =>
        obtain ⟨s', h1, h2, h3⟩ := q
        exact ⟨⟨s', h2⟩, h1, h3⟩
      | _ => exact q) (round s.1 s.2 a w t))
theorem J.againI {σ : Type} {I : σ → Prop} {L : σ → TL} {HH : σ → List Asrt} {m : σ → Nat} {s : σ} {R : List Asrt} (s' : σ) (hm : m s' < m s) (hI : I s') (hs : Eng.sub l (L s')) (ho : Outs (HH s') H R) :
    J c l H (fun a w => ∃ s', m s' < m s ∧ I s' ∧ St c (L s') (HH s') a w) := J.mk fun a w t => ⟨s', hm, hI, t.to hs ho⟩

/-- It gives a slice of a new row, and hands back what it was handed. -/
def Fresh (E sz n : Nat) (C : List Value) (H1 : List Asrt) : Ending → List Asrt → Prop := fun e H => ∃ v, e = .returned v ∧ H = row v E sz n C :: H1
variable {X : Act → World → Prop} {ty : TypeId} {pos : String} {af : Array Edge} {d : Nat} {v : Value} {dst : Option Tmp}
theorem J.freshW {f : Nat} [i : Enters P f] {xs : List Operand} {ts : Array TypeId} {vs : List Value} {H1 H2 : List Asrt} {E sz n : Nat} {C : List Value} (hS : ∀ w, CSpec P f vs H1 w (Fresh E sz n C H1)) (hd : Nat.blt d c.n = true) (hx : evs l xs = some vs) (ho : Outs H1 H H2)
    (K : ∀ v, J c ((d, v) :: l) (row v E sz n C :: H) X) :
    J c l H (OW P Q ⟨some d, .call ⟨.value (.func f), xs.toArray, ts⟩, ty, pos, af, none⟩ X) :=
  J.call hd hx ho (fun w _ => hS w) (fun v H3 ⟨u, h1, h2⟩ => by cases h1; subst h2; exact J.perm (ho.perm.symm.cons _) (K _)) (fun ch H3 ⟨u, h1, _⟩ => by cases h1) (fun H3 ⟨u, h1, _⟩ => by cases h1)
theorem J.freshP {f : Nat} [i : Enters P f] {xs : List Operand} {ts : Array TypeId} {vs : List Value} {H1 H2 : List Asrt} {E sz n : Nat} {C : List Value} {p : Prop} (hS : p → ∀ w, CSpec P f vs H1 w (Fresh E sz n C H1)) (hd : Nat.blt d c.n = true) (hx : evs l xs = some vs) (ho : Outs H1 H H2) (hp : p)
    (K : ∀ v, J c ((d, v) :: l) (row v E sz n C :: H) X) :
    J c l H (OW P Q ⟨some d, .call ⟨.value (.func f), xs.toArray, ts⟩, ty, pos, af, none⟩ X) := J.freshW (hS hp) hd hx ho K
theorem J.fresh' {E sz n : Nat} {C C' : List Value} {H1 R : List Asrt} {r : Value} (ho : Outs (row r E sz n C :: H1) H R) (e : C = C') : J c l H (fun _ w => ∃ H3, Fresh E sz n C' H1 (.returned (retv [r])) H3 ∧ Sat c.w0 c.own H3 w) := J.mk fun a w s =>
  ⟨row r E sz n C :: H1, ⟨r, rfl, by rw [e]⟩, Sat.drops (H' := R) ((s.2.2.perm ho.perm).perm List.perm_append_comm)⟩

/-! Plain quotients and rests -/
theorem Qv.quoP {m : Nat} {T T' : Nat} {x y : Operand} {k : IntKind} {e f : Int} (hx : ev l x = some (.int k e)) (hy : ev l y = some (.int k f)) (hf : 0 < f) (he : 0 ≤ e) (hw : k.wrap (e / f) = e / f) : Qv P m l (.binOp .quo T x y T') (.int k (e / f)) :=
  Qv.quo hx hy (by omega) (by rw [Int.tdiv_eq_ediv_of_nonneg he]; exact hw)
theorem Qv.remP {m : Nat} {T T' : Nat} {x y : Operand} {k : IntKind} {e f : Int} (hx : ev l x = some (.int k e)) (hy : ev l y = some (.int k f)) (hf : 0 < f) (he : 0 ≤ e) : Qv P m l (.binOp .rem T x y T') (.int k (e % f)) :=
  Qv.rem hx hy (by omega) (by rw [Int.tmod_eq_emod_of_nonneg he])

/-! Wide values -/
theorem Qv.buildW {T E m : Nat} {z z' : List Value} {b : Bool} [i : Ty P T true 4 z] [j : Ar P T 4 E] [t : Ty P E b 1 z'] {xs : List (Nat × Operand)} {x : Int} (hz : z = wv 0) (hx : evp l xs = some [(0, .int .u64 x)]) (h : Wo x) : Qv P m l (.build T xs.toArray) (.agg (wv x).toArray) := by
  subst hz
  rw [wv_small h]
  exact Qv.buildA hx rfl
theorem Qv.buildW0 {T E m : Nat} {z z' : List Value} {b : Bool} [i : Ty P T true 4 z] [j : Ar P T 4 E] [t : Ty P E b 1 z'] {xs : List (Nat × Operand)} (hz : z = wv 0) (hx : evp l xs = some []) : Qv P m l (.build T xs.toArray) (.agg (wv 0).toArray) := by
  subst hz
  exact Qv.buildA hx rfl
theorem J.allocW {T : Nat} {z : List Value} [i : Ty P T true 4 z] (hz : z = wv 0) (hd : Nat.blt d c.n = true)
    (K : ∀ b, J c ((d, .pointer (some ⟨b, 0, none⟩)) :: l) (blk b (wv 0) T :: H) X) : J c l H (OW P Q ⟨some d, .alloc T, ty, pos, af, none⟩ X) := by
  subst hz
  exact J.alloc hd K
end
end Go.Proofs.Ytfcaeifpclpnoaa.Eng
namespace Go.Proofs.Ytfcaeifpclpnoaa.Eng
open Go Go.RowKit
set_option linter.unusedVariables false

section
variable {P : Program} {c : Cx} {l : TL} {H H' : List Asrt} {G : Act → World → Prop}
theorem sub.consE {l l' : TL} {d : Nat} {v v' : Value} (h : TL.get l d = some v') (e : v' = v) (hs : sub l l') : sub l ((d, v) :: l') := sub.cons (e ▸ h) hs
theorem J.reC {v : Value} {E sz n n' : Nat} {C C' : List Value} (hu : Upd (row v E sz n C) (row v E sz n' C') H H') (en : n = n') (e : C = C') (K : J c l H' G) : J c l H G := by
  subst e; subst en
  obtain ⟨R, h1, h2⟩ := hu.perm
  exact J.perm (h1.trans h2) K
theorem J.reB {b T : Nat} {C C' : List Value} (hu : Upd (blk b C T) (blk b C' T) H H') (e : C = C') (K : J c l H' G) : J c l H G := by
  subst e
  obtain ⟨R, h1, h2⟩ := hu.perm
  exact J.perm (h1.trans h2) K
/-- It gives a slice of a new row that is not empty, and hands back what it was handed. -/
def FreshAt (E sz n : Nat) (C : List Value) (H1 : List Asrt) : Ending → List Asrt → Prop := fun e H => ∃ g cap, e = .returned (.slice (some ⟨g, 0, none⟩) n cap) ∧ H = rowAt g cap E sz n C :: H1
variable {X : Act → World → Prop} {Q : Exit → Act → World → Prop} {ty : TypeId} {pos : String} {af : Array Edge} {d : Nat} {v : Value} {dst : Option Tmp}
theorem J.freshAtP {f : Nat} [i : Enters P f] {xs : List Operand} {ts : Array TypeId} {vs : List Value} {H1 H2 : List Asrt} {E sz n : Nat} {C : List Value} {p : Prop} (hS : p → ∀ w, CSpec P f vs H1 w (FreshAt E sz n C H1)) (hd : Nat.blt d c.n = true) (hx : evs l xs = some vs) (ho : Outs H1 H H2) (hp : p)
    (K : ∀ g cap, J c ((d, .slice (some ⟨g, 0, none⟩) n cap) :: l) (rowAt g cap E sz n C :: H) X) :
    J c l H (OW P Q ⟨some d, .call ⟨.value (.func f), xs.toArray, ts⟩, ty, pos, af, none⟩ X) :=
  J.call hd hx ho (fun w _ => hS hp w) (fun v H3 ⟨g, cap, h1, h2⟩ => by cases h1; subst h2; exact J.perm (ho.perm.symm.cons _) (K _ _)) (fun ch H3 ⟨u, _, h1, _⟩ => by cases h1) (fun H3 ⟨u, _, h1, _⟩ => by cases h1)
theorem J.freshAt' {E sz n : Nat} {C C' : List Value} {H1 R : List Asrt} {r : Value} (ho : Outs (row r E sz n C :: H1) H R) (hn : n ≠ 0) (e : C = C') : J c l H (fun _ w => ∃ H3, FreshAt E sz n C' H1 (.returned (retv [r])) H3 ∧ Sat c.w0 c.own H3 w) := by
  subst e
  refine J.perm (ho.perm) ?_
  refine J.openRow (v := r) .here hn fun g cap hr => J.mk fun a w s => ?_
  subst hr
  exact ⟨rowAt g cap E sz n C :: H1, ⟨g, cap, rfl, rfl⟩, Sat.drops (H' := R) (s.2.2.perm (List.perm_append_comm (l₁ := rowAt g cap E sz n C :: H1)))⟩
theorem J.shutRows {g cap E sz n : Nat} {C : List Value} {R : List Asrt} {r r' : Value} {H1 : List Asrt} (e : r = r') (ho : Outs H1 H R) : J c l H (fun _ w => ∃ H3, Keeps r' H1 (.returned r) H3 ∧ Sat c.w0 c.own H3 w) := J.kept' e ho
end

/-! ### Digits -/
def sh (n : Int) : Nat → Int
  | 0 => n
  | k + 1 => sh n k / 65536
def dgv (n : Int) : Nat → List Value
  | 0 => []
  | k + 1 => dgv n k ++ [.int .i64 (sh n k % 65536)]
theorem dgv_length (n : Int) : ∀ k, (dgv n k).length = k
  | 0 => rfl
  | k + 1 => by simp [dgv, dgv_length n k]
theorem dgv_get (n : Int) : ∀ {k i : Nat}, i < k → (dgv n k)[i]? = some (.int .i64 (sh n i % 65536))
  | 0, i, h => by omega
  | k + 1, i, h => by
    rcases Nat.lt_or_ge i k with h1 | h1
    · rw [dgv, List.getElem?_append_left (by rw [dgv_length]; exact h1)]
      exact dgv_get n h1
    · have : i = k := by omega
      subst this
      rw [dgv, List.getElem?_append_right (by rw [dgv_length]; exact Nat.le_refl _), dgv_length]
      simp
theorem sh_eq (n : Int) : ∀ k : Nat, sh n k = n / (65536 ^ k : Nat)
  | 0 => by simp [sh]
  | k + 1 => by
    rw [sh, sh_eq n k, Int.ediv_ediv_of_nonneg (by exact_mod_cast Nat.zero_le _)]
    congr 1
theorem sh_nonneg {n : Int} (h : 0 ≤ n) : ∀ k, 0 ≤ sh n k
  | 0 => h
  | k + 1 => by
    have := sh_nonneg h k
    simp only [sh]; omega
theorem sh16 {n : Int} (h : Wd n) : sh n 16 = 0 := by
  rw [sh_eq]
  unfold Wd at h
  simp only [Nat.reducePow]
  omega
theorem sh16_iff {n : Int} (h : 0 ≤ n) : sh n 16 = 0 ↔ n < 115792089237316195423570985008687907853269984665640564039457584007913129639936 := by
  rw [sh_eq]
  simp only [Nat.reducePow]
  omega
theorem dgv_ones (n : Int) (k : Nat) : (dgv n k).all (·.oneCell') = true := by
  induction k with
  | zero => rfl
  | succ k ih => rw [dgv, List.all_append, ih]; rfl

theorem wv_get {n : Int} {j : Nat} (h : j < 4) : (wv n)[j]? = some (.int .u64 (n / (18446744073709551616 ^ j : Nat) % 18446744073709551616)) := by
  have : j = 0 ∨ j = 1 ∨ j = 2 ∨ j = 3 := by omega
  rcases this with rfl | rfl | rfl | rfl <;> simp [wv]
/-- What stands below a digit. -/
def lo (n : Int) (k : Nat) : Int := n % (65536 ^ k : Nat)
theorem made_step {n : Int} {i : Nat} (h : i < 16) (h0 : 0 ≤ n) :
    Wo (sh n i % 65536 * (65536 ^ (i % 4) : Nat)) ∧ 0 ≤ lo n i / (18446744073709551616 ^ (i / 4) : Nat) % 18446744073709551616 + sh n i % 65536 * (65536 ^ (i % 4) : Nat) ∧
    lo n i / (18446744073709551616 ^ (i / 4) : Nat) % 18446744073709551616 + sh n i % 65536 * (65536 ^ (i % 4) : Nat) ≤ 18446744073709551615 ∧
    splice (wv (lo n i)) (i / 4) [.int .u64 (lo n i / (18446744073709551616 ^ (i / 4) : Nat) % 18446744073709551616 + sh n i % 65536 * (65536 ^ (i % 4) : Nat))] = wv (lo n (i + 1)) := by
  have : i = 0 ∨ i = 1 ∨ i = 2 ∨ i = 3 ∨ i = 4 ∨ i = 5 ∨ i = 6 ∨ i = 7 ∨ i = 8 ∨ i = 9 ∨ i = 10 ∨ i = 11 ∨ i = 12 ∨ i = 13 ∨ i = 14 ∨ i = 15 := by omega
  unfold Wo
  rw [sh_eq]
  rcases this with rfl | rfl | rfl | rfl | rfl | rfl | rfl | rfl | rfl | rfl | rfl | rfl | rfl | rfl | rfl | rfl
  all_goals
    simp only [lo, splice, wv, Nat.reducePow, Nat.reduceMod, Nat.reduceDiv, Nat.reduceAdd, List.take_succ_cons, List.take_zero, List.drop_succ_cons, List.drop_zero, List.nil_append, List.cons_append, List.length_cons, List.length_nil, List.append_nil, List.cons.injEq, Value.int.injEq, true_and, and_true, Int.ediv_one, Int.mul_one, Int.cast_ofNat_Int, List.drop_nil]
    refine ⟨⟨?_, ?_⟩, ?_, ?_, ?_⟩
    all_goals (first | omega | (refine ⟨?_, ?_⟩ <;> omega) | (refine ⟨?_, ?_, ?_⟩ <;> omega) | (refine ⟨?_, ?_, ?_, ?_⟩ <;> omega))
theorem lo_all {n : Int} (h : 0 ≤ n) (h1 : sh n 16 = 0) : lo n 16 = n := by
  have := (sh16_iff h).1 h1
  unfold lo
  simp only [Nat.reducePow]
  omega
theorem dig_mul {d : Int} {q : Nat} (h0 : 0 ≤ d) (h1 : d < 65536) (hq : q < 3) : IntKind.u64.wrap (d * (65536 ^ q : Nat) * 65536) = d * (65536 ^ (q + 1) : Nat) := by
  have : q = 0 ∨ q = 1 ∨ q = 2 := by omega
  rcases this with rfl | rfl | rfl
  all_goals
    simp only [Nat.reducePow, Nat.reduceAdd, Int.cast_ofNat_Int]
    exact wru64 (by omega) (by omega) (by omega)
section
variable {P : Program} {l : TL}
/-- Quotients and rests of what is not negative. -/
theorem Qv.quoN {m : Nat} {T T' : Nat} {x y : Operand} {k : IntKind} {a b : Nat} {f : Int} (hx : ev l x = some (.int k (a : Int))) (hy : ev l y = some (.int k f)) (hf : f = (b : Int)) (h0 : 0 < b) (hw : k.wrap ((a / b : Nat) : Int) = ((a / b : Nat) : Int)) : Qv P m l (.binOp .quo T x y T') (.int k ((a / b : Nat) : Int)) := by
  subst hf
  refine Qv.quo hx hy (by omega) ?_
  rw [Int.tdiv_eq_ediv_of_nonneg (by omega)]
  rw [← hw, Int.natCast_ediv]
theorem Qv.remN {m : Nat} {T T' : Nat} {x y : Operand} {k : IntKind} {a b : Nat} {f : Int} (hx : ev l x = some (.int k (a : Int))) (hy : ev l y = some (.int k f)) (hf : f = (b : Int)) (h0 : 0 < b) : Qv P m l (.binOp .rem T x y T') (.int k ((a % b : Nat) : Int)) := by
  subst hf
  refine Qv.rem hx hy (by omega) ?_
  rw [Int.tmod_eq_emod_of_nonneg (by omega), Int.natCast_emod]
end
theorem sh_mono {a b : Int} (h : a ≤ b) : ∀ k, sh a k ≤ sh b k
  | 0 => h
  | k + 1 => by
    have := sh_mono h k
    simp only [sh]; omega
theorem sh_lt {a b : Int} {k : Nat} (h : sh a k < sh b k) : a < b := by
  rcases Int.lt_or_le a b with h1 | h1
  · exact h1
  · have := sh_mono h1 k; omega
def wcmp (a b : Int) : Int := if a < b then -1 else if b < a then 1 else 0
/-- A row that is not empty is opened for a call. -/
theorem CSpec.rowed {P : Program} {f E sz n : Nat} {C : List Value} {w : World} {r v : Value} (hn : n ≠ 0) (h : ∀ g cap, CSpec P f [.slice (some ⟨g, 0, none⟩) n cap] [rowAt g cap E sz n C] w (Keeps r [rowAt g cap E sz n C])) :
    CSpec P f [v] [row v E sz n C] w (Keeps r [row v E sz n C]) := by
  rintro fp ⟨f1, g1, rfl, h1, rfl⟩ h2 h3
  rcases h1 with ⟨_, h4, _⟩ | ⟨g, cap, rfl, h4⟩
  · exact absurd h4 hn
  · refine (h g cap (f1 ++ []) ⟨f1, [], rfl, h4, rfl⟩ h2 h3).mono fun e w' hq => ?_
    obtain ⟨H3, ⟨he, rfl⟩, hS⟩ := hq
    exact ⟨_, ⟨he, rfl⟩, hS.conv fun h fp hh => rowAt.row hh⟩
theorem J.nilRowC {c l H G} (E sz : Nat) (C : List Value) (hC : C = []) (K : J c l (row (.slice none 0 0) E sz 0 C :: H) G) : J c l H G := by
  subst hC
  exact J.nilRow E sz K
end Go.Proofs.Ytfcaeifpclpnoaa.Eng
