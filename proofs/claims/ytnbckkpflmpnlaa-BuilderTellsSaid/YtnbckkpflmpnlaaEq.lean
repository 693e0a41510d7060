/-
  The engine, part 7: values of many plain cells are equal just if their cells are. No conditions.
-/
import Derived.Test.YtnbckkpflmpnlaaIn
import Derived.DeepKeys
namespace Go.Proofs.Ytnbckkpflmpnlaa.Eng
open Go Go.RowKit
set_option linter.unusedVariables false

def Sh.plain : Sh → Bool
  | .sl _ => false
  | _ => true
def litOf : Value → Lit
  | .int k n => .int k n
  | .bool b => .bool b
  | .string s => .string s.data.toList
  | _ => .bool false

theorem litOf_inj {W : World} : ∀ {s : Sh} {u v : Value}, s.plain = true → Sh.Reads W s u → Sh.Reads W s v → litOf u = litOf v → u = v
  | .int k, u, v, _, hu, hv, e => by
    simp only [Sh.Reads] at hu hv
    obtain ⟨n, rfl, _⟩ := hu
    obtain ⟨m, rfl, _⟩ := hv
    simp only [litOf, Lit.int.injEq, true_and] at e
    rw [e]
  | .bool, u, v, _, hu, hv, e => by
    simp only [Sh.Reads] at hu hv
    obtain ⟨n, rfl⟩ := hu
    obtain ⟨m, rfl⟩ := hv
    simp only [litOf, Lit.bool.injEq] at e
    rw [e]
  | .str, u, v, _, hu, hv, e => by
    simp only [Sh.Reads] at hu hv
    obtain ⟨n, rfl, _⟩ := hu
    obtain ⟨m, rfl, _⟩ := hv
    simp only [litOf, Lit.string.injEq] at e
    have : n.data = m.data := Array.toList_inj.1 e
    cases n; cases m
    simp_all
theorem lits_inj {W : World} : ∀ {L : List Sh} {cs ds : List Value}, L.all Sh.plain = true → Sh.ReadsL W L cs → Sh.ReadsL W L ds → cs.map litOf = ds.map litOf → cs = ds
  | [], cs, ds, _, h1, h2, _ => by simp only [Sh.ReadsL] at h1 h2; rw [h1, h2]
  | s :: L, cs, ds, hp, h1, h2, e => by
    simp only [Sh.ReadsL] at h1 h2
    obtain ⟨u, us, rfl, hu, hus⟩ := h1
    obtain ⟨v, vs, rfl, hv, hvs⟩ := h2
    simp only [List.all_cons, Bool.and_eq_true] at hp
    simp only [List.map_cons, List.cons.injEq] at e
    rw [litOf_inj hp.1 hu hv e.1, lits_inj hp.2 hus hvs e.2]

theorem ReadsL_split {W : World} : ∀ {L M : List Sh} {cs : List Value}, Sh.ReadsL W (L ++ M) cs → Sh.ReadsL W L (cs.take L.length) ∧ Sh.ReadsL W M (cs.drop L.length)
  | [], M, cs, h => by simpa [Sh.ReadsL] using h
  | s :: L, M, cs, h => by
    simp only [List.cons_append, Sh.ReadsL] at h
    obtain ⟨v, cs', rfl, hv, hr⟩ := h
    obtain ⟨h1, h2⟩ := ReadsL_split hr
    exact ⟨by simp only [List.length_cons, List.take_succ_cons, Sh.ReadsL]; exact ⟨v, _, rfl, hv, h1⟩, by simpa using h2⟩
theorem reps_split {W : World} {L : List Sh} : ∀ {n : Nat} {cs : List Value}, Sh.ReadsL W (List.replicate n L).flatten cs → ∀ i, i < n → Sh.ReadsL W L ((cs.drop (i * L.length)).take L.length)
  | 0, _, _, i, h => absurd h (Nat.not_lt_zero i)
  | n + 1, cs, h, i, hi => by
    rw [List.replicate_succ, List.flatten_cons] at h
    obtain ⟨h1, h2⟩ := ReadsL_split h
    cases i with
    | zero => simpa using h1
    | succ i =>
      have := reps_split h2 i (Nat.lt_of_succ_lt_succ hi)
      rw [List.drop_drop] at this
      rwa [Nat.succ_mul, Nat.add_comm]
theorem structs_split {W : World} {P : Program} : ∀ {fs : List Field} {Ls : List (List Sh)} {cs : List Value} {o : Nat}, Ls.map List.length = (fs.map fun f => P.cellsOf f.type) → places o (fs.map fun f => (f.offset, P.cellsOf f.type)) = true → Sh.ReadsL W Ls.flatten cs →
    ∀ (i : Nat) (f : Field) (L : List Sh), fs[i]? = some f → Ls[i]? = some L → o ≤ f.offset ∧ Sh.ReadsL W L ((cs.drop (f.offset - o)).take (P.cellsOf f.type))
  | [], _, _, _, _, _, _, i, f, L, hf, _ => by simp at hf
  | _ :: _, [], _, _, h, _, _, _, _, _, _, _ => by simp at h
  | g :: fs, M :: Ls, cs, o, h1, h2, h, i, f, L, hf, hL => by
    simp only [List.map_cons, List.cons.injEq] at h1
    simp only [List.map_cons, places, Bool.and_eq_true, beq_iff_eq] at h2
    rw [List.flatten_cons] at h
    obtain ⟨ha, hb⟩ := ReadsL_split h
    cases i with
    | zero =>
      simp only [List.getElem?_cons_zero, Option.some.injEq] at hf hL
      subst hf; subst hL
      refine ⟨by omega, ?_⟩
      rw [← h2.1, Nat.sub_self, List.drop_zero, ← h1.1]
      exact ha
    | succ i =>
      obtain ⟨h3, h4⟩ := structs_split (o := o + P.cellsOf g.type) h1.2 h2.2 hb i f L (by simpa using hf) (by simpa using hL)
      refine ⟨by omega, ?_⟩
      rw [List.drop_drop, h1.1] at h4
      rwa [show f.offset - o = P.cellsOf g.type + (f.offset - (o + P.cellsOf g.type)) by omega]

theorem range_mapM {α : Type} {g : Nat → Option α} {h : Nat → α} {n : Nat} (hg : ∀ i, i < n → g i = some (h i)) : (List.range n).mapM g = some ((List.range n).map h) := by
  have : ∀ (l : List Nat), (∀ i, i ∈ l → g i = some (h i)) → l.mapM g = some (l.map h) := by
    intro l
    induction l with
    | nil => intro _; rfl
    | cons a r ih =>
      intro hl
      rw [List.mapM_cons, hl a (by simp), ih fun i hi => hl i (by simp [hi])]
      rfl
  exact this _ fun i hi => hg i (List.mem_range.1 hi)
theorem list_mapM {α β : Type} {g : α → Option β} : ∀ {xs : List α} {ys : List β}, xs.length = ys.length → (∀ (i : Nat) (x : α) (y : β), xs[i]? = some x → ys[i]? = some y → g x = some y) → xs.mapM g = some ys
  | [], [], _, _ => rfl
  | [], _ :: _, h, _ => by simp at h
  | _ :: _, [], h, _ => by simp at h
  | x :: xs, y :: ys, hl, h => by
    rw [List.mapM_cons, h 0 x y rfl rfl, list_mapM (by simpa using hl) fun i a b ha hb => h (i + 1) a b (by simpa using ha) (by simpa using hb)]
    rfl

theorem reps_flat : ∀ {c n : Nat} {cs : List Value}, cs.length = n * c → ((List.range n).map fun i => ((cs.drop (i * c)).take c)).flatten = cs
  | c, 0, cs, h => by
    simp only [Nat.zero_mul, List.length_eq_zero_iff] at h
    subst h; rfl
  | c, n + 1, cs, h => by
    rw [List.range_succ_eq_map, List.map_cons, List.flatten_cons, List.map_map]
    have h1 := reps_flat (c := c) (n := n) (cs := cs.drop c) (by rw [List.length_drop, h, Nat.succ_mul]; omega)
    simp only [Nat.zero_mul, List.drop_zero]
    have h2 : ((List.range n).map ((fun i => (cs.drop (i * c)).take c) ∘ Nat.succ)) = (List.range n).map fun i => ((cs.drop c).drop (i * c)).take c := by
      refine List.map_congr_left fun i _ => ?_
      simp [List.drop_drop, Nat.succ_mul, Nat.add_comm]
    rw [h2, h1, List.take_append_drop]

variable {P : Program} {W : World}
theorem flat_keys : ∀ (k : Nat) (T : TypeId) (cs : List Value) (L : List Sh), flat P k T = some L → L.all Sh.plain = true → P.keyTypeAt k T = true → Sh.ReadsL W L cs → P.keyLits k T cs = some (cs.map litOf)
  | 0, _, _, _, h, _, _, _ => by simp [flat] at h
  | k + 1, T, cs, L, h, hp, hk, hr => by
    unfold flat at h
    unfold Program.keyTypeAt at hk
    unfold Program.keyLits
    cases hu : P.underlying T with
    | none => rw [hu] at h; cases h
    | some d =>
      rw [hu] at h hk
      cases d with
      | int q =>
        simp only [Option.some.injEq] at h
        subst h
        simp only [Sh.ReadsL, Sh.Reads] at hr
        obtain ⟨v, cs', rfl, ⟨n, rfl, hw⟩, rfl⟩ := hr
        simp [hw, litOf]
      | bool =>
        simp only [Option.some.injEq] at h
        subst h
        simp only [Sh.ReadsL, Sh.Reads] at hr
        obtain ⟨v, cs', rfl, ⟨n, rfl⟩, rfl⟩ := hr
        simp [litOf]
      | string =>
        simp only [Option.some.injEq] at h
        subst h
        simp only [Sh.ReadsL, Sh.Reads] at hr
        obtain ⟨v, cs', rfl, ⟨n, rfl, hs⟩, rfl⟩ := hr
        simp [litOf, hs]
      | slice e => simp at hk
      | array n e =>
        simp only at h hk ⊢
        cases hM : flat P k e with
        | none => rw [hM] at h; cases h
        | some M =>
          rw [hM] at h
          simp only at h
          split at h
          · rename_i hc
            simp only [Option.some.injEq] at h
            subst h
            have hl := hr.length
            rw [List.length_flatten, List.map_replicate, List.sum_replicate_nat] at hl
            rw [if_pos (by rw [hl, hc.2])]
            cases Nat.eq_zero_or_pos n with
            | inl h0 =>
              subst h0
              simp only [Nat.zero_mul, List.length_eq_zero_iff] at hl
              subst hl
              rfl
            | inr hpos =>
              have hpM : M.all Sh.plain = true := by
                rw [List.all_eq_true] at hp ⊢
                intro s hs
                exact hp s (List.mem_flatten.2 ⟨M, List.mem_replicate.2 ⟨by omega, rfl⟩, hs⟩)
              have hg := range_mapM (n := n) (g := fun i => P.keyLits k e ((cs.drop (i * P.cellsOf e)).take (P.cellsOf e))) (h := fun i => ((cs.drop (i * P.cellsOf e)).take (P.cellsOf e)).map litOf) (fun i hi => flat_keys k e _ M hM hpM hk (by rw [← hc.1]; exact reps_split hr i hi))
              rw [hg]
              have h2 := congrArg (List.map litOf) (reps_flat (c := P.cellsOf e) (n := n) (cs := cs) (by rw [hl, hc.1]))
              rw [← h2, List.map_flatten, List.map_map]
              rfl
          · cases h
      | struct fs =>
        simp only at h hk ⊢
        simp only [Bool.and_eq_true] at hk
        cases hM : fs.toList.mapM (fun f => flat P k f.type) with
        | none => rw [hM] at h; cases h
        | some Ls =>
          rw [hM] at h
          simp only at h
          split at h
          · rename_i hc
            simp only [Option.some.injEq] at h
            subst h
            have hl := hr.length
            have hall := Array.all_eq_true_iff_forall_mem.1 hk.1.1
            rw [if_pos ⟨by rw [hl, hc.2.2], Array.all_eq_true_iff_forall_mem.2 fun f hf => (Bool.and_eq_true_iff.1 (hall f hf)).1⟩]
            have hlen : Ls.length = fs.toList.length := by simpa using mapM_some_length hM
            have hg := list_mapM (g := fun f => P.keyLits k f.type ((cs.drop f.offset).take (P.cellsOf f.type))) (xs := fs.toList) (ys := fs.toList.map fun f => ((cs.drop f.offset).take (P.cellsOf f.type)).map litOf) (by simp) (fun i f y hf hy => by
              rw [List.getElem?_map, hf] at hy
              simp only [Option.map_some, Option.some.injEq] at hy
              subst hy
              have hi : i < Ls.length := by
                rcases Nat.lt_or_ge i fs.toList.length with h2 | h2
                · omega
                · rw [List.getElem?_eq_none h2] at hf; cases hf
              have hL : Ls[i]? = some Ls[i] := List.getElem?_eq_getElem hi
              have hmem : f ∈ fs := Array.mem_toList_iff.1 (List.mem_of_getElem? hf)
              have hpL : Ls[i].all Sh.plain = true := by
                rw [List.all_eq_true] at hp ⊢
                intro s hs
                exact hp s (List.mem_flatten.2 ⟨_, List.getElem_mem hi, hs⟩)
              have h5 := (structs_split (o := 0) hc.1 hc.2.1 hr i f _ hf hL).2
              exact flat_keys k _ _ _ (mapM_get hM i f _ hf hL) hpL (Bool.and_eq_true_iff.1 (hall f hmem)).2 (by simpa using h5))
            rw [hg]
            simp only [Option.map_some, Option.some.injEq]
            have key : ∀ (gs : List Field) (Ls : List (List Sh)) (o : Nat) (us : List Value), Ls.map List.length = (gs.map fun f => P.cellsOf f.type) → places o (gs.map fun f => (f.offset, P.cellsOf f.type)) = true → us.length = Ls.flatten.length →
                (gs.map fun f => ((us.drop (f.offset - o)).take (P.cellsOf f.type))).flatten = us := by
              intro gs
              induction gs with
              | nil =>
                intro Ls o us h1 _ h3
                have : Ls = [] := by simpa using h1
                subst this
                have : us = [] := by simpa using h3
                subst this
                rfl
              | cons g gs ih =>
                intro Ls o us h1 h2 h3
                cases Ls with
                | nil => simp at h1
                | cons M Ls =>
                  simp only [List.map_cons, List.cons.injEq] at h1
                  simp only [List.map_cons, places, Bool.and_eq_true, beq_iff_eq] at h2
                  rw [List.map_cons, List.flatten_cons]
                  have hle : ∀ (fs : List Field) (o : Nat), places o (fs.map fun f => (f.offset, P.cellsOf f.type)) = true → ∀ f ∈ fs, o ≤ f.offset := by
                    intro fs
                    induction fs with
                    | nil => intro o _ f hf; cases hf
                    | cons x xs ih =>
                      intro o hp f hf
                      simp only [List.map_cons, places, Bool.and_eq_true, beq_iff_eq] at hp
                      rcases List.mem_cons.1 hf with rfl | hf
                      · omega
                      · have := ih _ hp.2 f hf; omega
                  have h5 := ih Ls (o + P.cellsOf g.type) (us.drop (P.cellsOf g.type)) h1.2 h2.2 (by rw [List.length_drop, h3, List.flatten_cons, List.length_append, h1.1]; omega)
                  have h6 : (gs.map fun f => ((us.drop (f.offset - o)).take (P.cellsOf f.type))) = gs.map fun f => (((us.drop (P.cellsOf g.type)).drop (f.offset - (o + P.cellsOf g.type))).take (P.cellsOf f.type)) := by
                    refine List.map_congr_left fun f hf => ?_
                    have := hle gs _ h2.2 f hf
                    rw [List.drop_drop, show P.cellsOf g.type + (f.offset - (o + P.cellsOf g.type)) = f.offset - o by omega]
                  rw [h6, h5, ← h2.1, Nat.sub_self, List.drop_zero, List.take_append_drop]
            have h7 := key fs.toList Ls 0 cs hc.1 hc.2.1 hl
            have h8 := congrArg (List.map litOf) h7
            rw [← h8, List.map_flatten, List.map_map]
            simp [Function.comp_def]
          · cases h
      | _ => simp at hk

/-- Two values of many plain cells. -/
theorem eq_flat {T : TypeId} {k : Nat} {L : List Sh} {cs ds : List Value} {b : Bool} (hf : flat P k T = some L) (hp : L.all Sh.plain = true) (hk : P.keyTypeAt k T = true) (hs : (match P.underlying T with | some (.struct _) | some (.array _ _) => true | _ => false) = true) (hc : L.length = P.cellsOf T) (hk9 : k ≤ 10000)
    (h1 : Sh.ReadsL W L cs) (h2 : Sh.ReadsL W L ds) (hb : b = true ↔ cs = ds) (w : World) : (Op.equal T (.agg cs.toArray) (.agg ds.toArray)).run P w = .ok b w := by
  have hform : ∀ us : List Value, us.length = L.length → (Value.agg us.toArray).formed P T = true := by
    intro us hus
    unfold Value.formed
    split at hs <;> simp_all
  obtain ⟨r, hr, hi⟩ := run_equalIn_deep (10000 - k) k T hk w k k _ _ _ _ (hform cs h1.length) (hform ds h2.length) (flat_keys (W := W) k T cs L hf hp hk h1) (flat_keys (W := W) k T ds L hf hp hk h2)
  rw [show 10000 - k + k = 10000 by omega] at hr
  have : b = r := by
    rw [Bool.eq_iff_iff, hb, hi]
    constructor
    · intro e; rw [e]
    · exact lits_inj hp h1 h2
  rw [this]
  exact hr
end Go.Proofs.Ytnbckkpflmpnlaa.Eng
