/-
  The engine, part 5: a region that draws its order is walked in one order, if its loud operations wait for one another. No conditions.
-/
import Derived.Test.YtnbckkpflmpnlaaCall
namespace Go.Proofs.Ytnbckkpflmpnlaa.Eng
open Go Go.RowKit
set_option linter.unusedVariables false
set_option linter.unusedSectionVars false
set_option linter.unusedSimpArgs false

section
variable {P : Program} {ops : Array Oper} {Q : Exit → Act → World → Prop}

def dstOf (ops : Array Oper) (k : Nat) : Option Tmp := (ops[k]?).bind (·.dst)
theorem dstOf_eq {k : Nat} {o : Oper} (h : ops[k]? = some o) : dstOf ops k = o.dst := by simp [dstOf, h]

/-- In this state and world the operation leaves v, and nothing else. -/
def YW (P : Program) (ops : Array Oper) (o : Oper) (v : Value) (a : Act) (w : World) : Prop :=
  (Region.wanted o (yielded ops a.tmps) = true ∧ (execOp a.eval o).run P w = .ok (.value v) w) ∨ (Region.wanted o (yielded ops a.tmps) = false ∧ v = undef)
theorem YW.of_same {o : Oper} {v : Value} {a a' : Act} {w : World} (hy : YW P ops o v a w) (he : execOp a'.eval o = execOp a.eval o)
    (hw : Region.wanted o (yielded ops a'.tmps) = Region.wanted o (yielded ops a.tmps)) : YW P ops o v a' w := by
  unfold YW at *
  rw [he, hw]
  exact hy
theorem YW.of_yields {o : Oper} {v : Value} {a : Act} {w : World} (hy : Yields P ops o v a) : YW P ops o v a w := hy.imp (fun ⟨h1, h2⟩ => ⟨h1, h2 w⟩) id
theorem YW.wpOp {i : Nat} {o : Oper} {v : Value} {a : Act} {w : World} (hi : ops[i]? = some o) (hy : YW P ops o v a w) {K : Act → World → Prop} (h : K (a.put o.dst v) w) : wpOp P ops Q i K a w := by
  unfold Go.wpOp
  simp only [hi]
  rcases hy with ⟨hw, hv⟩ | ⟨hw, rfl⟩
  · simp only [hw, if_true, Oper.wp, hv, Oper.upon]; exact .inl h
  · simp only [hw, Bool.false_eq_true, if_false]; exact h

def puts (ops : Array Oper) : List (Nat × Value) → Act → Act
  | [], a => a
  | (k, u) :: M, a => puts ops M (a.put (dstOf ops k) u)
def fin : List (Nat × Value) → Array Bool → Array Bool
  | [], L => L
  | (k, _) :: M, L => fin M (L.setIfInBounds k true)
def notWait (oj : Oper) (k : Nat) : Prop := ∀ e ∈ oj.after, Region.binds .any e = true → e.on ≠ k

theorem apart_symm {x y : Oper} (h : x.apart ops y = true) : y.apart ops x = true := by
  obtain ⟨h1, h2, h3⟩ := Oper.apart_spec h
  unfold Oper.apart
  simp only [Bool.and_eq_true]
  refine ⟨?_, ?_⟩
  · cases hy : y.dst with
    | none => rfl
    | some d =>
      simp only [Bool.and_eq_true, Bool.not_eq_true', bne_iff_ne, ne_eq]
      refine ⟨by simpa using h3 d hy, fun hx => ?_⟩
      exact h2 d hx hy
  · cases hx : x.dst with
    | none => rfl
    | some d => simpa using h1 d hx

/-- What is static, and what is pure, of the quiet operations that are still to come here and have come there. -/
def Good0 (P : Program) (ops : Array Oper) (pend : List (Nat × Value)) : List (Nat × Value) → Array Bool → Act → Prop
  | [], _, _ => True
  | (k, u) :: M, L, a => (∃ ok, ops[k]? = some ok ∧ k ∈ Region.ready .any ops L ∧
      (∀ j oj, ops[j]? = some oj → j ≠ k → L.getD j true = false → notWait oj k → ok.apart ops oj = true) ∧
      (Yields P ops ok u a ∨ ((k, u) ∈ pend ∧ ∀ m, m ∈ (k, u) :: M → ∀ d, dstOf ops m.1 = some d → d ∉ ok.looksAt ops))) ∧
      Good0 P ops pend M (L.setIfInBounds k true) (a.put (dstOf ops k) u)
/-- And what they leave in this world. -/
def GoodW (P : Program) (ops : Array Oper) : List (Nat × Value) → Act → World → Prop
  | [], _, _ => True
  | (k, u) :: M, a, w => (∀ ok, ops[k]? = some ok → YW P ops ok u a w) ∧ GoodW P ops M (a.put (dstOf ops k) u) w

theorem ready_unl {j : Nat} {L : Array Bool} (h : j ∈ Region.ready .any ops L) : L.getD j true = false := (mem_ready.1 h).1
theorem unl_false {j : Nat} {L : Array Bool} (h : L.getD j true = false) : L.getD j false = false := by
  rcases Nat.lt_or_ge j L.size with h' | h'
  · simp [h'] at h ⊢; exact h
  · simp [Array.getElem?_eq_none h'] at h
theorem ready_notWait {j k : Nat} {oj : Oper} {L : Array Bool} (hj : ops[j]? = some oj) (hr : j ∈ Region.ready .any ops L) (hk : L.getD k true = false) : notWait oj k := by
  obtain ⟨_, o, ho, hall⟩ := mem_ready.1 hr
  rw [hj] at ho
  cases ho
  intro e he hb heq
  have := hall e he hb
  rw [heq, unl_false hk] at this
  cases this
theorem set_unl {L : Array Bool} {i j : Nat} (h : (L.setIfInBounds i true).getD j true = false) : L.getD j true = false ∧ j ≠ i := by
  by_cases e : i = j
  · subst e
    rcases Nat.lt_or_ge i L.size with h' | h'
    · simp [h'] at h
    · simp [Array.getElem?_eq_none h'] at h
  · rw [getD_set_ne true e] at h
    exact ⟨h, Ne.symm e⟩
theorem unl_set {L : Array Bool} {i j : Nat} (h : L.getD j true = false) (hne : j ≠ i) : (L.setIfInBounds i true).getD j true = false := by
  rw [getD_set_ne true (Ne.symm hne)]; exact h

theorem yields_put {o : Oper} {v : Value} {a : Act} (hs : ∀ cs b, o.op ≠ .select cs b) (hy : Yields P ops o v a) {dst : Option Tmp} {u : Value} (h : ∀ d, dst = some d → d ∉ o.looksAt ops) : Yields P ops o v (a.put dst u) :=
  hy.of_same (execOp_put o hs a dst u h) (wanted_put o a dst u h)
theorem yields_unput {o : Oper} {v : Value} {a : Act} (hs : ∀ cs b, o.op ≠ .select cs b) {dst : Option Tmp} {u : Value} (hy : Yields P ops o v (a.put dst u)) (h : ∀ d, dst = some d → d ∉ o.looksAt ops) : Yields P ops o v a :=
  hy.of_same (execOp_put o hs a dst u h).symm (wanted_put o a dst u h).symm
theorem yw_put {o : Oper} {v : Value} {a : Act} {w : World} (hs : ∀ cs b, o.op ≠ .select cs b) (hy : YW P ops o v a w) {dst : Option Tmp} {u : Value} (h : ∀ d, dst = some d → d ∉ o.looksAt ops) : YW P ops o v (a.put dst u) w :=
  hy.of_same (execOp_put o hs a dst u h) (wanted_put o a dst u h)
theorem yw_unput {o : Oper} {v : Value} {a : Act} {w : World} (hs : ∀ cs b, o.op ≠ .select cs b) {dst : Option Tmp} {u : Value} (hy : YW P ops o v (a.put dst u) w) (h : ∀ d, dst = some d → d ∉ o.looksAt ops) : YW P ops o v a w :=
  hy.of_same (execOp_put o hs a dst u h).symm (wanted_put o a dst u h).symm
theorem yw_unputs {o : Oper} {v : Value} {w : World} (hs : ∀ cs b, o.op ≠ .select cs b) : ∀ {M : List (Nat × Value)} {a : Act}, YW P ops o v (puts ops M a) w → (∀ m, m ∈ M → ∀ d, dstOf ops m.1 = some d → d ∉ o.looksAt ops) → YW P ops o v a w
  | [], _, h, _ => h
  | (k, u) :: M, a, h, hd => yw_unput hs (yw_unputs (M := M) hs h fun m hm => hd m (List.mem_cons_of_mem _ hm)) (hd (k, u) (List.mem_cons_self ..))

variable (hsel : ∀ (j : Nat) (o : Oper) cs b, ops[j]? = some o → o.op ≠ .select cs b)
include hsel

/-- Two neighbours change places. -/
theorem good_swap {pend : List (Nat × Value)} {x y : Nat} {u v : Value} {M : List (Nat × Value)} {L : Array Bool} {a : Act} {w : World}
    (h0 : Good0 P ops pend ((x, u) :: (y, v) :: M) L a) (hw : GoodW P ops ((x, u) :: (y, v) :: M) a w) (hr : y ∈ Region.ready .any ops L) :
    Good0 P ops pend ((y, v) :: (x, u) :: M) L a ∧ GoodW P ops ((y, v) :: (x, u) :: M) a w ∧ puts ops ((y, v) :: (x, u) :: M) a = puts ops ((x, u) :: (y, v) :: M) a ∧ fin ((y, v) :: (x, u) :: M) L = fin ((x, u) :: (y, v) :: M) L := by
  obtain ⟨⟨ox, hx, hrx, hax, hyx⟩, ⟨oy, hy, hry, hay, hyy⟩, hM⟩ := h0
  obtain ⟨wx, wy, wM⟩ := hw
  have hun := set_unl (ready_unl hry)
  have hnw : notWait oy x := ready_notWait hy hr (ready_unl hrx)
  have hap : ox.apart ops oy = true := hax y oy hy hun.2 (ready_unl hr) hnw
  obtain ⟨a1, a2, a3⟩ := Oper.apart_spec hap
  have dx := dstOf_eq hx
  have dy := dstOf_eq hy
  have hcomm : (a.put (dstOf ops x) u).put (dstOf ops y) v = (a.put (dstOf ops y) v).put (dstOf ops x) u := by
    rw [dx, dy]; exact Act.put_comm a u v a2
  have hset : (L.setIfInBounds x true).setIfInBounds y true = (L.setIfInBounds y true).setIfInBounds x true := Array.setIfInBounds_comm _ _ (Ne.symm hun.2)
  have hdx : ∀ d, dstOf ops x = some d → d ∉ oy.looksAt ops := fun d hd => a1 d (dx ▸ hd)
  have hdy : ∀ d, dstOf ops y = some d → d ∉ ox.looksAt ops := fun d hd => a3 d (dy ▸ hd)
  have sx := fun cs b => hsel x ox cs b hx
  have sy := fun cs b => hsel y oy cs b hy
  refine ⟨⟨⟨oy, hy, hr, ?_, ?_⟩, ⟨ox, hx, ready_mono hrx (Ne.symm hun.2), ?_, ?_⟩, ?_⟩, ⟨?_, ?_, ?_⟩, ?_, ?_⟩
  · intro j oj hj hne hl hw'
    by_cases e : j = x
    · subst e
      rw [hx] at hj; cases hj
      exact apart_symm hap
    · exact hay j oj hj hne (unl_set hl e) hw'
  · rcases hyy with hyy | ⟨hm, hd⟩
    · exact .inl (yields_unput sy hyy hdx)
    · refine .inr ⟨hm, fun m hm' => ?_⟩
      rcases List.mem_cons.1 hm' with rfl | hm'
      · exact hd _ (List.mem_cons_self ..)
      · rcases List.mem_cons.1 hm' with rfl | hm'
        · exact hdx
        · exact hd m (List.mem_cons_of_mem _ hm')
  · intro j oj hj hne hl hw'
    exact hax j oj hj hne (set_unl hl).1 hw'
  · rcases hyx with hyx | ⟨hm, hd⟩
    · exact .inl (yields_put sx hyx hdy)
    · refine .inr ⟨hm, fun m hm' => ?_⟩
      rcases List.mem_cons.1 hm' with rfl | hm'
      · exact hd _ (List.mem_cons_self ..)
      · exact hd m (List.mem_cons_of_mem _ (List.mem_cons_of_mem _ hm'))
  · rw [← hset, ← hcomm]; exact hM
  · intro ok hk
    rw [hy] at hk; cases hk
    exact yw_unput sy (wy _ hy) hdx
  · intro ok hk
    rw [hx] at hk; cases hk
    exact yw_put sx (wx _ hx) hdy
  · rw [← hcomm]; exact wM
  · simp only [puts]; rw [hcomm]
  · simp only [fin]; rw [hset]

/-- One that may come now is brought to the front. -/
theorem good_pull {pend : List (Nat × Value)} {j : Nat} {w : World} : ∀ {M : List (Nat × Value)} {L : Array Bool} {a : Act}, Good0 P ops pend M L a → GoodW P ops M a w → j ∈ Region.ready .any ops L → (∃ u, (j, u) ∈ M) →
    ∃ u M', M.Perm ((j, u) :: M') ∧ Good0 P ops pend ((j, u) :: M') L a ∧ GoodW P ops ((j, u) :: M') a w ∧ puts ops ((j, u) :: M') a = puts ops M a ∧ fin ((j, u) :: M') L = fin M L
  | [], _, _, _, _, _, ⟨u, hu⟩ => by cases hu
  | (x, u) :: M, L, a, h0, hw, hr, ⟨v, hv⟩ => by
    by_cases e : x = j
    · subst e
      exact ⟨u, M, .refl _, h0, hw, rfl, rfl⟩
    · have hv' : (j, v) ∈ M := by
        rcases List.mem_cons.1 hv with h | h
        · cases h; exact absurd rfl e
        · exact h
      obtain ⟨u', M', hp, g0, gw, e1, e2⟩ := good_pull (M := M) h0.2 hw.2 (ready_mono hr (Ne.symm e)) ⟨v, hv'⟩
      have h0' : Good0 P ops pend ((x, u) :: (j, u') :: M') L a := by
        obtain ⟨⟨ok, h1, h2, h3, h4⟩, _⟩ := h0
        refine ⟨⟨ok, h1, h2, h3, ?_⟩, g0⟩
        rcases h4 with h4 | ⟨h4, h5⟩
        · exact .inl h4
        · refine .inr ⟨h4, fun m hm => h5 m ?_⟩
          rcases List.mem_cons.1 hm with hm | hm
          · exact List.mem_cons.2 (.inl hm)
          · exact List.mem_cons_of_mem _ (hp.mem_iff.2 hm)
      have hw' : GoodW P ops ((x, u) :: (j, u') :: M') a w := ⟨hw.1, gw⟩
      obtain ⟨s0, sw, s1, s2⟩ := good_swap hsel h0' hw' hr
      refine ⟨u', (x, u) :: M', ((hp.cons (x, u)).trans (.swap _ _ _)), s0, sw, s1.trans ?_, s2.trans ?_⟩
      · simp only [puts] at e1 ⊢; exact e1
      · simp only [fin] at e2 ⊢; exact e2

theorem good_notMem {pend : List (Nat × Value)} {j : Nat} : ∀ {M : List (Nat × Value)} {L : Array Bool} {a : Act}, Good0 P ops pend M L a → j ∈ Region.ready .any ops L → (¬ ∃ u, (j, u) ∈ M) → j ∈ Region.ready .any ops (fin M L)
  | [], _, _, _, hr, _ => hr
  | (x, u) :: M, L, a, h0, hr, hn => good_notMem (M := M) h0.2 (ready_mono hr fun e => hn ⟨u, by rw [e]; exact List.mem_cons_self ..⟩) fun ⟨v, hv⟩ => hn ⟨v, List.mem_cons_of_mem _ hv⟩

/-- One that may come, and is none of those, is apart from them all. -/
theorem good_apart {pend : List (Nat × Value)} {j : Nat} {oj : Oper} (hj : ops[j]? = some oj) : ∀ {M : List (Nat × Value)} {L : Array Bool} {a : Act}, Good0 P ops pend M L a → j ∈ Region.ready .any ops L → (¬ ∃ u, (j, u) ∈ M) → ∀ k u, (k, u) ∈ M → ∃ ok, ops[k]? = some ok ∧ ok.apart ops oj = true
  | [], _, _, _, _, _, _, _, hm => by cases hm
  | (x, u) :: M, L, a, h0, hr, hn, k, v, hm => by
    have hne : j ≠ x := fun e => hn ⟨u, by rw [e]; exact List.mem_cons_self ..⟩
    rcases List.mem_cons.1 hm with e | hm
    · cases e
      obtain ⟨⟨ok, h1, h2, h3, _⟩, _⟩ := h0
      exact ⟨ok, h1, h3 j oj hj hne (ready_unl hr) (ready_notWait hj hr (ready_unl h2))⟩
    · exact good_apart hj (M := M) h0.2 (ready_mono hr hne) (fun ⟨v, hv⟩ => hn ⟨v, List.mem_cons_of_mem _ hv⟩) k v hm

theorem good_keys {pend : List (Nat × Value)} : ∀ {M : List (Nat × Value)} {L : Array Bool} {a : Act}, Good0 P ops pend M L a → ∀ k u, (k, u) ∈ M → L.getD k true = false
  | [], _, _, _, _, _, hm => by cases hm
  | (x, u) :: M, L, a, h0, k, v, hm => by
    rcases List.mem_cons.1 hm with e | hm
    · cases e
      exact ready_unl h0.1.choose_spec.2.1
    · exact (set_unl (good_keys (M := M) h0.2 k v hm)).1

theorem puts_put {j : Option Tmp} {v : Value} : ∀ {M : List (Nat × Value)} {a : Act}, (∀ m, m ∈ M → ∀ d, dstOf ops m.1 = some d → j ≠ some d) → (puts ops M a).put j v = puts ops M (a.put j v)
  | [], _, _ => rfl
  | (k, u) :: M, a, h => by
    simp only [puts]
    rw [puts_put (M := M) (fun m hm => h m (List.mem_cons_of_mem _ hm)), Act.put_comm a u v (h (k, u) (List.mem_cons_self ..))]
theorem puts_defers : ∀ {M : List (Nat × Value)} {a : Act}, (puts ops M a).defers = a.defers
  | [], _ => rfl
  | (k, u) :: M, a => by
    simp only [puts]
    rw [puts_defers (M := M)]
    cases dstOf ops k <;> rfl
theorem puts_with {ds : List Deferred} : ∀ {M : List (Nat × Value)} {a : Act}, ({ puts ops M a with defers := ds } : Act) = puts ops M { a with defers := ds }
  | [], _ => rfl
  | (k, u) :: M, a => by
    simp only [puts]
    rw [puts_with (M := M)]
    cases dstOf ops k <;> rfl
theorem puts_exec {oj : Oper} (hs : ∀ cs b, oj.op ≠ .select cs b) : ∀ {M : List (Nat × Value)} {a : Act}, (∀ m, m ∈ M → ∀ d, dstOf ops m.1 = some d → d ∉ oj.looksAt ops) →
    execOp (puts ops M a).eval oj = execOp a.eval oj ∧ Region.wanted oj (yielded ops (puts ops M a).tmps) = Region.wanted oj (yielded ops a.tmps)
  | [], _, _ => ⟨rfl, rfl⟩
  | (k, u) :: M, a, h => by
    obtain ⟨h1, h2⟩ := puts_exec hs (M := M) (a := a.put (dstOf ops k) u) (fun m hm => h m (List.mem_cons_of_mem _ hm))
    have hk := h (k, u) (List.mem_cons_self ..)
    exact ⟨h1.trans (execOp_put oj hs a _ u hk), h2.trans (wanted_put oj a _ u hk)⟩

/-- A loud operation, while those are still to come. -/
theorem wpOp_sub {j : Nat} {oj : Oper} (hj : ops[j]? = some oj) {M : List (Nat × Value)} (hM : ∀ k u, (k, u) ∈ M → ∃ ok, ops[k]? = some ok ∧ ok.apart ops oj = true)
    (hQ : ∀ ch a a' w, a.defers = a'.defers → Q (.panic ch) a w → Q (.panic ch) a' w) {K : Act → World → Prop} {a : Act} {w : World} (h : wpOp P ops Q j K (puts ops M a) w) :
    wpOp P ops Q j (fun a' w' => (∃ v ds, a' = ({ a with defers := ds } : Act).put oj.dst v) ∧ K (puts ops M a') w') a w := by
  have hs := fun cs b => hsel j oj cs b hj
  have hlook : ∀ m, m ∈ M → ∀ d, dstOf ops m.1 = some d → d ∉ oj.looksAt ops := fun m hm d hd => by
    obtain ⟨ok, h1, h2⟩ := hM m.1 m.2 hm
    exact (Oper.apart_spec h2).1 d (dstOf_eq h1 ▸ hd)
  have hdst : ∀ m, m ∈ M → ∀ d, dstOf ops m.1 = some d → oj.dst ≠ some d := fun m hm d hd => by
    obtain ⟨ok, h1, h2⟩ := hM m.1 m.2 hm
    exact (Oper.apart_spec h2).2.1 d (dstOf_eq h1 ▸ hd)
  obtain ⟨e1, e2⟩ := puts_exec hsel hs (a := a) hlook
  have hput : ∀ v, (puts ops M a).put oj.dst v = puts ops M (a.put oj.dst v) := fun v => puts_put hsel hdst
  have hself : ∀ v, ∃ u ds, a.put oj.dst v = ({ a with defers := ds } : Act).put oj.dst u := fun v => ⟨v, a.defers, rfl⟩
  unfold wpOp at *
  simp only [hj] at *
  rw [e2] at h
  split
  · rename_i hw
    simp only [hw, if_true] at h
    rcases h with h | ⟨hasks, hlets⟩
    case inr => exact .inr ⟨by unfold Oper.asks at *; rw [e1] at hasks; exact hasks, hlets⟩
    refine .inl ?_
    unfold Oper.wp at *
    rw [e1] at h
    generalize (execOp a.eval oj).run P w = r at *
    cases r with
    | ok n w' =>
      cases n <;> simp only [Oper.upon] at h ⊢
      case value u => exact ⟨hself u, by rw [← hput]; exact h⟩
      case skip => exact ⟨hself _, by rw [← hput]; exact h⟩
      case defer d =>
        refine ⟨⟨undef, d :: a.defers, rfl⟩, ?_⟩
        have e3 : ({ puts ops M a with defers := d :: (puts ops M a).defers } : Act).put oj.dst undef = puts ops M (({ a with defers := d :: a.defers } : Act).put oj.dst undef) := by
          rw [puts_defers hsel, puts_with hsel]
          exact puts_put hsel hdst
        rw [← e3]; exact h
      case enter f args =>
        refine Calls.mono h fun e w'' he => ?_
        cases e with
        | returned u => exact ⟨hself u, by rw [← hput]; exact he⟩
        | panicked c => exact hQ _ _ _ _ (puts_defers hsel) he
        | outgrown => exact he
      case row row args => exact Rows.mono h fun u w'' he => ⟨hself u, by rw [← hput]; exact he⟩
    | halt x w' =>
      cases x <;> simp only [Oper.upon] at h ⊢
      case panic u => exact hQ _ _ _ _ (puts_defers hsel) h
  · rename_i hw
    simp only [hw] at h
    exact ⟨hself _, by rw [← hput]; exact h⟩

theorem yields_defers {o : Oper} {v : Value} {a : Act} (hy : Yields P ops o v a) (ds : List Deferred) : Yields P ops o v { a with defers := ds } := hy.of_same rfl rfl

/-- Behind one that is apart from them all, they are still good. -/
theorem good_put {pend pend' : List (Nat × Value)} {j : Nat} {oj : Oper} (hj : ops[j]? = some oj) {v : Value} {ds : List Deferred} : ∀ {M : List (Nat × Value)} {L : Array Bool} {a : Act}, Good0 P ops pend M L a → (¬ ∃ u, (j, u) ∈ M) →
    (∀ k u, (k, u) ∈ M → ∃ ok, ops[k]? = some ok ∧ ok.apart ops oj = true) → (∀ k u, (k, u) ∈ M → (k, u) ∈ pend → (k, u) ∈ pend') → Good0 P ops pend' M (L.setIfInBounds j true) (({ a with defers := ds } : Act).put oj.dst v)
  | [], _, _, _, _, _, _ => trivial
  | (x, u) :: M, L, a, h0, hn, hap, hp => by
    obtain ⟨⟨ok, h1, h2, h3, h4⟩, h5⟩ := h0
    have hne : x ≠ j := fun e => hn ⟨u, by rw [← e]; exact List.mem_cons_self ..⟩
    obtain ⟨ok', h1', ha⟩ := hap x u (List.mem_cons_self ..)
    rw [h1] at h1'; cases h1'
    obtain ⟨a1, a2, a3⟩ := Oper.apart_spec ha
    have so := fun cs b => hsel x ok cs b h1
    refine ⟨⟨ok, h1, ready_mono h2 hne, fun i oi hi hne' hl hw => h3 i oi hi hne' (set_unl hl).1 hw, ?_⟩, ?_⟩
    · rcases h4 with h4 | ⟨h4, h6⟩
      · exact .inl (yields_put so (yields_defers hsel h4 ds) a3)
      · exact .inr ⟨hp x u (List.mem_cons_self ..) h4, h6⟩
    · have ih := good_put hj (v := v) (ds := ds) (M := M) h5 (fun ⟨v, hv⟩ => hn ⟨v, List.mem_cons_of_mem _ hv⟩) (fun k u hm => hap k u (List.mem_cons_of_mem _ hm)) (fun k u hm => hp k u (List.mem_cons_of_mem _ hm))
      have e1 : (L.setIfInBounds x true).setIfInBounds j true = (L.setIfInBounds j true).setIfInBounds x true := Array.setIfInBounds_comm _ _ hne
      have e2 : (({ a.put (dstOf ops x) u with defers := ds } : Act)).put oj.dst v = ((({ a with defers := ds } : Act)).put oj.dst v).put (dstOf ops x) u := by
        have e3 : ({ a.put (dstOf ops x) u with defers := ds } : Act) = ({ a with defers := ds } : Act).put (dstOf ops x) u := by cases dstOf ops x <;> rfl
        rw [e3, dstOf_eq h1]
        exact Act.put_comm _ u v a2
      rw [e1, e2] at ih
      exact ih

/-- What is told of the loads at the end holds at their own places. -/
theorem good_back {pend : List (Nat × Value)} {w : World} : ∀ {M : List (Nat × Value)} {L : Array Bool} {a : Act}, Good0 P ops pend M L a → (∀ k u, (k, u) ∈ M → (k, u) ∈ pend → ∀ ok, ops[k]? = some ok → YW P ops ok u (puts ops M a) w) → GoodW P ops M a w
  | [], _, _, _, _ => trivial
  | (x, u) :: M, L, a, h0, h => by
    obtain ⟨⟨ok, h1, h2, h3, h4⟩, h5⟩ := h0
    refine ⟨fun ok' hk => ?_, good_back (M := M) h5 fun k u hm => h k u (List.mem_cons_of_mem _ hm)⟩
    rw [h1] at hk; cases hk
    rcases h4 with h4 | ⟨h4, h6⟩
    · exact .of_yields h4
    · exact yw_unputs (fun cs b => hsel x ok cs b h1) (h x u (List.mem_cons_self ..) h4 ok h1) h6

/-- One more has come there. -/
theorem good_snoc {pend pend' : List (Nat × Value)} {i : Nat} {oi : Oper} {v : Value} (hi : ops[i]? = some oi) (hp : ∀ x, x ∈ pend → x ∈ pend') (hpk : ∀ k u, (k, u) ∈ pend → ∀ ok, ops[k]? = some ok → ∀ d, oi.dst = some d → d ∉ ok.looksAt ops) :
    ∀ {M : List (Nat × Value)} {L : Array Bool} {a : Act}, Good0 P ops pend M L a → i ∈ Region.ready .any ops (fin M L) →
    (∀ j oj, ops[j]? = some oj → j ≠ i → (fin M L).getD j true = false → notWait oj i → oi.apart ops oj = true) →
    (Yields P ops oi v (puts ops M a) ∨ ((i, v) ∈ pend' ∧ ∀ d, oi.dst = some d → d ∉ oi.looksAt ops)) → Good0 P ops pend' (M ++ [(i, v)]) L a
  | [], L, a, _, hr, hf, hy => ⟨⟨oi, hi, hr, hf, hy.imp id fun ⟨h1, h2⟩ => ⟨h1, fun m hm d hd => by
      simp only [List.mem_singleton] at hm
      subst hm
      exact h2 d (dstOf_eq hi ▸ hd)⟩⟩, trivial⟩
  | (x, u) :: M, L, a, h0, hr, hf, hy => by
    obtain ⟨⟨ok, h1, h2, h3, h4⟩, h5⟩ := h0
    refine ⟨⟨ok, h1, h2, h3, ?_⟩, good_snoc hi hp hpk (M := M) h5 hr hf hy⟩
    rcases h4 with h4 | ⟨h4, h6⟩
    · exact .inl h4
    · refine .inr ⟨hp _ h4, fun m hm d hd => ?_⟩
      have hm' : m ∈ ((x, u) :: M) ++ [(i, v)] := hm
      rcases List.mem_append.1 hm' with hm | hm
      · exact h6 m hm d hd
      · simp only [List.mem_singleton] at hm
        subst hm
        exact hpk x u h4 ok h1 d (dstOf_eq hi ▸ hd)

theorem goodW_snoc {i : Nat} {oi : Oper} {v : Value} {w : World} (hi : ops[i]? = some oi) : ∀ {M : List (Nat × Value)} {a : Act}, GoodW P ops M a w → YW P ops oi v (puts ops M a) w → GoodW P ops (M ++ [(i, v)]) a w
  | [], _, _, hy => ⟨fun ok hk => by rw [hi] at hk; cases hk; exact hy, trivial⟩
  | (x, u) :: M, _, hw, hy => ⟨hw.1, goodW_snoc hi (M := M) hw.2 hy⟩
theorem puts_snoc {i : Nat} {v : Value} : ∀ {M : List (Nat × Value)} {a : Act}, puts ops (M ++ [(i, v)]) a = (puts ops M a).put (dstOf ops i) v
  | [], _ => rfl
  | (x, u) :: M, a => by simp only [List.cons_append, puts]; exact puts_snoc (M := M)
theorem fin_snoc {i : Nat} {v : Value} : ∀ {M : List (Nat × Value)} {L : Array Bool}, fin (M ++ [(i, v)]) L = (fin M L).setIfInBounds i true
  | [], _ => rfl
  | (x, u) :: M, L => by simp only [List.cons_append, fin]; exact fin_snoc (M := M)
theorem fin_set {j : Nat} : ∀ {M : List (Nat × Value)} {L : Array Bool}, (¬ ∃ u, (j, u) ∈ M) → fin M (L.setIfInBounds j true) = (fin M L).setIfInBounds j true
  | [], _, _ => rfl
  | (x, u) :: M, L, hn => by
    have hne : x ≠ j := fun e => hn ⟨u, by rw [← e]; exact List.mem_cons_self ..⟩
    simp only [fin]
    rw [← fin_set (M := M) (fun ⟨v, hv⟩ => hn ⟨v, List.mem_cons_of_mem _ hv⟩), Array.setIfInBounds_comm _ _ hne]

omit hsel in
/-- Whoever has come has come behind all that it waits for. -/
def closedL (ops : Array Oper) (L : Array Bool) : Prop := ∀ i oi, ops[i]? = some oi → L.getD i false = true → ∀ e ∈ oi.after, Region.binds .any e = true → L.getD e.on false = true
omit hsel in
theorem closedL.set {L : Array Bool} {j : Nat} (h : closedL ops L) (hr : j ∈ Region.ready .any ops L) : closedL ops (L.setIfInBounds j true) := by
  intro i oi hi hl e he hb
  by_cases hij : j = i
  · subst hij
    obtain ⟨_, o, ho, hall⟩ := mem_ready.1 hr
    rw [hi] at ho; cases ho
    exact getD_set_true (hall e he hb)
  · rw [getD_set_ne false hij] at hl
    exact getD_set_true (h i oi hi hl e he hb)

omit hsel in
def dep (ms : List Nat) (k i : Nat) : Bool := (ms.getD i 0).testBit k
omit hsel in
/-- Each bit has its reason. -/
def msOk (ops : Array Oper) (ms : List Nat) : Bool :=
  (List.range ops.size).all fun i => (List.range ops.size).all fun k => !dep ms k i || match ops[i]? with
    | some o => o.after.toList.any fun e => Region.binds .any e && decide (e.on < i) && (e.on == k || dep ms k e.on)
    | none => false
omit hsel in
theorem dep_closed {ms : List Nat} {L : Array Bool} (hms : msOk ops ms = true) (hL : closedL ops L) {k : Nat} (hk : k < ops.size) : ∀ i oi, ops[i]? = some oi → (∀ e ∈ oi.after, Region.binds .any e = true → L.getD e.on false = true) → dep ms k i = true → L.getD k false = true := by
  intro i
  induction i using Nat.strongRecOn with
  | _ i ih =>
    intro oi hi hall hd
    have hlt : i < ops.size := (Array.getElem?_eq_some_iff.1 hi).1
    simp only [msOk, List.all_eq_true, List.mem_range] at hms
    have h1 := hms i hlt k hk
    rw [hd, hi] at h1
    simp only [Bool.not_true, Bool.false_or, List.any_eq_true, Bool.and_eq_true, decide_eq_true_eq, Bool.or_eq_true, beq_iff_eq] at h1
    obtain ⟨e, he, ⟨hb, hlt'⟩, h2⟩ := h1
    have he' : e ∈ oi.after := by simpa using he
    have hl := hall e he' hb
    rcases h2 with h2 | h2
    · rw [← h2]; exact hl
    · have hon : e.on < ops.size := by omega
      have hoe : ops[e.on]? = some ops[e.on] := Array.getElem?_eq_getElem hon
      exact ih e.on hlt' _ hoe (hL _ _ hoe hl) h2

omit hsel in
/-- A plan: p: a pure one, then the rest; q: one that reads; x: a loud one, then the rest, or else one of the others. -/
inductive Pl
  | nil
  | none
  | p (i : Nat) (r : Pl)
  | q (i : Nat) (r : Pl)
  | x (i : Nat) (r o : Pl)
omit hsel in
def Pl.len : Pl → Nat
  | .nil => 0
  | .none => 0
  | .p _ r => r.len + 1
  | .q _ r => r.len + 1
  | .x _ r _ => r.len + 1
omit hsel in
def Pl.alts : Pl → List Nat
  | .x i _ o => i :: o.alts
  | _ => []
omit hsel in
/-- The walk of a plan. -/
def wpP (P : Program) (ops : Array Oper) (Q : Exit → Act → World → Prop) (ms : List Nat) : Pl → List (Nat × Value) → Act → World → Prop
  | .nil, _, a, w => Q .normal a w
  | .none, _, _, _ => True
  | .p i pl, pend, a, w => ∃ o v, ops[i]? = some o ∧ Yields P ops o v a ∧ wpP P ops Q ms pl pend (a.put o.dst v) w
  | .q i pl, pend, a, w => ∃ o v, ops[i]? = some o ∧ YW P ops o v a w ∧ wpP P ops Q ms pl ((i, v) :: pend) (a.put o.dst v) w
  | .x i pl o, pend, a, w => wpOp P ops Q i (fun a' w' => (∀ k u, (k, u) ∈ pend.filter (fun x => !dep ms x.1 i) → ∀ ok, ops[k]? = some ok → YW P ops ok u a' w') ∧ wpP P ops Q ms pl (pend.filter (fun x => !dep ms x.1 i)) a' w') a w ∧ wpP P ops Q ms o pend a w

omit hsel in
def offLooks (ops : Array Oper) (i k : Nat) : Bool := match dstOf ops i, ops[k]? with
  | some d, some ok => !(ok.looksAt ops).contains d
  | _, _ => true
omit hsel in
theorem offLooks_spec {i k : Nat} {oi ok : Oper} (hi : ops[i]? = some oi) (hk : ops[k]? = some ok) (h : offLooks ops i k = true) : ∀ d, oi.dst = some d → d ∉ ok.looksAt ops := by
  intro d hd
  have := dstOf_eq hi
  rw [hd] at this
  simp only [offLooks, this, hk] at h
  simpa using h
omit hsel in
def Pl.isNone : Pl → Bool
  | .none => true
  | _ => false
omit hsel in
def planOk (ops : Array Oper) (ms : List Nat) : Bool → Array Bool → List Nat → Pl → Bool
  | t, L, _, .nil => t && (Region.ready .any ops L).isEmpty
  | t, _, _, .none => !t
  | t, L, pk, .p i pl => t && (Region.ready .any ops L).contains i && Region.free .any ops L i && pk.all (offLooks ops i ·) && planOk ops ms true (L.setIfInBounds i true) pk pl
  | t, L, pk, .q i pl => t && (Region.ready .any ops L).contains i && Region.free .any ops L i && pk.all (offLooks ops i ·) && offLooks ops i i && decide (i < ops.size) && planOk ops ms true (L.setIfInBounds i true) (i :: pk) pl
  | t, L, pk, .x i pl o => (!t || decide (Region.ready .any ops L = i :: o.alts)) && (o.isNone || decide (o.len = pl.len + 1)) && planOk ops ms true (L.setIfInBounds i true) (pk.filter fun k => !dep ms k i) pl && planOk ops ms false L pk o

omit hsel in
theorem alt_of {ms : List Nat} {L : Array Bool} {pk : List Nat} {pend : List (Nat × Value)} {a : Act} {w : World} {j : Nat} : ∀ (pl : Pl) (n : Nat), j ∈ pl.alts → pl.len = n + 1 → planOk ops ms false L pk pl = true → wpP P ops Q ms pl pend a w →
    ∃ r : Pl, r.len = n ∧ planOk ops ms true (L.setIfInBounds j true) (pk.filter fun k => !dep ms k j) r = true ∧ wpOp P ops Q j (fun a' w' => (∀ k u, (k, u) ∈ pend.filter (fun x => !dep ms x.1 j) → ∀ ok, ops[k]? = some ok → YW P ops ok u a' w') ∧ wpP P ops Q ms r (pend.filter (fun x => !dep ms x.1 j)) a' w') a w
  | .nil, _, h, _, _, _ => by cases h
  | .none, _, h, _, _, _ => by cases h
  | .p _ _, _, h, _, _, _ => by cases h
  | .q _ _, _, h, _, _, _ => by cases h
  | .x i r o, n, h, hl, hok, hw => by
    simp only [planOk, Bool.and_eq_true, Bool.or_eq_true, decide_eq_true_eq] at hok
    obtain ⟨⟨⟨_, ho⟩, hr⟩, hok'⟩ := hok
    have hl' : r.len = n := by simpa [Pl.len] using hl
    simp only [Pl.alts, List.mem_cons] at h
    rcases h with rfl | h
    · exact ⟨r, hl', hr, hw.1⟩
    · refine alt_of o n h ?_ hok' hw.2
      rcases ho with ho | ho
      · cases o <;> simp [Pl.isNone] at ho
        cases h
      · omega

theorem good_ready {pend : List (Nat × Value)} {M : List (Nat × Value)} {L : Array Bool} {a : Act} (h : Good0 P ops pend M L a) (hr : Region.ready .any ops L = []) : M = [] := by
  cases M with
  | nil => rfl
  | cons x M =>
    obtain ⟨k, u⟩ := x
    have := h.1.choose_spec.2.1
    rw [hr] at this
    cases this

theorem any_of_plan {ms : List Nat} (hms : msOk ops ms = true) (hQ : ∀ ch a a' w, a.defers = a'.defers → Q (.panic ch) a w → Q (.panic ch) a' w) :
    ∀ (n : Nat) (pl : Pl), pl.len = n → ∀ (pend : List (Nat × Value)) (pk : List Nat) (listed : Array Bool) (a : Act) (w : World), planOk ops ms true listed pk pl = true → wpP P ops Q ms pl pend a w → (∀ k u, (k, u) ∈ pend → k ∈ pk ∧ k < ops.size) →
    ∀ (m : Nat) (M : List (Nat × Value)) (L : Array Bool) (a0 : Act), M.length = m → Good0 P ops pend M L a0 → GoodW P ops M a0 w → fin M L = listed → puts ops M a0 = a → closedL ops L → wpAny P .any ops Q (n + m) L a0 w := by
  intro n
  induction n with
  | zero =>
    intro pl hlen pend pk listed a w hok hwp hpk m
    obtain rfl : pl = .nil := by
      cases pl <;> simp [Pl.len] at hlen
      · rfl
      · simp [planOk] at hok
    have hr0 : Region.ready .any ops listed = [] := by simpa [planOk] using hok
    induction m with
    | zero =>
      intro M L a0 hm h0 hw hf hp hcl
      have : M = [] := List.eq_nil_of_length_eq_zero hm
      subst this
      simp only [fin, puts] at hf hp
      subst hf; subst hp
      exact ⟨hr0, hwp⟩
    | succ m ihm =>
      intro M L a0 hm h0 hw hf hp hcl
      refine ⟨fun hr => ?_, fun j hj => ?_⟩
      · have := good_ready hsel h0 hr
        subst this
        cases hm
      · by_cases hin : ∃ u, (j, u) ∈ M
        · obtain ⟨u, M', hpm, g0, gw, e1, e2⟩ := good_pull hsel h0 hw hj hin
          obtain ⟨⟨oj, hoj, _, _, _⟩, g1⟩ := g0
          refine YW.wpOp hoj (gw.1 oj hoj) ?_
          have hl := hpm.length_eq
          rw [← dstOf_eq hoj]
          refine ihm M' _ _ (by simp at hl; omega) g1 gw.2 (by rw [← hf, ← e2]; rfl) (by rw [← hp, ← e1]; rfl) (hcl.set hj)
        · have := good_notMem hsel h0 hj hin
          rw [hf, hr0] at this
          cases this
  | succ n ih =>
    intro pl0 hlen pend pk listed a w hok hwp hpk m
    -- the quiet ones: the walk there goes on; here nothing comes
    have quiet : ∀ (i : Nat) (pl : Pl), pl.len = n → ∀ (oi : Oper) (v : Value) (pend' : List (Nat × Value)) (pk' : List Nat), ops[i]? = some oi → i ∈ Region.ready .any ops listed → Region.free .any ops listed i = true → pk.all (offLooks ops i ·) = true → planOk ops ms true (listed.setIfInBounds i true) pk' pl = true →
        (∀ x, x ∈ pend → x ∈ pend') → (∀ k u, (k, u) ∈ pend' → k ∈ pk' ∧ k < ops.size) → YW P ops oi v a w → (Yields P ops oi v a ∨ ((i, v) ∈ pend' ∧ ∀ d, oi.dst = some d → d ∉ oi.looksAt ops)) → wpP P ops Q ms pl pend' (a.put oi.dst v) w →
        ∀ (M : List (Nat × Value)) (L : Array Bool) (a0 : Act), M.length = m → Good0 P ops pend M L a0 → GoodW P ops M a0 w → fin M L = listed → puts ops M a0 = a → closedL ops L → wpAny P .any ops Q (n + 1 + m) L a0 w := by
      intro i pl hpl oi v pend' pk' hoi hri hfr hall hok' hsub hpk' hyw hy hwp' M L a0 hm h0 hw hf hp hcl
      rw [show n + 1 + m = n + (m + 1) by omega]
      have hpk2 : ∀ k u, (k, u) ∈ pend → ∀ ok, ops[k]? = some ok → ∀ d, oi.dst = some d → d ∉ ok.looksAt ops := fun k u hm' ok hk => offLooks_spec hoi hk (List.all_eq_true.1 hall k (hpk k u hm').1)
      refine ih pl hpl pend' pk' _ _ w hok' hwp' hpk' (m + 1) (M ++ [(i, v)]) L a0 (by simp [hm]) ?_ ?_ ?_ ?_ hcl
      · refine good_snoc hsel hoi hsub hpk2 h0 (hf ▸ hri) ?_ (hp ▸ hy)
        rw [hf]
        exact fun j oj hj hne hun hnw => Region.free_spec hoi hfr j oj hj hne hun hnw
      · exact goodW_snoc hsel hoi hw (hp ▸ hyw)
      · rw [fin_snoc hsel, hf]
      · rw [puts_snoc hsel, hp, dstOf_eq hoi]
    cases pl0 with
    | nil => simp [Pl.len] at hlen
    | none => simp [Pl.len] at hlen
    | p i pl =>
      have hpl : pl.len = n := by simpa [Pl.len] using hlen
      obtain ⟨oi, v, hoi, hy, hwp'⟩ := hwp
      simp only [planOk, Bool.and_eq_true] at hok
      exact quiet i pl hpl oi v pend pk hoi (by simpa using hok.1.1.1.2) hok.1.1.2 hok.1.2 hok.2 (fun _ h => h) hpk (.of_yields hy) (.inl hy) hwp'
    | q i pl =>
      have hpl : pl.len = n := by simpa [Pl.len] using hlen
      obtain ⟨oi, v, hoi, hy, hwp'⟩ := hwp
      simp only [planOk, Bool.and_eq_true, decide_eq_true_eq] at hok
      refine quiet i pl hpl oi v ((i, v) :: pend) (i :: pk) hoi (by simpa using hok.1.1.1.1.1.2) hok.1.1.1.1.2 hok.1.1.1.2 hok.2 (fun _ h => List.mem_cons_of_mem _ h) (fun k u hm => ?_) hy (.inr ⟨List.mem_cons_self .., offLooks_spec hoi hoi hok.1.1.2⟩) hwp'
      rcases List.mem_cons.1 hm with e | hm
      · cases e; exact ⟨List.mem_cons_self .., hok.1.2⟩
      · exact ⟨List.mem_cons_of_mem _ (hpk k u hm).1, (hpk k u hm).2⟩
    | x i pl o =>
      clear quiet
      have hof : planOk ops ms false listed pk (.x i pl o) = true := by
        simp only [planOk, Bool.and_eq_true] at hok ⊢
        exact ⟨⟨⟨by simp, hok.1.1.2⟩, hok.1.2⟩, hok.2⟩
      have hri : Region.ready .any ops listed = (Pl.x i pl o).alts := by
        simp only [planOk, Bool.and_eq_true, Bool.not_true, Bool.false_or, decide_eq_true_eq] at hok
        exact hok.1.1.1
      have any : ∀ j, j ∈ Region.ready .any ops listed → ∃ (r : Pl) (oj : Oper), r.len = n ∧ ops[j]? = some oj ∧ planOk ops ms true (listed.setIfInBounds j true) (pk.filter fun k => !dep ms k j) r = true ∧ wpOp P ops Q j (fun a' w' => (∀ k u, (k, u) ∈ pend.filter (fun x => !dep ms x.1 j) → ∀ ok, ops[k]? = some ok → YW P ops ok u a' w') ∧ wpP P ops Q ms r (pend.filter (fun x => !dep ms x.1 j)) a' w') a w := by
        intro j hj
        obtain ⟨r, h1, h2, h3⟩ := alt_of (.x i pl o) n (by rw [← hri]; exact hj) hlen hof hwp
        obtain ⟨_, oj, hoj, _⟩ := mem_ready.1 hj
        exact ⟨r, oj, h1, hoj, h2, h3⟩
      have hne : Region.ready .any ops listed ≠ [] := by rw [hri]; simp [Pl.alts]
      induction m with
      | zero =>
        intro M L a0 hm h0 hw hf hp hcl
        have : M = [] := List.eq_nil_of_length_eq_zero hm
        subst this
        simp only [fin, puts] at hf hp
        subst hf; subst hp
        refine ⟨fun hr => (hne hr).elim, fun j hj => ?_⟩
        obtain ⟨r, oj, hrl, hoj, hok', hwj⟩ := any j hj
        refine wpOp_mono (fun a' w' h => ?_) hwj
        exact ih r hrl _ _ _ a' w' hok' h.2 (fun k u hm' => by
          obtain ⟨h1, h2⟩ := List.mem_filter.1 hm'
          exact ⟨List.mem_filter.2 ⟨(hpk k u h1).1, h2⟩, (hpk k u h1).2⟩) 0 [] _ a' rfl trivial trivial rfl rfl (hcl.set hj)
      | succ m ihm =>
        intro M L a0 hm h0 hw hf hp hcl
        refine ⟨fun hr => ?_, fun j hj => ?_⟩
        · have := good_ready hsel h0 hr
          subst this
          cases hm
        · by_cases hin : ∃ u, (j, u) ∈ M
          · obtain ⟨u, M', hpm, g0, gw, e1, e2⟩ := good_pull hsel h0 hw hj hin
            obtain ⟨⟨oj, hoj, _, _, _⟩, g1⟩ := g0
            refine YW.wpOp hoj (gw.1 oj hoj) ?_
            have hl := hpm.length_eq
            rw [← dstOf_eq hoj]
            refine ihm M' _ _ (by simp at hl; omega) g1 gw.2 (by rw [← hf, ← e2]; rfl) (by rw [← hp, ← e1]; rfl) (hcl.set hj)
          · have hj' := good_notMem hsel h0 hj hin
            rw [hf] at hj'
            obtain ⟨r, oi, hrl, hoi, hok', hwj⟩ := any j hj'
            have hap := good_apart hsel hoi h0 hj hin
            rw [← hp] at hwj
            refine wpOp_mono (fun a' w' h => ?_) (wpOp_sub hsel hoi hap hQ hwj)
            obtain ⟨⟨v, ds, e⟩, hpd, hwp'⟩ := h
            subst e
            obtain ⟨_, o', ho', hall'⟩ := mem_ready.1 hj
            rw [hoi] at ho'; cases ho'
            have hnd : ∀ k u, (k, u) ∈ M → (k, u) ∈ pend → (k, u) ∈ pend.filter (fun x => !dep ms x.1 j) := fun k u hm' hp' => by
              refine List.mem_filter.2 ⟨hp', ?_⟩
              cases hd : dep ms k j with
              | false => rfl
              | true =>
                have h1 := dep_closed hms hcl (hpk k u hp').2 j oi hoi hall' hd
                have h2 := unl_false (good_keys hsel h0 k u hm')
                rw [h1] at h2
                cases h2
            have g0 := good_put hsel hoi (v := v) (ds := ds) h0 hin hap hnd
            have e5 : (n + 1).add m = n + (m + 1) := by
              show n + 1 + m = _
              omega
            rw [e5]
            refine ih r hrl _ _ _ _ w' hok' hwp' (fun k u hm' => by
              obtain ⟨h1, h2⟩ := List.mem_filter.1 hm'
              exact ⟨List.mem_filter.2 ⟨(hpk k u h1).1, h2⟩, (hpk k u h1).2⟩) (m + 1) M _ _ hm g0 (good_back hsel g0 fun k u hm' hp' ok hk => hpd k u hp' ok hk) (by rw [fin_set hsel hin, hf]) rfl (hcl.set hj)

end
section
variable {P : Program} {ops : Array Oper} {Q : Exit → Act → World → Prop}
/-- A region that draws, by a plan. -/
theorem region_plan {id : Nat} {ms : List Nat} {pl : Pl} {a : Act} {w : World} (hm : P.follows .mixedOrders = true) (hsl : Region.noSelect ops = true) (hms : msOk ops ms = true) (hlen : pl.len = ops.size) (hok : planOk ops ms true (Array.replicate ops.size false) [] pl = true)
    (hQ : ∀ ch a a' w, a.defers = a'.defers → Q (.panic ch) a w → Q (.panic ch) a' w) (h : wpP P ops Q ms pl [] a { w with drawn := w.drawn + 1 }) : (Code.region id ops true).wp P Q a w := by
  have h1 := any_of_plan (Region.noSelect_spec hsl) hms hQ _ pl rfl [] [] _ a _ hok h (fun _ _ h => by cases h) 0 [] (Array.replicate ops.size false) a rfl trivial trivial rfl rfl (fun i oi hi hl => by
    have hlt : i < ops.size := (Array.getElem?_eq_some_iff.1 hi).1
    simp [hlt] at hl)
  rw [hlen] at h1
  exact wp_region_any hm h1

/-! ### The plan, in the judgement -/
variable {c : Cx} {l : TL} {H : List Asrt} {ms : List Nat} {pl o : Pl} {pend : List (Nat × Value)} {i : Nat}
variable {op : Op} {ty : TypeId} {pos : String} {af : Array Edge} {d : Nat} {v : Value} {dst : Option Tmp} {gd : Option (Nat × Bool)}

/-- Q says of a panic nothing of the temporaries. -/
def PanicFree (Q : Exit → Act → World → Prop) : Prop := ∀ ch a a' w, a.defers = a'.defers → Q (.panic ch) a w → Q (.panic ch) a' w
theorem PanicFree.body {fn : Func} {R : Ending → World → Prop} : PanicFree (bodyPost P fn R) := fun ch a a' w he h => ⟨he ▸ h.1, h.2⟩
theorem PanicFree.then_ {nx : Act → World → Prop} (h : PanicFree Q) : PanicFree (Exit.then nx Q) := h
theorem PanicFree.blk {id : Nat} (h : PanicFree Q) : PanicFree (Exit.inBlock id Q) := h

theorem J.draw {id : Nat} {os : List Oper} (ms : List Nat) (pl : Pl) (hm : P.follows .mixedOrders = true) (hQ : PanicFree Q) (hok : (Region.noSelect os.toArray && msOk os.toArray ms && decide (pl.len = os.toArray.size) && planOk os.toArray ms true (Array.replicate os.toArray.size false) [] pl) = true)
    (K : J c l H (wpP P os.toArray Q ms pl [])) : J c l H ((Code.region id os.toArray true).wp P Q) := J.mk fun a w s => by
  simp only [Bool.and_eq_true, decide_eq_true_eq] at hok
  exact region_plan hm hok.1.1.1 hok.1.1.2 hok.1.2 hok.2 hQ (K a _ ⟨s.1, s.2.1, s.2.2.drew⟩)

theorem J.pl_nil (K : J c l H (Q .normal)) : J c l H (wpP P ops Q ms .nil pend) := K
theorem J.pl_none : J c l H (wpP P ops Q ms .none pend) := J.mk fun a w s => trivial

theorem wanted_on {j dj : Nat} {b : Bool} {a : Act} {n : Nat} (r : TRel n l a) (hj : dstOf ops j = some dj) (hb : TL.get l dj = some (.bool b)) : Region.wanted ⟨dst, op, ty, pos, af, some (j, b)⟩ (yielded ops a.tmps) = true := by
  have h1 := r.get _ _ hb
  unfold dstOf at hj
  simp [Region.wanted, yielded, hj, h1]
/-- The guard of an operation: it is carried out, or not. -/
inductive Gd (l : TL) (ops : Array Oper) : Option (Nat × Bool) → Bool → Prop
  | none : Gd l ops none true
  | on {j dj b} (hj : dstOf ops j = some dj) (hb : TL.get l dj = some (.bool b)) : Gd l ops (some (j, b)) true
  | off {j dj b} {u : Value} (hj : dstOf ops j = some dj) (hb : TL.get l dj = some u) (hne : isB u b = false) : Gd l ops (some (j, b)) false
theorem Gd.wanted {t : Bool} (h : Gd l ops gd t) {a : Act} {n : Nat} (r : TRel n l a) : Region.wanted ⟨dst, op, ty, pos, af, gd⟩ (yielded ops a.tmps) = t := by
  cases h with
  | none => simp [Region.wanted]
  | on hj hb => exact wanted_on r hj hb
  | off hj hb hne => exact wanted_off r hj hb hne

theorem J.psplit0 {j dj : Nat} {b t : Bool} (hi : ops[i]? = some ⟨dst, op, ty, pos, af, some (j, b)⟩) (hj : dstOf ops j = some dj) (hb : TL.get l dj = some (.bool t))
    (K1 : t = true → J c ((dj, .bool true) :: l) H (wpP P ops Q ms (.p i pl) pend)) (K2 : t = false → J c ((dj, .bool false) :: l) H (wpP P ops Q ms (.p i pl) pend)) : J c l H (wpP P ops Q ms (.p i pl) pend) := J.split dj hb K1 K2
theorem J.psplit1 {j dj : Nat} {b t : Bool} (hi : ops[i]? = some ⟨dst, op, ty, pos, af, some (j, b)⟩) (hj : dstOf ops j = some dj) (hb : TL.get l dj = some (.bool t))
    (K1 : t = true → J c ((dj, .bool true) :: l) H (wpP P ops Q ms (.q i pl) pend)) (K2 : t = false → J c ((dj, .bool false) :: l) H (wpP P ops Q ms (.q i pl) pend)) : J c l H (wpP P ops Q ms (.q i pl) pend) := J.split dj hb K1 K2
theorem J.psplit2 {j dj : Nat} {b t : Bool} (hi : ops[i]? = some ⟨dst, op, ty, pos, af, some (j, b)⟩) (hj : dstOf ops j = some dj) (hb : TL.get l dj = some (.bool t))
    (K1 : t = true → J c ((dj, .bool true) :: l) H (wpP P ops Q ms (.x i pl o) pend)) (K2 : t = false → J c ((dj, .bool false) :: l) H (wpP P ops Q ms (.x i pl o) pend)) : J c l H (wpP P ops Q ms (.x i pl o) pend) := J.split dj hb K1 K2

/-- A pure one. -/
theorem J.pl0 (hi : ops[i]? = some ⟨some d, op, ty, pos, af, gd⟩) (hg : Gd l ops gd true) (hd : Nat.blt d c.n = true) (hv : Qv P c.n l op v) (K : J c ((d, v) :: l) H (wpP P ops Q ms pl pend)) : J c l H (wpP P ops Q ms (.p i pl) pend) := J.mk fun a w s =>
  ⟨_, v, hi, .inl ⟨hg.wanted s.1, fun w => hv a w (some d) ty pos af s.1⟩, K _ _ ⟨s.1.put hd, s.2.1, s.2.2⟩⟩
theorem J.pl0_off (hi : ops[i]? = some ⟨some d, op, ty, pos, af, gd⟩) (hg : Gd l ops gd false) (hd : Nat.blt d c.n = true) (K : J c ((d, undef) :: l) H (wpP P ops Q ms pl pend)) : J c l H (wpP P ops Q ms (.p i pl) pend) := J.mk fun a w s =>
  ⟨_, undef, hi, .inr ⟨hg.wanted s.1, rfl⟩, K _ _ ⟨s.1.put hd, s.2.1, s.2.2⟩⟩
/-- One that reads. -/
theorem J.pl1 (hi : ops[i]? = some ⟨some d, op, ty, pos, af, gd⟩) (hg : Gd l ops gd true) (hd : Nat.blt d c.n = true) (hv : Qr P c l H op v) (K : J c ((d, v) :: l) H (wpP P ops Q ms pl ((i, v) :: pend))) : J c l H (wpP P ops Q ms (.q i pl) pend) := J.mk fun a w s =>
  ⟨_, v, hi, .inl ⟨hg.wanted s.1, hv a w (some d) ty pos af s⟩, K _ _ ⟨s.1.put hd, s.2.1, s.2.2⟩⟩
theorem J.pl1_off (hi : ops[i]? = some ⟨some d, op, ty, pos, af, gd⟩) (hg : Gd l ops gd false) (hd : Nat.blt d c.n = true) (K : J c ((d, undef) :: l) H (wpP P ops Q ms pl ((i, undef) :: pend))) : J c l H (wpP P ops Q ms (.q i pl) pend) := J.mk fun a w s =>
  ⟨_, undef, hi, .inr ⟨hg.wanted s.1, rfl⟩, K _ _ ⟨s.1.put hd, s.2.1, s.2.2⟩⟩
/-- What is owed of the loads behind a loud one. -/
def owed (P : Program) (ops : Array Oper) (pend : List (Nat × Value)) (G : Act → World → Prop) (a : Act) (w : World) : Prop := (∀ k u, (k, u) ∈ pend → ∀ ok, ops[k]? = some ok → YW P ops ok u a w) ∧ G a w
theorem J.owe_nil {G : Act → World → Prop} (K : J c l H G) : J c l H (owed P ops [] G) := J.mk fun a w s => ⟨fun _ _ h => (by cases h), K a w s⟩
theorem J.owe {k : Nat} {u : Value} {G : Act → World → Prop} (hk : ops[k]? = some ⟨some d, op, ty, pos, af, gd⟩) (hg : Gd l ops gd true) (hv : Qr P c l H op u) (K : J c l H (owed P ops pend G)) : J c l H (owed P ops ((k, u) :: pend) G) := J.mk fun a w s => by
  obtain ⟨h1, h2⟩ := K a w s
  refine ⟨fun k' u' hm ok hok => ?_, h2⟩
  rcases List.mem_cons.1 hm with e | hm
  · cases e
    rw [hk] at hok; cases hok
    exact .inl ⟨hg.wanted s.1, hv a w (some d) ty pos af s⟩
  · exact h1 k' u' hm ok hok
theorem J.owe_off {k : Nat} {G : Act → World → Prop} (hk : ops[k]? = some ⟨some d, op, ty, pos, af, gd⟩) (hg : Gd l ops gd false) (K : J c l H (owed P ops pend G)) : J c l H (owed P ops ((k, undef) :: pend) G) := J.mk fun a w s => by
  obtain ⟨h1, h2⟩ := K a w s
  refine ⟨fun k' u' hm ok hok => ?_, h2⟩
  rcases List.mem_cons.1 hm with e | hm
  · cases e
    rw [hk] at hok; cases hok
    exact .inr ⟨hg.wanted s.1, rfl⟩
  · exact h1 k' u' hm ok hok

/-- What is still pending behind operation i. -/
inductive PendF (ms : List Nat) (i : Nat) : List (Nat × Value) → List (Nat × Value) → Prop
  | nil : PendF ms i [] []
  | keep {k u p p'} (h : dep ms k i = false) (hp : PendF ms i p p') : PendF ms i ((k, u) :: p) ((k, u) :: p')
  | gone {k u p p'} (h : dep ms k i = true) (hp : PendF ms i p p') : PendF ms i ((k, u) :: p) p'
theorem PendF.eq {p p' : List (Nat × Value)} (h : PendF ms i p p') : p.filter (fun x => !dep ms x.1 i) = p' := by
  induction h with
  | nil => rfl
  | keep h _ ih => simp [h, ih]
  | gone h _ ih => simp [h, ih]
/-- A loud one: its rule as an operation; behind it what is owed. -/
theorem J.pl2 {pend' : List (Nat × Value)} (hi : ops[i]? = some ⟨dst, op, ty, pos, af, gd⟩) (hg : Gd l ops gd true) (hp : PendF ms i pend pend')
    (K : J c l H (OW P Q ⟨dst, op, ty, pos, af, none⟩ (owed P ops pend' (wpP P ops Q ms pl pend')))) (K2 : J c l H (wpP P ops Q ms o pend)) : J c l H (wpP P ops Q ms (.x i pl o) pend) := J.mk fun a w s => by
  obtain rfl := hp.eq
  refine ⟨?_, K2 a w s⟩
  unfold wpOp
  simp only [hi]
  rw [if_pos (hg.wanted s.1)]
  exact .inl (K a w s)
theorem J.pl2_off {pend' : List (Nat × Value)} (hi : ops[i]? = some ⟨some d, op, ty, pos, af, gd⟩) (hg : Gd l ops gd false) (hd : Nat.blt d c.n = true) (hp : PendF ms i pend pend')
    (K : J c ((d, undef) :: l) H (owed P ops pend' (wpP P ops Q ms pl pend'))) (K2 : J c l H (wpP P ops Q ms o pend)) : J c l H (wpP P ops Q ms (.x i pl o) pend) := J.mk fun a w s => by
  obtain rfl := hp.eq
  refine ⟨?_, K2 a w s⟩
  unfold wpOp
  simp only [hi]
  rw [if_neg (by rw [hg.wanted s.1]; simp)]
  exact K _ _ ⟨s.1.put hd, s.2.1, s.2.2⟩
theorem J.pl2_off_none {pend' : List (Nat × Value)} (hi : ops[i]? = some ⟨none, op, ty, pos, af, gd⟩) (hg : Gd l ops gd false) (hp : PendF ms i pend pend')
    (K : J c l H (owed P ops pend' (wpP P ops Q ms pl pend'))) (K2 : J c l H (wpP P ops Q ms o pend)) : J c l H (wpP P ops Q ms (.x i pl o) pend) := J.mk fun a w s => by
  obtain rfl := hp.eq
  refine ⟨?_, K2 a w s⟩
  unfold wpOp
  simp only [hi]
  rw [if_neg (by rw [hg.wanted s.1]; simp)]
  exact K _ _ ⟨s.1.put_none, s.2.1, s.2.2⟩
end
end Go.Proofs.Ytnbckkpflmpnlaa.Eng
