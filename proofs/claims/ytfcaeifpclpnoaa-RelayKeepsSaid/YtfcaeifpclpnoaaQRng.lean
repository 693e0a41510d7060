/-
  Ranges over functions, for every iterator that keeps its word; code that is walked inside a round by the same rules as outside. No conditions.
-/
import Derived.RangeFuncNested
import Derived.RangeFuncBound
import Derived.RangeFuncCalls
import Derived.RangeFuncLeaves
import Derived.Shelf.Abstract
import Derived.Shelf.RegionOpen
import Derived.WalkKit
import Derived.OwnWalkIn
import Derived.TacticsInMore
import Derived.LoopNIn
import Derived.LoopIn
import Derived.RangeFuncFrom
import Derived.Test.YtfcaeifpclpnoaaQRd
namespace Go.Proofs.Ytfcaeifpclpnoaa.Eng
open Go Go.RowKit Go.Shelf
set_option linter.unusedVariables false
set_option linter.unusedSectionVars false
set_option maxRecDepth 100000
set_option maxHeartbeats 2000000

abbrev rnd (ll : Nat) : Fence := Fence.wide.inRound ll

/-! ### Code by its shape -/
def rndsC (X : (Exit → Act → World → Prop) → Act → World → Prop) (Q : Exit → Act → World → Prop) : Nat → Act → World → Prop
  | 0 => fun _ _ => False
  | k + 1 => X (Exit.then (rndsC X Q k) Q)
def wpc (P : Program) : Code → (Exit → Act → World → Prop) → Act → World → Prop
  | .skip, Q => Q .normal
  | .exit id, Q => Q (.exit id)
  | .ret, Q => Q .ret
  | .seq x y, Q => wpc P x (Exit.then (wpc P y Q) Q)
  | .block id x, Q => wpc P x (Exit.inBlock id Q)
  | .cond c x y, Q => fun a w => ∃ t, a.eval c = .bool t ∧ (bif t then wpc P x Q a w else wpc P y Q a w)
  | .loop x, Q => fun a w => ∃ n, rndsC (wpc P x) Q n a w
  | .region _ ops false, Q => wpList P ops Q ops.toList
  | .region _ ops true, Q => fun a w => wpAny P .any ops Q ops.size (Array.replicate ops.size false) a { w with drawn := w.drawn + 1 }
  | _, _ => fun _ _ => False
def noDefer (o : Oper) : Bool := match o.op with
  | .defer _ => false
  | _ => true
def okC : Code → Bool
  | .skip | .exit _ | .ret => true
  | .seq x y => okC x && okC y
  | .block _ x => okC x
  | .cond _ x y => okC x && okC y
  | .loop x => okC x
  | .region _ ops _ => ops.toList.all noDefer
  | _ => false

section
variable {P : Program} {Q : Exit → Act → World → Prop} {ll n : Nat}
theorem noDefer_ne {o : Oper} (h : noDefer o = true) : ∀ c, o.op ≠ .defer c := fun c e => by
  unfold noDefer at h
  rw [e] at h
  cases h
theorem fenced_rnd (m : Machine) : m.fenced P (rnd ll) := fenced_wide P m
theorem stepsIn_rnd {m m' : Machine} : StepsIn (Machine.fenced P (rnd ll)) P m m' ↔ Steps P m m' := stepsIn_wide
theorem upon_rnd {o : Oper} {a : Act} {X : Act → World → Prop} {r : Result Next} (h : o.upon P a X Q r) : o.uponIn (rnd ll) n P a X Q r := by
  cases r with
  | ok v w =>
    cases v with
    | value v => exact h
    | skip => exact h
    | defer d => exact h
    | enter f args => exact ⟨fun h => by simp [Fence.wide] at h, callsIn_wide.2 h⟩
    | row row args => exact ⟨fun h => by simp [Fence.wide] at h, fun c cs _ => let ⟨v, w', r, s⟩ := h c cs; ⟨v, w', r, stepsIn_rnd.2 s⟩⟩
    | round m f t x y => exact h.elim
    | _ => exact h
  | halt e w => cases e <;> exact h
theorem wp_rnd {o : Oper} {a : Act} {w : World} {X : Act → World → Prop} (hd : noDefer o = true) (h : o.wp P a w X Q) : o.wpIn (rnd ll) n P a w X Q := by
  refine ⟨fun _ _ => trivial, ?_⟩
  rw [Oper.semAt_eq _ _ _ (noDefer_ne hd)]
  exact upon_rnd h
def NoOut (Q : Exit → Act → World → Prop) : Prop := ∀ a w, ¬ Q .outgrown a w
theorem wpList_rnd {ops : Array Oper} (hQ : NoOut Q) : ∀ {l : List Oper} {a : Act} {w : World}, l.all noDefer = true → wpList P ops Q l a w → wpListIn (rnd ll) n P ops Q l a w
  | [], a, w, _, h => h
  | o :: l, a, w, hd, h => by
    simp only [List.all_cons, Bool.and_eq_true] at hd
    unfold wpList at h
    unfold wpListIn
    split
    · rename_i hw
      rw [if_pos hw] at h
      rcases h with h | ⟨_, a', w', h⟩
      · exact Oper.wpIn_mono (fun a w => wpList_rnd hQ hd.2) (wp_rnd hd.1 h)
      · exact absurd h (hQ a' w')
    · rename_i hw
      rw [if_neg hw] at h
      exact ⟨fun _ _ => trivial, wpList_rnd hQ hd.2 h⟩
theorem wpOp_rnd {ops : Array Oper} (hQ : NoOut Q) {i : Nat} {K K' : Act → World → Prop} {a : Act} {w : World} (hd : ops.toList.all noDefer = true) (hK : ∀ a w, K a w → K' a w) (h : wpOp P ops Q i K a w) : wpOpIn (rnd ll) n P ops Q i K' a w := by
  unfold wpOp at h
  unfold wpOpIn
  cases hi : ops[i]? with
  | none => rw [hi] at h; exact hK _ _ h
  | some o =>
    rw [hi] at h
    simp only at h ⊢
    have hdo : noDefer o = true := List.all_eq_true.1 hd o (by
      have := Array.mem_of_getElem? hi
      simpa using this)
    split
    · rename_i hw
      rw [if_pos hw] at h
      rcases h with h | ⟨_, a', w', h⟩
      · exact Oper.wpIn_mono hK (wp_rnd hdo h)
      · exact absurd h (hQ a' w')
    · rename_i hw
      rw [if_neg hw] at h
      exact ⟨fun _ _ => trivial, hK _ _ h⟩
theorem wpAny_rnd {ops : Array Oper} (hQ : NoOut Q) (hd : ops.toList.all noDefer = true) : ∀ {fuel : Nat} {listed : Array Bool} {a : Act} {w : World}, wpAny P .any ops Q fuel listed a w → wpAnyIn (rnd ll) n P .any ops Q fuel listed a w
  | 0, _, _, _, h => h
  | fuel + 1, listed, a, w, h => ⟨h.1, fun i hi => wpOp_rnd hQ hd (fun a w => wpAny_rnd hQ hd) (h.2 i hi)⟩
theorem NoOut.then_ {X : Act → World → Prop} (h : NoOut Q) : NoOut (Exit.then X Q) := h
theorem NoOut.blk {id : Nat} (h : NoOut Q) : NoOut (Exit.inBlock id Q) := h
/-- In a round. -/
theorem wpc_rnd (hm : P.follows .mixedOrders = true) : ∀ {c : Code} {Q Q' : Exit → Act → World → Prop} {a : Act} {w : World}, okC c = true → NoOut Q → (∀ e a w, Q e a w → Q' e a w) → wpc P c Q a w → c.wpIn (rnd ll) n P Q' a w
  | .skip, Q, Q', a, w, _, _, hq, h => wpIn_skip (hq _ _ _ h)
  | .exit id, Q, Q', a, w, _, _, hq, h => wpIn_exit (hq _ _ _ h)
  | .ret, Q, Q', a, w, _, _, hq, h => wpIn_ret (hq _ _ _ h)
  | .seq x y, Q, Q', a, w, hk, hQ, hq, h => by
    simp only [okC, Bool.and_eq_true] at hk
    refine wpIn_seq (wpc_rnd hm (Q := Exit.then (wpc P y Q) Q) hk.1 hQ.then_ (fun e a w he => ?_) h)
    cases e with
    | normal => exact wpc_rnd hm hk.2 hQ hq he
    | _ => exact hq _ _ _ he
  | .block id x, Q, Q', a, w, hk, hQ, hq, h => wpIn_block (wpc_rnd hm (c := x) (Q := Exit.inBlock id Q) hk hQ.blk (fun e a w he => by
      cases e with
      | exit id' =>
        simp only [Exit.inBlock] at he ⊢
        split at he
        · rename_i e; rw [if_pos e]; exact hq _ _ _ he
        · rename_i e; rw [if_neg e]; exact hq _ _ _ he
      | _ => exact hq _ _ _ he) h)
  | .cond c x y, Q, Q', a, w, hk, hQ, hq, h => by
    simp only [okC, Bool.and_eq_true] at hk
    obtain ⟨t, h1, h2⟩ := h
    cases t with
    | true => exact wpIn_cond_true h1 (wpc_rnd hm hk.1 hQ hq h2)
    | false => exact wpIn_cond_false h1 (wpc_rnd hm hk.2 hQ hq h2)
  | .loop x, Q, Q', a, w, hk, hQ, hq, h => by
    obtain ⟨k, h⟩ := h
    have hk' : okC x = true := hk
    refine wpIn_loop_rounds k ?_
    have key : ∀ k a w, rndsC (wpc P x) Q k a w → Code.roundsIn (rnd ll) n P x Q' k a w := by
      intro k
      induction k with
      | zero => intro a w h; exact h.elim
      | succ k ih =>
        intro a w h
        exact wpc_rnd hm (Q := Exit.then (rndsC (wpc P x) Q k) Q) hk' hQ.then_ (fun e a w he => by
          cases e with
          | normal => exact ih _ _ he
          | _ => exact hq _ _ _ he) h
    exact key k a w h
  | .region id ops false, Q, Q', a, w, hk, hQ, hq, h => wpIn_mono (wpIn_region_list (wpList_rnd hQ hk h)) hq
  | .region id ops true, Q, Q', a, w, hk, hQ, hq, h => wpIn_mono (wpIn_region_any hm (wpAny_rnd hQ hk h)) hq
  | .rangeFunc .., _, _, _, _, _, _, _, h => h.elim
  | .scope _, _, _, _, _, _, _, _, h => h.elim
  | .label _, _, _, _, _, _, _, _, h => h.elim
  | .goto _, _, _, _, _, _, _, _, h => h.elim
  | .refuse _, _, _, _, _, _, _, _, h => h.elim
end

/-! ### Its rules in the judgement -/
section
variable {P : Program} {c : Cx} {l : TL} {H : List Asrt} {Q : Exit → Act → World → Prop}
theorem JC.seq {x y : Code} (K : J c l H (wpc P x (Exit.then (wpc P y Q) Q))) : J c l H (wpc P (Code.seq x y) Q) := J.mk fun a w s => by
  unfold wpc
  exact K a w s
theorem JC.skip (K : J c l H (Q .normal)) : J c l H (wpc P Code.skip Q) := J.mk fun a w s => by
  unfold wpc
  exact K a w s
theorem JC.exit {id : Nat} (K : J c l H (Q (.exit id))) : J c l H (wpc P (Code.exit id) Q) := J.mk fun a w s => by
  unfold wpc
  exact K a w s
theorem JC.ret (K : J c l H (Q .ret)) : J c l H (wpc P Code.ret Q) := J.mk fun a w s => by
  unfold wpc
  exact K a w s
theorem JC.block {id : Nat} {x : Code} (K : J c l H (wpc P x (Exit.inBlock id Q))) : J c l H (wpc P (Code.block id x) Q) := J.mk fun a w s => by
  unfold wpc
  exact K a w s
theorem JC.cond_true {x : Operand} {y z : Code} (hx : ev l x = some (.bool true)) (K : J c l H (wpc P y Q)) : J c l H (wpc P (Code.cond x y z) Q) := J.mk fun a w s => by
  unfold wpc
  exact ⟨true, s.1.ev hx, K a w s⟩
theorem JC.cond_false {x : Operand} {y z : Code} (hx : ev l x = some (.bool false)) (K : J c l H (wpc P z Q)) : J c l H (wpc P (Code.cond x y z) Q) := J.mk fun a w s => by
  unfold wpc
  exact ⟨false, s.1.ev hx, K a w s⟩
theorem JC.cond {x : Nat} {y z : Code} {t : Bool} (hx : TL.get l x = some (.bool t)) (K1 : t = true → J c ((x, .bool true) :: l) H (wpc P y Q)) (K2 : t = false → J c ((x, .bool false) :: l) H (wpc P z Q)) : J c l H (wpc P (Code.cond (.tmp x) y z) Q) := J.mk fun a w s => by
  have hev : ev l (.tmp x) = some (.bool t) := hx
  unfold wpc
  refine ⟨t, s.1.ev hev, ?_⟩
  cases t with
  | true => exact K1 rfl a w (s.sub (sub.cons hx fun _ _ h => h))
  | false => exact K2 rfl a w (s.sub (sub.cons hx fun _ _ h => h))
theorem JC.region_lit {id : Nat} {os : List Oper} (K : J c l H (wpList P os.toArray Q os)) : J c l H (wpc P (Code.region id os.toArray false) Q) := J.mk fun a w s => by
  unfold wpc
  exact K a w s
theorem JC.draw {id : Nat} {os : List Oper} (ms : List Nat) (pl : Pl) (hm : P.follows .mixedOrders = true) (hQ : PanicFree Q) (hok : (Region.noSelect os.toArray && msOk os.toArray ms && decide (pl.len = os.toArray.size) && planOk os.toArray ms true (Array.replicate os.toArray.size false) [] pl) = true)
    (K : J c l H (wpP P os.toArray Q ms pl [])) : J c l H (wpc P (Code.region id os.toArray true) Q) := J.mk fun a w s => by
  simp only [Bool.and_eq_true, decide_eq_true_eq] at hok
  obtain ⟨⟨⟨hsl, hms⟩, hlen⟩, hpl⟩ := hok
  have h1 := any_of_plan (Region.noSelect_spec hsl) hms hQ _ pl rfl [] [] _ a _ hpl (K a { w with drawn := w.drawn + 1 } ⟨s.1, s.2.1, s.2.2.drew⟩) (fun _ _ h => by cases h) 0 [] (Array.replicate os.toArray.size false) a rfl trivial trivial rfl rfl (fun i oi hi hl => by
    have hlt : i < os.toArray.size := (Array.getElem?_eq_some_iff.1 hi).1
    simp only [Array.getD_eq_getD_getElem?, Array.getElem?_replicate] at hl
    rw [if_pos hlt] at hl
    cases hl)
  rw [hlen] at h1
  unfold wpc
  exact h1
theorem JC.rounds {x : Code} (k : Nat) (K : J c l H (rndsC (wpc P x) Q k)) : J c l H (wpc P (Code.loop x) Q) := J.mk fun a w s => by
  unfold wpc
  exact ⟨k, K a w s⟩
theorem JC.round {x : Code} {k : Nat} (K : J c l H (wpc P x (Exit.then (rndsC (wpc P x) Q k) Q))) : J c l H (rndsC (wpc P x) Q (k + 1)) := K
/-- A loop by its state: as many rounds as are left. -/
theorem JC.loopI {σ : Type} {x : Code} {R : List Asrt} (I : σ → Prop) (L : σ → TL) (HH : σ → List Asrt) (m : σ → Nat) (s0 : σ) (hI : I s0) (hs : Eng.sub l (L s0)) (ho : Outs (HH s0) H R)
    (round : ∀ (n : Nat) (s : σ), m s < n + 1 → I s → (∀ s', m s' < m s → I s' → J c (L s') (HH s') (rndsC (wpc P x) Q n)) → J c (L s) (HH s) (wpc P x (Exit.then (rndsC (wpc P x) Q n) Q))) : J c l H (wpc P (Code.loop x) Q) := by
  have key : ∀ (n : Nat) (s : σ), m s < n → I s → J c (L s) (HH s) (rndsC (wpc P x) Q n) := by
    intro n
    induction n with
    | zero => intro s h; omega
    | succ n ih => exact fun s h hI => J.mk fun a w hs => (round n s h hI (fun s' h' hI' => ih s' (by omega) hI')).out a w hs
  exact JC.rounds (m s0 + 1) (J.mk fun a w s => (key _ s0 (by omega) hI).out a w (s.to hs ho))
theorem JC.againI {σ : Type} {x : Code} {I : σ → Prop} {L : σ → TL} {HH : σ → List Asrt} {m : σ → Nat} {s : σ} {n : Nat} {R : List Asrt} (hK : ∀ s', m s' < m s → I s' → J c (L s') (HH s') (rndsC (wpc P x) Q n)) (s' : σ) (hm : m s' < m s) (hI : I s') (hs : Eng.sub l (L s')) (ho : Outs (HH s') H R) :
    J c l H (rndsC (wpc P x) Q n) := J.mk fun a w st => (hK s' hm hI).out a w (st.to hs ho)
end

/-! ### What is no cells -/
def obj (b : Nat) (o : Obj) : Asrt where
  holds h fp := fp = [b] ∧ h b = some o
  loc h h' fp he := by
    rintro ⟨rfl, hb⟩
    exact ⟨rfl, (he b (by simp)).trans hb⟩
theorem sat_obj {w0 : World} {own : List Nat} {H : List Asrt} {w : World} {b : Nat} {o : Obj} (h : Sat w0 own H w) (hm : In (obj b o) H) : w.heap[b]? = some o := by
  obtain ⟨fp, ⟨_, h1⟩, _⟩ := h.mem hm.mem
  exact h1
theorem sat_reobj {w0 : World} {own : List Nat} {H : List Asrt} {w : World} {b : Nat} {o : Obj} (o' : Obj) (h : Sat w0 own (obj b o :: H) w) : Sat w0 own (obj b o' :: H) (w.putObj b o') := by
  have hb := sat_obj h .here
  have hlt := (Array.getElem?_eq_some_iff.1 hb).1
  refine h.turn rfl rfl rfl (by simp [World.putObj]) fun fp hq => ?_
  obtain ⟨rfl, h1⟩ := hq
  exact ⟨⟨rfl, World.putObj_heap_same hlt⟩, fun i hi => World.putObj_heap_other (by simp at hi; omega)⟩

/-- What can't be. -/
def falseA : Asrt where
  holds _ _ := False
  loc _ _ _ _ h := h
theorem J.absurd_ {c : Cx} {l : TL} {H : List Asrt} {G : Act → World → Prop} (hm : In falseA H) : J c l H G := J.mk fun a w s => by
  obtain ⟨fp, h, _⟩ := s.2.2.mem hm.mem
  exact h.elim
/-- How a round may be left: it goes on, or the function is left. -/
def lvS {σ : Type} (w0 : World) (own : List Nat) (I : Nat → σ → Prop) (HH : Nat → σ → List Asrt) (HX O : List Asrt) (k : Nat) : Exit → Act → World → Prop
  | .normal, _, w => ∃ s, I k s ∧ Sat w0 own (O ++ HH k s) w
  | .ret, _, w => Sat w0 own (O ++ HX) w
  | _, _, _ => False

/-- The slots of a round's parameters. -/
def putSl : List Nat → List Value → TL → TL
  | p :: ps, v :: vs, l => putSl ps vs ((p, v) :: l)
  | _, _, l => l
theorem TRel.putSl {n : Nat} : ∀ {ps : List Nat} {vs : List Value} {l : TL} {a : Act}, TRel n l a → (ps.all fun p => Nat.blt p n) = true → TRel n (Eng.putSl ps vs l) { a with tmps := (ps.zip vs).foldl (fun tmps (x : Nat × Value) => tmps.setIfInBounds x.1 x.2) a.tmps }
  | [], _, l, a, h, _ => by simpa [Eng.putSl] using h
  | p :: ps, [], l, a, h, _ => by simpa [Eng.putSl] using h
  | p :: ps, v :: vs, l, a, h, hp => by
    simp only [List.all_cons, Bool.and_eq_true] at hp
    have h1 := h.put (d := p) (v := v) hp.1
    have h2 := TRel.putSl (ps := ps) (vs := vs) h1 hp.2
    simpa [Eng.putSl, Act.put] using h2

/-- An iterator keeps its word: N rounds at most, with these arguments, while its own cells stand; F k: what they are with k rounds to go. -/
def Iter (P : Program) (f : Nat) (caps : List Value) (N : Nat) (args : Nat → List Value) (F : Nat → World → Prop) : Prop :=
  ∀ (ll : Nat) (I : Nat → World → Prop) (Ix : World → Prop) (W : World), (∀ k W, I k W → F k W) → (∀ k W, I k W → I k { W with drawn := W.drawn + 1 }) →
    (∀ k W, k < N → I (k + 1) W → YieldAt Fence.wide 5 P ll (args k).toArray W fun e W' => (e = .returned (.bool true) ∧ I k W') ∨ (e = .returned (.bool false) ∧ Ix W')) → I N W →
    CallsIn Fence.wide 6 P f (#[.func (.yield ll) #[] #[]] ++ caps.toArray) W fun e W' => (∃ v, e = .returned v) ∧ (I 0 W' ∨ Ix W')

theorem J.rangeG {P : Program} {w0 : World} {own : List Nat} {n : Nat} {l : TL} {H R : List Asrt} {g : Nat} {ps : List Nat} {assign body : Code} {Q : Exit → Act → World → Prop} {σ : Type} {fb : Nat} {caps : List Value} {N : Nat} {args : Nat → List Value} {F : Nat → World → Prop} [ent : Enters P fb]
    (hIt : Iter P fb caps N args F) (I : Nat → σ → Prop) (HH : Nat → σ → List Asrt) (HX : List Asrt) (L1 : Nat → TL) (s0 : σ)
    (hg : TL.get l g = some (.func (.func fb) #[] caps.toArray)) (hps : (ps.all fun p => Nat.blt p n) = true) (hlen : ∀ k, (args k).length = ps.length)
    (hF : ∀ k s W, I k s → Sat w0 own (HH k s) W → F k W) (hI : I N s0) (ho : Outs (HH N s0) H R) (hm : P.follows .mixedOrders = true) (hka : okC assign = true) (hkb : okC body = true)
    (hassign : ∀ k A, J ⟨w0, own, n, []⟩ (putSl ps (args k) l) A (wpc P assign (Exit.then (fun a w => St ⟨w0, own, n, []⟩ (L1 k) A a w) (fun _ _ _ => False))))
    (hbody : ∀ ll D rc k s, k < N → I (k + 1) s → J ⟨w0, own, n, []⟩ (L1 k) (obj ll (.loop rc) :: obj D (.deferred (some [])) :: HH (k + 1) s) (wpc P body (lvS w0 own I HH HX [obj ll (.loop rc), obj D (.deferred (some []))] k)))
    (hdone : ∀ s, I 0 s → ∀ D, J ⟨w0, own, n, [{ target := .collected D, args := #[] }]⟩ l (obj D (.deferred (some [])) :: HH 0 s) (Q .normal))
    (hstop : ∀ D, J ⟨w0, own, n, [{ target := .collected D, args := #[] }]⟩ l (obj D (.deferred (some [])) :: HX) (Q .ret)) :
    J ⟨w0, own, n, []⟩ l H ((Code.rangeFunc (.tmp g) ps.toArray assign body).wp P Q) := J.mk fun a w s => (wpIn_wide (n := 7)).1 <| wpIn_rangeFunc fun fn _ => by
  have hds : a.defers = [] := s.2.1
  let rc : LoopState → Option Code → Loop := fun st pe => { state := st, pending := pe, fn, tmps := a.tmps, params := ps.toArray, assign, body, defers := w.heap.size }
  have s4 : Sat w0 own (HH N s0) w := Sat.drops (H' := R) ((s.2.2.perm ho.perm).perm List.perm_append_comm)
  have s5 := s4.new (.deferred (some [])) (obj w.heap.size (.deferred (some []))) (fun h' hh => ⟨rfl, hh⟩)
  have s6 := s5.new (.loop (rc .ready none)) (obj (w.heap.size + 1) (.loop (rc .ready none))) (fun h' hh => by rw [World.size_alloc] at hh ⊢; exact ⟨rfl, hh⟩)
  have hev : a.eval (.tmp g) = .func (.func fb) #[] caps.toArray := s.1.ev hg
  refine ⟨w.heap.size + 1, [{ target := .collected w.heap.size, args := #[] }], ((w.alloc (.deferred (some []))).alloc (.loop (rc .ready none))), { target := .fn (.func fb) caps.toArray, args := #[.func (.yield (w.heap.size + 1)) #[] #[]] }, ((w.alloc (.deferred (some []))).alloc (.loop (rc .ready none))), fb,
    #[.func (.yield (w.heap.size + 1)) #[] #[]] ++ caps.toArray, ((w.alloc (.deferred (some []))).alloc (.loop (rc .ready none))), run_enterLoop_outer _ _ _ _ _, ?_, fun _ _ => trivial, ?_, fun h => (by simp [Fence.wide] at h), ?_⟩
  · simp only [resolve, hev]
    simp [go_sem]
  · simp [invoke, ent.run]
  have key := hIt (w.heap.size + 1)
    (fun k W => ∃ s, I k s ∧ Sat w0 own (obj (w.heap.size + 1) (.loop (rc .ready none)) :: obj w.heap.size (.deferred (some [])) :: HH k s) W)
    (fun W => Sat w0 own (obj (w.heap.size + 1) (.loop (rc .done (some .ret))) :: obj w.heap.size (.deferred (some [])) :: HX) W)
    _ (fun k W ⟨s, hi, hS⟩ => hF k s W hi hS.drop.drop) (fun k W ⟨s, hi, hS⟩ => ⟨s, hi, hS.drew⟩) ?_ ⟨s0, hI, s6⟩
  · refine key.mono ?_
    rintro e W2 ⟨⟨v, rfl⟩, (⟨s', hi, hS⟩ | hS)⟩
    · have hend := run_endLoop (P := P) (sat_obj hS .here) (by simp [rc])
      exact ⟨none, _, hend, (hdone s' hi _).out _ _ ⟨⟨s.1.size, s.1.get⟩, by rw [hds]; rfl, (sat_reobj _ hS).drop⟩⟩
    · have hend := run_endLoop (P := P) (sat_obj hS .here) (by simp [rc])
      exact ⟨some .ret, _, hend, wpIn_ret ((hstop _).out _ _ ⟨⟨s.1.size, s.1.get⟩, by rw [hds]; rfl, (sat_reobj _ hS).drop⟩)⟩
  · rintro k W hk ⟨s', hi, hS⟩
    have hl := sat_obj hS .here
    have t2 := s.1.putSl (ps := ps) (vs := args k) hps
    have hz : (ps.toArray.zip (args k).toArray).foldl (fun tmps (x : Nat × Value) => tmps.setIfInBounds x.1 x.2) a.tmps = (ps.zip (args k)).foldl (fun tmps (x : Nat × Value) => tmps.setIfInBounds x.1 x.2) a.tmps := by
      simp
    refine ⟨fn, _, assign, body, run_yield hl (by simp [rc, hlen k]), roundIn_of_wpIn trivial (wpc_rnd hm hka (fun a w h => h) (fun e a1 w1 hq => ?_) ((hassign k (obj (w.heap.size + 1) (.loop (rc .ready none)) :: obj w.heap.size (.deferred (some [])) :: HH (k + 1) s')).out _ W ⟨⟨by simpa [rc, hz] using t2.size, fun d v hd => by simpa [rc, hz] using t2.get d v hd⟩, rfl, hS⟩))⟩
    cases e with
    | normal =>
      have hl1 := sat_obj hq.2.2 .here
      refine ⟨_, run_beginRound hl1 rfl, wpc_rnd hm hkb (fun a w h => h) (fun e2 a2 w2 hq2 => ?_) ((hbody (w.heap.size + 1) w.heap.size { rc .ready none with state := .busy } k s' hk hi).out a1 _ ⟨hq.1, hq.2.1, sat_reobj _ hq.2.2⟩)⟩
      cases e2 with
      | normal =>
        obtain ⟨s2, hi2, hS2⟩ := hq2
        exact ⟨_, _, run_endRound none (sat_obj hS2 .here), .inl ⟨rfl, s2, hi2, sat_reobj _ hS2⟩⟩
      | ret => exact ⟨_, _, run_endRound (some .ret) (sat_obj hq2 .here), .inr ⟨rfl, sat_reobj _ hq2⟩⟩
      | exit id => exact hq2.elim
      | goto t => exact hq2.elim
      | panic ch => exact hq2.elim
      | outgrown => exact hq2.elim
    | ret => exact hq.elim
    | exit id => exact hq.elim
    | goto t => exact hq.elim
    | panic ch => exact hq.elim
    | outgrown => exact hq.elim

/-! A function with a range over a function in it -/
section
variable {P : Program} {c : Cx} {l : TL} {H : List Asrt}
theorem spec_ofM {f : Nat} {fn : Func} {code : Code} {args : List Value} {H1 : List Asrt} {w : World} {R : Ending → List Asrt → Prop} {n : Nat} {l0 : TL} (hf : P.funcs[f]? = some fn) (hb : fn.body = some code) (hn : fn.ntmps = n) (hsz : Nat.ble args.length n = true) (hl : initTL 0 args = l0)
    (K : ∀ fp, J ⟨w, fp, n, []⟩ l0 H1 (code.wp P (bodyPostM Fence.wide 7 P fn fun e w' => ∃ H3, R e H3 ∧ Sat w fp H3 w'))) : CSpec P f args H1 w R := by
  intro fp h1 h2 h3
  refine (callsIn_wide (n := 7)).1 (callsIn_of_wp_marks hf hb trivial (wpIn_wide.2 ((K fp).out _ _ ⟨⟨?_, ?_⟩, rfl, fp, h1, h2, fun i hi => ⟨h3 i hi, fun _ => hi⟩, Fr.refl _ _⟩)))
  · have : args.length ≤ n := Nat.le_of_ble_eq_true hsz
    simp [hn]; omega
  · intro d v hd
    rw [← hl] at hd
    obtain ⟨_, h5⟩ := initTL_get args 0 d v hd
    have hlt : d < args.length := by
      rcases Nat.lt_or_ge d args.length with hq | hq
      · exact hq
      · rw [Nat.sub_zero, List.getElem?_eq_none hq] at h5; cases h5
    rw [Array.getElem?_append_left (by simpa using hlt)]
    simpa using h5
theorem spec_ownM {f : Nat} {fn : Func} {code : Code} {args : List Value} {w : World} {R : Ending → List Asrt → Prop} {n : Nat} {l0 : TL} (hf : P.funcs[f]? = some fn) (hb : fn.body = some code) (hn : fn.ntmps = n) (hsz : Nat.ble args.length n = true) (hl : initTL 0 args = l0)
    (K : J ⟨w, [], n, []⟩ l0 [] (code.wp P (bodyPostM Fence.wide 7 P fn fun e w' => ∃ H3, R e H3 ∧ Sat w [] H3 w'))) : CSpec P f args [] w R := by
  intro fp h1 h2 h3
  have e : fp = [] := h1
  subst e
  refine (callsIn_wide (n := 7)).1 (callsIn_of_wp_marks hf hb trivial (wpIn_wide.2 (K.out _ _ ⟨⟨?_, ?_⟩, rfl, [], h1, h2, fun i hi => ⟨h3 i hi, fun _ => hi⟩, Fr.refl _ _⟩)))
  · have : args.length ≤ n := Nat.le_of_ble_eq_true hsz
    simp [hn]; omega
  · intro d v hd
    rw [← hl] at hd
    obtain ⟨_, h5⟩ := initTL_get args 0 d v hd
    have hlt : d < args.length := by
      rcases Nat.lt_or_ge d args.length with hq | hq
      · exact hq
      · rw [Nat.sub_zero, List.getElem?_eq_none hq] at h5; cases h5
    rw [Array.getElem?_append_left (by simpa using hlt)]
    simpa using h5
theorem J.retM {F : Fence} {n : Nat} {fn : Func} {rs : List ResultVar} {vs : List Value} {r : Value} {R : Ending → World → Prop} (hds : c.ds = []) (hr : fn.results = rs.toArray) (hres : Res P c l H rs vs) (hv : retv vs = r) (K : J c l H (fun _ w => R (.returned r) w)) :
    J c l H (bodyPostM F n P fn R .ret) := J.mk fun a w s => by
  have e : a.defers = [] := s.2.1.trans hds
  simp only [bodyPostM, e, LeavesInM, LeavesIn]
  exact ⟨_, hv ▸ run_results hr hres s, K a w s⟩
theorem J.retD {F : Fence} {n D : Nat} {fn : Func} {rs : List ResultVar} {vs : List Value} {r : Value} {R : Ending → World → Prop} (hds : c.ds = [{ target := .collected D, args := #[] }]) (hr : fn.results = rs.toArray) (hres : Res P c l (obj D (.deferred none) :: H) rs vs) (hv : retv vs = r) (K : J c l (obj D (.deferred none) :: H) (fun _ w => R (.returned r) w)) :
    J c l (obj D (.deferred (some [])) :: H) (bodyPostM F n P fn R .ret) := J.mk fun a w s => by
  have e : a.defers = [{ target := .collected D, args := #[] }] := s.2.1.trans hds
  have s2 : St c l (obj D (.deferred none) :: H) a (w.putObj D (.deferred none)) := ⟨s.1, s.2.1, sat_reobj _ s.2.2⟩
  simp only [bodyPostM, e, LeavesInM, LeavesIn]
  exact ⟨by simp, .inl ⟨D, _, rfl, run_takeDeferred (sat_obj s.2.2 .here), _, hv ▸ run_results hr hres s2, K a _ s2⟩⟩
theorem J.stE {L : TL} (hs : Eng.sub l L) : J c l H (fun a w => St c L H a w) := J.mk fun a w s => s.sub hs
theorem J.lvN {σ : Type} {I : Nat → σ → Prop} {HH : Nat → σ → List Asrt} {HX O R : List Asrt} {k : Nat} (s : σ) (hI : I k s) (ho : Outs (O ++ HH k s) H R) : J c l H (lvS c.w0 c.own I HH HX O k .normal) := J.mk fun a w st => ⟨s, hI, Sat.drops (H' := R) ((st.2.2.perm ho.perm).perm List.perm_append_comm)⟩
theorem J.lvR {σ : Type} {I : Nat → σ → Prop} {HH : Nat → σ → List Asrt} {HX O R : List Asrt} {k : Nat} (ho : Outs (O ++ HX) H R) : J c l H (lvS c.w0 c.own I HH HX O k .ret) := J.mk fun a w st => Sat.drops (H' := R) ((st.2.2.perm ho.perm).perm List.perm_append_comm)
end
/-- No panic is let out. -/
def np (Q : Exit → Act → World → Prop) : Exit → Act → World → Prop
  | .panic _, _, _ => False
  | e, a, w => Q e a w
theorem PanicFree.np {Q : Exit → Act → World → Prop} : PanicFree (np Q) := fun ch a a' w he h => h.elim
theorem PanicFree.lvS {σ : Type} {w0 : World} {own : List Nat} {I : Nat → σ → Prop} {HH : Nat → σ → List Asrt} {HX O : List Asrt} {k : Nat} : PanicFree (lvS w0 own I HH HX O k) := fun ch a a' w he h => h.elim
section
variable {P : Program} {c : Cx} {l : TL} {H : List Asrt} {Q : Exit → Act → World → Prop}
theorem J.noPanic {x : Code} (K : J c l H (x.wp P (np Q))) : J c l H (x.wp P Q) := J.mk fun a w s => Code.wp_mono (fun e a' w' q => by
  cases e with
  | panic ch => exact q.elim
  | _ => exact q) (K a w s)
theorem J.np_ret (K : J c l H (Q .ret)) : J c l H (np Q .ret) := K
end
end Go.Proofs.Ytfcaeifpclpnoaa.Eng
