/-
  slices.Backward over an array of four words: the iterator's walk, for every loop body; the law of a range over it. No conditions.
-/
import Derived.RangeFuncNested
import Derived.RangeFuncBound
import Derived.RangeFuncCalls
import Derived.RangeFuncLeaves
import Derived.Shelf.Abstract
import Derived.Shelf.RegionOpen
import Derived.WalkKit
import Derived.OwnWalkIn
import Derived.TacticsInMore
import Derived.LoopNIn
import Derived.LoopIn
import Derived.RangeFuncFrom
import Derived.Test.YtnbckkpflmpnlaaTy
import Derived.Test.YtnbckkpflmpnlaaFl
namespace Go.Proofs.Ytnbckkpflmpnlaa.Back
open Go Go.RowKit Go.Shelf Eng
set_option linter.unusedVariables false
set_option maxRecDepth 100000
set_option maxHeartbeats 2000000
attribute [local go_sem] Oper.semAt_some

/-- The closure's walk: from the top down, as long as it is told to go on. -/
theorem back_in (F : Fence) (n : Nat) (hF : F.fn 101) (hro : F.round = none) (hn : 1 ≤ n) (l Bs b : Nat) (x : Nat → Int) (J : Nat → World → Prop) (Jx : World → Prop)
    (hJ : ∀ k W, J k W → W.cell? ⟨Bs, 0, none⟩ = some (.slice (some ⟨b, 0, none⟩) 4 4))
    (hx : ∀ k W, k < 4 → J (k + 1) W → W.cell? ⟨b, k, none⟩ = some (.int .u64 (x k)))
    (hY : ∀ k W, k < 4 → J (k + 1) W → YieldAt F (n - 1) Try.prog l #[.int .i64 (k : Int), .int .u64 (x k)] W fun e W' => (e = .returned (.bool true) ∧ J k W') ∨ (e = .returned (.bool false) ∧ Jx W'))
    (W : World) (h0 : J 4 W) :
    CallsIn F n Try.prog 101 #[.func (.yield l) #[] #[], .pointer (some ⟨Bs, 0, none⟩)] W fun e W' => (∃ v, e = .returned v) ∧ (J 0 W' ∨ Jx W') := by
  have hs0 := hJ 4 W h0
  refine callsIn_of_wp Try.func101 rfl hF ?_ hro
  simp only [Try.ntmps101, List.size_toArray, List.length_cons, List.length_nil, Nat.reduceAdd, Nat.reduceSub, Array.replicate_succ, Array.replicate_zero, List.push_toArray, List.append_toArray, List.nil_append, List.cons_append]
  gi_wp2
  gi_loopw [3] (fun i wr => ∃ k : Nat, k ≤ 4 ∧ i = .int .i64 ((k : Int) - 1) ∧ J k wr) (fun i _ => (intOf i + 1).toNat)
  case atStart => exact ⟨4, by omega, rfl, h0⟩
  case round =>
    obtain ⟨k, hk, rfl, hJs⟩ := hrel
    have hs := hJ k wr hJs
    cases k with
    | zero =>
      gi_wp2
      go_end0
      exact ⟨⟨_, rfl⟩, .inl hJs⟩
    | succ k =>
      have hk4 : k < 4 := by omega
      have e1 : ((k + 1 : Nat) : Int) - 1 = (k : Int) := by omega
      rw [e1]
      have hc := hx k wr hk4 hJs
      obtain ⟨fn, tmps, assign, body, hy, hR⟩ := hY k wr hk4 hJs
      gi_wp2
      refine hR.mono ?_
      rintro e W3 (⟨rfl, hJ3⟩ | ⟨rfl, hJx3⟩)
      · gi_wp2
        go_roundw
        case rel => exact ⟨k, by omega, rfl, hJ3⟩
        case measure => first | (simp [intOf]; done) | (simp [intOf]; omega)
      · gi_wp2
        refine bodyPost_ret (results_none rfl _ _ _) rfl ?_
        exact ⟨⟨_, rfl⟩, .inr hJx3⟩
/-! What is no cells -/
def obj (b : Nat) (o : Obj) : Asrt where
  holds h fp := fp = [b] ∧ h b = some o
  loc h h' fp he := by
    rintro ⟨rfl, hb⟩
    exact ⟨rfl, (he b (by simp)).trans hb⟩
theorem sat_obj {w0 : World} {own : List Nat} {H : List Asrt} {w : World} {b : Nat} {o : Obj} (h : Sat w0 own H w) (hm : In (obj b o) H) : w.heap[b]? = some o := by
  obtain ⟨fp, ⟨_, h1⟩, _⟩ := h.mem hm.mem
  exact h1
theorem sat_reobj {w0 : World} {own : List Nat} {H : List Asrt} {w : World} {b : Nat} {o : Obj} (o' : Obj) (h : Sat w0 own (obj b o :: H) w) : Sat w0 own (obj b o' :: H) (w.putObj b o') := by
  have hb := sat_obj h .here
  have hlt := (Array.getElem?_eq_some_iff.1 hb).1
  refine h.turn rfl rfl rfl (by simp [World.putObj]) fun fp hq => ?_
  obtain ⟨rfl, h1⟩ := hq
  exact ⟨⟨rfl, World.putObj_heap_same hlt⟩, fun i hi => World.putObj_heap_other (by simp at hi; omega)⟩
theorem sat_swap {w0 : World} {own : List Nat} {A B : Asrt} {H : List Asrt} {w : World} (h : Sat w0 own (A :: B :: H) w) : Sat w0 own (B :: A :: H) w := h.perm (List.Perm.swap ..)

/-- How a round may be left: it goes on, or the function is left. -/
def lv (w0 : World) (own : List Nat) (I : Nat → Prop) (HH : Nat → List Asrt) (HX O : List Asrt) (k : Nat) : Exit → Act → World → Prop
  | .normal, _, w => I k ∧ Sat w0 own (O ++ HH k) w
  | .ret, _, w => Sat w0 own (O ++ HX) w
  | _, _, _ => False

abbrev rnd (ll : Nat) : Fence := Fence.wide.inRound ll

theorem J.rangeBack {w0 : World} {own : List Nat} {n : Nat} {l : TL} {H R : List Asrt} {g p1 p2 : Nat} {assign body : Code} {Q : Exit → Act → World → Prop} (Bs b : Nat) (x : Nat → Int) (I : Nat → Prop) (HH : Nat → List Asrt) (HX : List Asrt) (L1 : Nat → TL)
    (hg : TL.get l g = some (.func (.func 101) #[] #[.pointer (some ⟨Bs, 0, none⟩)])) (hp1 : Nat.blt p1 n = true) (hp2 : Nat.blt p2 n = true)
    (hB : ∀ k, ∃ T, In (blk Bs [.slice (some ⟨b, 0, none⟩) 4 4] T) (HH k)) (hx : ∀ k, k < 4 → ∃ C T, In (blk b C T) (HH (k + 1)) ∧ C[k]? = some (.int .u64 (x k))) (hI : I 4) (ho : Outs (HH 4) H R)
    (hassign : ∀ ll k A, J ⟨w0, own, n, []⟩ ((p2, .int .u64 (x k)) :: (p1, .int .i64 (k : Int)) :: l) A (assign.wpIn (rnd ll) 5 Try.prog (Exit.then (fun a w => St ⟨w0, own, n, []⟩ (L1 k) A a w) (fun _ _ _ => False))))
    (hbody : ∀ ll D rc k, k < 4 → I (k + 1) → J ⟨w0, own, n, []⟩ (L1 k) (obj ll (.loop rc) :: obj D (.deferred (some [])) :: HH (k + 1)) (body.wpIn (rnd ll) 5 Try.prog (lv w0 own I HH HX [obj ll (.loop rc), obj D (.deferred (some []))] k)))
    (hdone : I 0 → ∀ D, J ⟨w0, own, n, [{ target := .collected D, args := #[] }]⟩ l (obj D (.deferred (some [])) :: HH 0) (Q .normal))
    (hstop : ∀ D, J ⟨w0, own, n, [{ target := .collected D, args := #[] }]⟩ l (obj D (.deferred (some [])) :: HX) (Q .ret)) :
    J ⟨w0, own, n, []⟩ l H ((Code.rangeFunc (.tmp g) #[p1, p2] assign body).wp Try.prog Q) := J.mk fun a w s => (wpIn_wide (n := 7)).1 <| wpIn_rangeFunc fun fn _ => by
  have hds : a.defers = [] := s.2.1
  let rc : LoopState → Option Code → Loop := fun st pe => { state := st, pending := pe, fn, tmps := a.tmps, params := #[p1, p2], assign, body, defers := w.heap.size }
  have s4 : Sat w0 own (HH 4) w := Sat.drops (H' := R) ((s.2.2.perm ho.perm).perm List.perm_append_comm)
  have s5 := s4.new (.deferred (some [])) (obj w.heap.size (.deferred (some []))) (fun h' hh => ⟨rfl, hh⟩)
  have s6 := s5.new (.loop (rc .ready none)) (obj (w.heap.size + 1) (.loop (rc .ready none))) (fun h' hh => by rw [World.size_alloc] at hh ⊢; exact ⟨rfl, hh⟩)
  have hev : a.eval (.tmp g) = .func (.func 101) #[] #[.pointer (some ⟨Bs, 0, none⟩)] := s.1.ev hg
  refine ⟨w.heap.size + 1, [{ target := .collected w.heap.size, args := #[] }], ((w.alloc (.deferred (some []))).alloc (.loop (rc .ready none))), { target := .fn (.func 101) #[.pointer (some ⟨Bs, 0, none⟩)], args := #[.func (.yield (w.heap.size + 1)) #[] #[]] }, ((w.alloc (.deferred (some []))).alloc (.loop (rc .ready none))), 101,
    #[.func (.yield (w.heap.size + 1)) #[] #[]] ++ #[.pointer (some ⟨Bs, 0, none⟩)], ((w.alloc (.deferred (some []))).alloc (.loop (rc .ready none))), run_enterLoop_outer _ _ _ _ _, ?_, fun _ _ => trivial, ?_, fun h => (by simp [Fence.wide] at h), ?_⟩
  · simp only [resolve, hev]
    simp [go_sem]
  · simp [invoke, go_sem]
  have key := back_in Fence.wide 6 trivial rfl (by omega) (w.heap.size + 1) Bs b x
    (fun k W => I k ∧ Sat w0 own (obj (w.heap.size + 1) (.loop (rc .ready none)) :: obj w.heap.size (.deferred (some [])) :: HH k) W)
    (fun W => Sat w0 own (obj (w.heap.size + 1) (.loop (rc .done (some .ret))) :: obj w.heap.size (.deferred (some [])) :: HX) W)
    (fun k W h => by
      obtain ⟨T, hm⟩ := hB k
      exact h.2.cell (.tail _ (.tail _ hm.mem)) rfl)
    (fun k W hk h => by
      obtain ⟨C, T, hm, hc⟩ := hx k hk
      exact h.2.cell (.tail _ (.tail _ hm.mem)) hc) ?_ _ ⟨hI, s6⟩
  · refine key.mono ?_
    rintro e W2 ⟨⟨v, rfl⟩, (⟨hi, hS⟩ | hS)⟩
    · have hend := run_endLoop (P := Try.prog) (sat_obj hS .here) (by simp [rc])
      exact ⟨none, _, hend, hdone hi _ _ _ ⟨⟨s.1.size, s.1.get⟩, by rw [hds]; rfl, (sat_reobj _ hS).drop⟩⟩
    · have hend := run_endLoop (P := Try.prog) (sat_obj hS .here) (by simp [rc])
      exact ⟨some .ret, _, hend, wpIn_ret (hstop _ _ _ ⟨⟨s.1.size, s.1.get⟩, by rw [hds]; rfl, (sat_reobj _ hS).drop⟩)⟩
  · rintro k W hk ⟨hi, hS⟩
    have hl := sat_obj hS .here
    have t2 := (s.1.put (d := p1) (v := .int .i64 (k : Int)) hp1).put (d := p2) (v := .int .u64 (x k)) hp2
    refine ⟨fn, _, assign, body, run_yield hl rfl, roundIn_of_wpIn trivial (wpIn_mono (hassign (w.heap.size + 1) k _ _ W ⟨⟨by simpa [rc, Act.put] using t2.size, fun d v hd => by simpa [rc, Act.put] using t2.get d v hd⟩, rfl, hS⟩) fun e a1 w1 hq => ?_)⟩
    cases e with
    | normal =>
      have hl1 := sat_obj hq.2.2 .here
      refine ⟨_, run_beginRound hl1 rfl, wpIn_mono (hbody (w.heap.size + 1) w.heap.size { rc .ready none with state := .busy } k hk hi a1 _ ⟨hq.1, hq.2.1, sat_reobj _ hq.2.2⟩) fun e2 a2 w2 hq2 => ?_⟩
      cases e2 with
      | normal => exact ⟨_, _, run_endRound none (sat_obj hq2.2 .here), .inl ⟨rfl, hq2.1, sat_reobj _ hq2.2⟩⟩
      | ret => exact ⟨_, _, run_endRound (some .ret) (sat_obj hq2 .here), .inr ⟨rfl, sat_reobj _ hq2⟩⟩
      | exit id => exact hq2.elim
      | goto t => exact hq2.elim
      | panic ch => exact hq2.elim
      | outgrown => exact hq2.elim
    | ret => exact hq.elim
    | exit id => exact hq.elim
    | goto t => exact hq.elim
    | panic ch => exact hq.elim
    | outgrown => exact hq.elim

/-! In a round -/
section
variable {P : Program} {c : Cx} {l : TL} {H : List Asrt} {Q : Exit → Act → World → Prop} {ll : Nat}
theorem JI.seq {x y : Code} (K : J c l H (x.wpIn (rnd ll) 5 P (Exit.then (y.wpIn (rnd ll) 5 P Q) Q))) : J c l H ((Code.seq x y).wpIn (rnd ll) 5 P Q) := J.mk fun a w s => wpIn_seq (K a w s)
theorem JI.skip (K : J c l H (Q .normal)) : J c l H (Code.skip.wpIn (rnd ll) 5 P Q) := J.mk fun a w s => wpIn_skip (K a w s)
theorem JI.block {id : Nat} {x : Code} (K : J c l H (x.wpIn (rnd ll) 5 P (Exit.inBlock id Q))) : J c l H ((Code.block id x).wpIn (rnd ll) 5 P Q) := J.mk fun a w s => wpIn_block (K a w s)
theorem JI.cret (K : J c l H (Q .ret)) : J c l H (Code.ret.wpIn (rnd ll) 5 P Q) := J.mk fun a w s => wpIn_ret (K a w s)
theorem JI.cond {x : Nat} {y z : Code} {t : Bool} (hx : TL.get l x = some (.bool t)) (K1 : t = true → J c ((x, .bool true) :: l) H (y.wpIn (rnd ll) 5 P Q)) (K2 : t = false → J c ((x, .bool false) :: l) H (z.wpIn (rnd ll) 5 P Q)) : J c l H ((Code.cond (.tmp x) y z).wpIn (rnd ll) 5 P Q) := J.mk fun a w s => by
  have hev : ev l (.tmp x) = some (.bool t) := hx
  cases t with
  | true => exact wpIn_cond_true (s.1.ev hev) (K1 rfl a w (s.sub (sub.cons hx fun _ _ h => h)))
  | false => exact wpIn_cond_false (s.1.ev hev) (K2 rfl a w (s.sub (sub.cons hx fun _ _ h => h)))
theorem JI.region_lit {id : Nat} {os : List Oper} (K : J c l H (wpListIn (rnd ll) 5 P os.toArray Q os)) : J c l H ((Code.region id os.toArray false).wpIn (rnd ll) 5 P Q) := J.mk fun a w s => wpIn_region_lit (K a w s)
theorem JI.nil {ops : Array Oper} (K : J c l H (Q .normal)) : J c l H (wpListIn (rnd ll) 5 P ops Q []) := K
theorem upon_in {o : Oper} {a : Act} {X : Act → World → Prop} {r : Result Next} (h : o.upon P a X Q r) (hr : ∀ row args w', r ≠ .ok (.row row args) w') (hq : ∀ m f t x y w', r ≠ .ok (.round m f t x y) w') : o.uponIn (rnd ll) 5 P a X Q r := by
  cases r with
  | ok v w =>
    cases v with
    | value v => exact h
    | skip => exact h
    | defer d => exact h
    | enter f args => exact ⟨fun h => by simp [Fence.wide] at h, callsIn_wide.2 h⟩
    | row row args => exact absurd rfl (hr _ _ _)
    | round m f t x y => exact absurd rfl (hq _ _ _ _ _ _)
    | _ => exact h
  | halt e w => cases e <;> exact h
theorem JI.call {f : Nat} [i : Eng.Enters P f] {ops : Array Oper} {rest : List Oper} {d : Nat} {xs : List Operand} {ts : Array TypeId} {vs : List Value} {ty : TypeId} {pos : String} {af : Array Edge} (hx : evs l xs = some vs) (K : J c l H (OW P Q ⟨some d, .call ⟨.value (.func f), xs.toArray, ts⟩, ty, pos, af, none⟩ (wpListIn (rnd ll) 5 P ops Q rest))) :
    J c l H (wpListIn (rnd ll) 5 P ops Q (⟨some d, .call ⟨.value (.func f), xs.toArray, ts⟩, ty, pos, af, none⟩ :: rest)) := J.mk fun a w s => by
  unfold wpListIn
  rw [if_pos (by simp [Region.wanted])]
  have k := K a w s
  unfold OW Oper.wp at k
  refine ⟨fun _ _ => trivial, ?_⟩
  rw [Oper.semAt_plain (rnd ll) a.eval _ (by intro cl h; cases h)]
  rw [run_call s.1 hx w] at k ⊢
  exact upon_in k (fun _ _ _ h => by cases h) (fun _ _ _ _ _ _ h => by cases h)
theorem JI.q0 {ops : Array Oper} {rest : List Oper} {d : Nat} {op : Op} {ty : TypeId} {pos : String} {af : Array Edge} {v : Value} (hdf : ∀ cl, op ≠ .defer cl) (hd : Nat.blt d c.n = true) (hv : Qv P c.n l op v) (K : J c ((d, v) :: l) H (wpListIn (rnd ll) 5 P ops Q rest)) :
    J c l H (wpListIn (rnd ll) 5 P ops Q (⟨some d, op, ty, pos, af, none⟩ :: rest)) := J.mk fun a w s => by
  unfold wpListIn
  rw [if_pos (by simp [Region.wanted])]
  refine ⟨fun _ _ => trivial, ?_⟩
  rw [Oper.semAt_plain (rnd ll) a.eval _ hdf, hv a w _ _ _ _ s.1]
  exact K _ _ ⟨s.1.put hd, s.2.1, s.2.2⟩
theorem JI.q1 {ops : Array Oper} {rest : List Oper} {d : Nat} {op : Op} {ty : TypeId} {pos : String} {af : Array Edge} {v : Value} (hdf : ∀ cl, op ≠ .defer cl) (hd : Nat.blt d c.n = true) (hv : Qr P c l H op v) (K : J c ((d, v) :: l) H (wpListIn (rnd ll) 5 P ops Q rest)) :
    J c l H (wpListIn (rnd ll) 5 P ops Q (⟨some d, op, ty, pos, af, none⟩ :: rest)) := J.mk fun a w s => by
  unfold wpListIn
  rw [if_pos (by simp [Region.wanted])]
  refine ⟨fun _ _ => trivial, ?_⟩
  rw [Oper.semAt_plain (rnd ll) a.eval _ hdf, hv a w _ _ _ _ s]
  exact K _ _ ⟨s.1.put hd, s.2.1, s.2.2⟩
/-- A store in a round. -/
theorem JI.store1 {T : Nat} {z : List Value} [i : Ty P T false 1 z] {ops : Array Oper} {rest : List Oper} {ty : TypeId} {pos : String} {af : Array Edge} {x y : Operand} {b off : Nat} {C C' : List Value} {E : TypeId} {H' : List Asrt} {v : Value} (hx : ev l x = some (.pointer (some ⟨b, off, none⟩))) (hy : ev l y = some v) (h1 : v.oneCell' = true)
    (hu : Upd (blk b C E) (blk b C' E) H H') (hC : splice C off [v] = C') (hfit : off + 1 ≤ C.length) (K : J c l H' (wpListIn (rnd ll) 5 P ops Q rest)) :
    J c l H (wpListIn (rnd ll) 5 P ops Q (⟨none, .store T x y, ty, pos, af, none⟩ :: rest)) := J.mk fun a w s => by
  unfold wpListIn
  rw [if_pos (by simp [Region.wanted])]
  refine ⟨fun _ _ => trivial, ?_⟩
  rw [Oper.semAt_plain (rnd ll) a.eval _ (by intro cl h; cases h)]
  obtain ⟨R, p1, p2⟩ := hu.perm
  have s1 := s.2.2.perm p1
  have hb := (s1.blk (List.mem_cons_self ..)).1
  have hv1 : v.cells.toList = [v] := by cases v <;> simp_all [Value.cells, Value.oneCell']
  have hr := run_storeV (P := P) (w := w) (T := T) (v := v) hb (by rw [← Array.length_toList, hv1]; rfl) hfit (by rw [hv1]; simpa using h1)
  have e : (execOp a.eval ⟨none, .store T x y, ty, pos, af, none⟩).run P w = .ok .skip (w.setRow b C'.toArray) := by
    simp [execOp, s.1.ev hx, s.1.ev hy, hr, hv1, hC]
  rw [e]
  exact K _ _ ⟨s.1.put_none, s.2.1, (s1.put C').perm p2⟩
end

/-! A function with a range over a function in it -/
section
variable {P : Program} {c : Cx} {l : TL} {H : List Asrt}
theorem spec_ofM {f : Nat} {fn : Func} {code : Code} {args : List Value} {H1 : List Asrt} {w : World} {R : Ending → List Asrt → Prop} {n : Nat} {l0 : TL} (hf : P.funcs[f]? = some fn) (hb : fn.body = some code) (hn : fn.ntmps = n) (hsz : Nat.ble args.length n = true) (hl : initTL 0 args = l0)
    (K : ∀ fp, J ⟨w, fp, n, []⟩ l0 H1 (code.wp P (bodyPostM Fence.wide 7 P fn fun e w' => ∃ H3, R e H3 ∧ Sat w fp H3 w'))) : CSpec P f args H1 w R := by
  intro fp h1 h2 h3
  refine (callsIn_wide (n := 7)).1 (callsIn_of_wp_marks hf hb trivial (wpIn_wide.2 ((K fp).out _ _ ⟨⟨?_, ?_⟩, rfl, fp, h1, h2, fun i hi => ⟨h3 i hi, fun _ => hi⟩, Fr.refl _ _⟩)))
  · have : args.length ≤ n := Nat.le_of_ble_eq_true hsz
    simp [hn]; omega
  · intro d v hd
    rw [← hl] at hd
    obtain ⟨_, h5⟩ := initTL_get args 0 d v hd
    have hlt : d < args.length := by
      rcases Nat.lt_or_ge d args.length with hq | hq
      · exact hq
      · rw [Nat.sub_zero, List.getElem?_eq_none hq] at h5; cases h5
    rw [Array.getElem?_append_left (by simpa using hlt)]
    simpa using h5
theorem J.retM {F : Fence} {n : Nat} {fn : Func} {rs : List ResultVar} {vs : List Value} {r : Value} {R : Ending → World → Prop} (hds : c.ds = []) (hr : fn.results = rs.toArray) (hres : Res P c l H rs vs) (hv : retv vs = r) (K : J c l H (fun _ w => R (.returned r) w)) :
    J c l H (bodyPostM F n P fn R .ret) := J.mk fun a w s => by
  have e : a.defers = [] := s.2.1.trans hds
  simp only [bodyPostM, e, LeavesInM, LeavesIn]
  exact ⟨_, hv ▸ run_results hr hres s, K a w s⟩
theorem J.retD {F : Fence} {n D : Nat} {fn : Func} {rs : List ResultVar} {vs : List Value} {r : Value} {R : Ending → World → Prop} (hds : c.ds = [{ target := .collected D, args := #[] }]) (hr : fn.results = rs.toArray) (hres : Res P c l (obj D (.deferred none) :: H) rs vs) (hv : retv vs = r) (K : J c l (obj D (.deferred none) :: H) (fun _ w => R (.returned r) w)) :
    J c l (obj D (.deferred (some [])) :: H) (bodyPostM F n P fn R .ret) := J.mk fun a w s => by
  have e : a.defers = [{ target := .collected D, args := #[] }] := s.2.1.trans hds
  have s2 : St c l (obj D (.deferred none) :: H) a (w.putObj D (.deferred none)) := ⟨s.1, s.2.1, sat_reobj _ s.2.2⟩
  simp only [bodyPostM, e, LeavesInM, LeavesIn]
  exact ⟨by simp, .inl ⟨D, _, rfl, run_takeDeferred (sat_obj s.2.2 .here), _, hv ▸ run_results hr hres s2, K a _ s2⟩⟩
theorem Qv.makeFunc {m fb t : Nat} {v : Value} (h : TL.get l t = some v) : Qv P m l (.makeFunc (.func fb) #[] #[.tmp t]) (.func (.func fb) #[] #[v]) := fun a w _ _ _ _ s => by
  have hv : a.eval (.tmp t) = v := s.ev h
  simp [execOp, Instr.makeFunc, hv]
theorem Qv.sliceAll {m T E k b o sz : Nat} {agg : Bool} {z : List Value} {t : Nat} [j : Ar P T k E] [q : Ty P E agg sz z] (h : TL.get l t = some (.pointer (some ⟨b, o, none⟩))) : Qv P m l (.slice T (.tmp t) none none none) (.slice (some ⟨b, o, none⟩) k k) := fun a w _ _ _ _ s => by
  have hv : a.eval (.tmp t) = .pointer (some ⟨b, o, none⟩) := s.ev h
  have e0 : (⟨b, o, none⟩ : Addr).add 0 = ⟨b, o, none⟩ := by rw [addr_add]; rfl
  simp [execOp, Instr.sliceAt, Instr.sureAddr, Instr.sliceBounds, hv, run_und j.und, run_size (P := P) (w := w) (T := E), e0]
end
end Go.Proofs.Ytnbckkpflmpnlaa.Back
