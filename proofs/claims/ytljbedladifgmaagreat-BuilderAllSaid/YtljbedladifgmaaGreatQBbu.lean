/-
  The law BuilderBuilds. No conditions.
-/
import Derived.Test.YtljbedladifgmaaGreatQAli
import Derived.Test.YtljbedladifgmaaGreatQBld2
import Derived.Test.YtljbedladifgmaaGreatQCut
namespace Go.Proofs.YtljbedladifgmaaGreat.Sty
open Go Go.RowKit Eng
set_option linter.unusedVariables false
set_option maxRecDepth 100000
set_option linter.unusedSimpArgs false
open Wide Purse Tx Sha Ss Esc Vau Lck Do Prep Ful Doo Tri App Inn Low Gene Alv Kee Txl Cht Chn Chm Chw Chi Chx Civ Ali Deal Mss Ots Hash Bytes
set_option maxHeartbeats 1000000
/-- Events that come in as calls do: a kind, a number, a transaction. -/
theorem reads_op {W : World} {cs : List Value} (h : Sh.ReadsL W evsh cs) : ∃ e : Ev, EvIn e ∧ cs = e.cells := by
  unfold evsh at h
  obtain ⟨a, c1, rfl, ha, h1⟩ := reads_i h
  obtain ⟨b, c2, rfl, hb, h2⟩ := reads_i h1
  obtain ⟨t, h3, h4, rfl⟩ := reads_tx h2
  exact ⟨⟨a, b, t⟩, ⟨ha, hb, ⟨h3, h4⟩⟩, rfl⟩
theorem reads_ops {W : World} {v : Value} (h : Sh.Reads W (.sl evsh) v) : ∃ (ao : Option Addr) (T : List Ev) (cap : Nat), v = .slice ao T.length cap ∧ T.length ≤ cap ∧ cap ≤ maxLen ∧ EsIn T ∧ Rd W ao (evc T) := by
  simp only [Sh.Reads] at h
  rcases h with rfl | ⟨a, len, cap, rfl, h1, h2, C, hC⟩
  · exact ⟨none, [], 0, rfl, Nat.le_refl _, Nat.zero_le _, fun k hk => (by cases hk), Rd.nil _ _⟩
  · have key : ∀ i, ∃ k : Ev, EvIn k ∧ (i < len → C i = k.cells) := fun i => by
      rcases Nat.lt_or_ge i len with h3 | h3
      · obtain ⟨k, hk, e⟩ := reads_op (hC i h3).1
        exact ⟨k, hk, fun _ => e⟩
      · exact ⟨ev0, ev0_in, fun h4 => by omega⟩
    have hl : ((List.range len).map fun i => (key i).choose).length = len := by simp
    have hg : ∀ i, i < len → ((List.range len).map fun i => (key i).choose).getD i ev0 = (key i).choose := fun i hi => by
      rw [List.getD_eq_getElem?_getD, List.getElem?_map, List.getElem?_range hi]
      rfl
    refine ⟨some a, (List.range len).map fun i => (key i).choose, cap, by rw [hl], by rw [hl]; exact h1, h2, ?_, ?_⟩
    · intro k hk
      obtain ⟨i, _, rfl⟩ := List.mem_map.1 hk
      exact (key i).choose_spec.1
    · refine Rd.some_ fun j u hj => ?_
      have hjl : j < len * 27 := by
        rcases Nat.lt_or_ge j (len * 27) with h3 | h3
        · exact h3
        · rw [List.getElem?_eq_none (by rw [evc_length, hl]; exact h3)] at hj
          cases hj
      have hi : j / 27 < len := by omega
      have e2 : j = j / 27 * 27 + j % 27 := by omega
      have h6 : (((evc ((List.range len).map fun i => (key i).choose)).drop (j / 27 * 27)).take 27)[j % 27]? = some u := by
        rw [List.getElem?_take, if_pos (Nat.mod_lt _ (by decide)), List.getElem?_drop, ← e2]
        exact hj
      rw [evc_at (by rw [hl]; exact hi), hg _ hi, ← (key (j / 27)).choose_spec.2 hi] at h6
      have h5 := (hC (j / 27) hi).2 (j % 27) u h6
      rw [e2]
      exact h5
theorem evs_some {W : World} {ao : Option Addr} {T : List Ev} (h : Rd W ao (evc T)) (h0 : 0 < T.length) : ao.isSome = true := h.isSome fun e => by
  have h8 := evc_length T
  rw [e] at h8
  simp at h8
  omega
theorem evc_tx {E : List Ev} {i : Nat} (h : i < E.length) : ((evc E).drop (i * 27 + 2)).take 25 = (E.getD i ev0).tx.cells := by
  have h1 := evc_at h
  have h2 : ((((evc E).drop (i * 27)).take 27).drop 2).take 25 = ((evc E).drop (i * 27 + 2)).take 25 := by
    rw [List.drop_take, List.drop_drop, List.take_take]
    congr 1
  rw [← h2, h1]
  rfl
theorem evc_get {E : List Ev} {i j : Nat} (h : i < E.length) (hj : j < 27) : (evc E)[i * 27 + j]? = (E.getD i ev0).cells[j]? := by
  rw [← evc_at h, List.getElem?_take, if_pos hj, List.getElem?_drop]
/-- What a transaction that is taken does to the nonces. -/
theorem ap_no {s : SS} {L : List Lk} {t : Tx} {ap : Ap} (e : apF s L t = ap) (ho : ap.ok = true) : chk t = 0 ∧ t.no = s.no t.fr.toNat ∧ ap.s.no = upd s.no t.fr.toNat (s.no t.fr.toNat + 1) := by
  subst e
  unfold apF at ho ⊢
  split at ho
  · rename_i h1
    rw [if_pos h1]
    split at ho
    · rename_i h2
      rw [if_pos h2]
      split at ho
      · rename_i h3
        rw [if_pos h3]
        refine ⟨h1, h2, ?_⟩
        split
        · exact doX_keep SS.no (fun _ _ _ _ => rfl) _ _ _
        · rfl
      · cases ho
    · cases ho
  · cases ho
/-- Submitted, included, later. -/
noncomputable def stp (k : CS) (o : Ev) : CS := (incC (subC k o.tx) o.co).wS (riseS (incC (subC k o.tx) o.co).s o.tm) (incC (subC k o.tx) o.co).L
theorem stp_ci {k : CS} {n : Nat} (h : CI k n) {o : Ev} (ho : EvIn o) : CI (stp k o) (n + 2) := ((h.sub ho.tx).inc o.co).ris o.tm
theorem subC_s (k : CS) (t : Tx) : (subC k t).s = k.s ∧ (subC k t).E = k.E ∧ (subC k t).L = k.L := by
  unfold subC
  split <;> exact ⟨rfl, rfl, rfl⟩
theorem inc_s {k : CS} (i : Int) : (incC k i).s.time = k.s.time := by
  unfold incC
  split
  · exact ap_time (ap := incA k i) rfl
  · rfl
theorem stp_time {k : CS} {n : Nat} (h : CI k n) {o : Ev} (ho : EvIn o) : k.s.time ≤ (stp k o).s.time := by
  have h1 := rise_b (((h.sub ho.tx).inc o.co).s) o.tm
  have h2 : (incC (subC k o.tx) o.co).s.time = k.s.time := (inc_s _).trans (congrArg SS.time (subC_s k o.tx).1)
  show _ ≤ (incC (subC k o.tx) o.co).s.time + _
  omega
theorem stp_E {k : CS} {n : Nat} (h : CI k n) {o : Ev} (ho : EvIn o) : ((stp k o).E = k.E ∧ (stp k o).s.no = k.s.no) ∨ ∃ e, (stp k o).E = k.E ++ [e] ∧ chk e.tx = 0 ∧ e.tx.no = k.s.no e.tx.fr.toNat ∧ (stp k o).s.no = upd k.s.no e.tx.fr.toNat (k.s.no e.tx.fr.toNat + 1) := by
  obtain ⟨h1, h2, h3⟩ := subC_s k o.tx
  by_cases ho : incOk (subC k o.tx) o.co = true
  · right
    refine ⟨⟨(incA (subC k o.tx) o.co).s.time, (incA (subC k o.tx) o.co).e, incT (subC k o.tx) o.co⟩, ?_⟩
    have h4 : (incA (subC k o.tx) o.co).ok = true := by
      unfold incOk at ho
      simp only [Bool.and_eq_true] at ho
      exact ho.2
    obtain ⟨g1, g2, g3⟩ := ap_no (ap := incA (subC k o.tx) o.co) rfl h4
    rw [h1] at g2 g3
    refine ⟨?_, g1, g2, ?_⟩
    · show (incC (subC k o.tx) o.co).E = _
      rw [incC_t ho, ← h2]
    · show (incC (subC k o.tx) o.co).s.no = _
      rw [incC_t ho]
      exact g3
  · left
    have h5 : incC (subC k o.tx) o.co = subC k o.tx := incC_f (by simpa using ho)
    constructor
    · show (incC (subC k o.tx) o.co).E = _
      rw [h5, h2]
    · show (incC (subC k o.tx) o.co).s.no = _
      rw [h5, h1]
theorem getD_app {E : List Ev} {e : Ev} {n : Nat} (h : n < E.length) : (E ++ [e]).getD n ev0 = E.getD n ev0 := by
  rw [List.getD_eq_getElem?_getD, List.getD_eq_getElem?_getD, List.getElem?_append_left h]
theorem getD_last {E : List Ev} {e : Ev} : (E ++ [e]).getD E.length ev0 = e := by
  rw [List.getD_eq_getElem?_getD, List.getElem?_append_right (Nat.le_refl _), Nat.sub_self]
  rfl
theorem eq_no {ns : Nat → Int} (h : ∀ j, I64 (ns j)) (w : World) : (Op.equal 31 (.agg (ncell ns).toArray) (.agg (ncell ns).toArray)).run Tryz.prog w = .ok true w := eq_flat (k := 3) (L := i64s 8) (by kernel_rfl) (by kernel_rfl) (by kernel_rfl) (by kernel_rfl) (by kernel_rfl) (by decide) (Sam.no_reads (W := w) h) (Sam.no_reads h) (by simp) w
theorem Qv.eqNo {mm T' : Nat} {x y : Operand} {l : TL} {ns : Nat → Int} (hx : ev l x = some (.agg (ncell ns).toArray)) (hy : ev l y = some (.agg (ncell ns).toArray)) (h : ∀ j, I64 (ns j)) : Qv Tryz.prog mm l (.binOp .eql 31 x y T') (.bool true) := Qv.eqlA (r := true) hx hy (by kernel_rfl) (fun w => eq_no h w)
theorem J.reCh {c : Cx} {l : TL} {H H' : List Asrt} {G : Act → World → Prop} {b : Nat} {k k' : CS} (hu : Upd (chn b k) (chn b k') H H') (e : k = k') (K : J c l H' G) : J c l H G := by
  subst e
  have : H = H' := by
    clear K
    induction hu with
    | here => rfl
    | there _ ih => rw [ih]
  subst this
  exact K
theorem J.someR {c : Cx} {l : TL} {H : List Asrt} {G : Act → World → Prop} {ao : Option Addr} {n cap E sz : Nat} {C : List Value} (hm : In (row (.slice ao n cap) E sz n C) H) (hz : sz ≠ 0) (K : (0 < n → ao.isSome = true) → J c l H G) : J c l H G := J.mk fun a w s => by
  obtain ⟨h1, h2, _, h3, _⟩ := s.2.2.rd_row hm
  refine (K fun hn => h1.isSome fun e => ?_).out a w s
  rw [e] at h3
  have : n * sz = 0 := by simpa using h3.symm
  rcases Nat.mul_eq_zero.1 this with h | h <;> omega
theorem evs0 (b : Nat) (k : CS) (w : World) (hw : ChRd w b k ∧ k.E.length ≤ 1000) : CSpec Tryz.prog 29 [.pointer (some ⟨b, 0, none⟩), .int .i64 0] [] w (Fresh 72 27 k.E.length (evc k.E) []) := by
  have h := events_ b k 0 w hw
  rw [fromE_0] at h
  exact h
theorem crise_c (b : Nat) (k k' : CS) (t : Int) (e : k.wS (riseS k.s t) k.L = k') (w : World) (h : CB k) : CSpec Tryz.prog 32 [.pointer (some ⟨b, 0, none⟩), .int .i64 t] [chn b k] w (ChR (.tuple #[]) b k') := e ▸ crise_ b k t w h
theorem stays (side time : Int) (ao : Option Addr) (cap : Nat) (T : List Ev) (w : World) (hw : Rd w ao (evc T) ∧ EsIn T ∧ T.length ≤ maxLen) : CSpec Tryz.prog 6 [.int .i64 side, .int .i64 time, .slice ao T.length cap] [] w (Gives (.bool true)) := by
  obtain ⟨hr, hT, hm⟩ := hw
  have hm9 : T.length ≤ 9223372036854775807 := by unfold maxLen at hm; omega
  have hao : 0 < T.length → ao.isSome = true := evs_some hr
  refine spec_own0 Tryz.func6 rfl Tryz.ntmps6 rfl (l0 := [(0, .int .i64 side), (1, .int .i64 time), (2, .slice ao T.length cap)]) rfl ?_
  repeat' first
    | ((with_reducible apply J.givesW (alive13)); exact rfl; exact rfl)
    | ((with_reducible apply J.newE (new_ _ _)); exact rfl; exact rfl; intro b9)
    | ((with_reducible apply J.givesR (time_ _ _)); exact rfl; exact rfl; (focus (exact RH.and (RH.chn (by (repeat (first | with_reducible exact In.here | with_reducible apply In.there)))) (RH.of trivial))))
    | refine J.one ?_
    | refine J.loudS ?_
    | (refine J.loudQ ?_; intro _ _)
    | (refine J.loudB ?_; intro _)
    | (with_reducible apply J.list)
    | ((with_reducible apply J.draw (id := 19) [0, 0, 3, 7, 0, 0, 48, 112, 255] (.p 0 (.p 1 (.p 2 (.q 3 (.p 4 (.p 5 (.p 6 (.q 7 (.p 8 .nil))))))))) (by kernel_rfl) ?_ (by kernel_rfl) ?_); (repeat (with_reducible first | exact PanicFree.body | exact PanicFree.np | exact PanicFree.lvS | apply PanicFree.then_ | apply PanicFree.blk)))
    | ((with_reducible apply J.draw (id := 23) [0, 1, 0, 4, 12, 28, 63] (.p 0 (.q 1 (.p 2 (.q 3 (.p 4 (.q 5 (.p 6 .nil))))))) (by kernel_rfl) ?_ (by kernel_rfl) ?_); (repeat (with_reducible first | exact PanicFree.body | exact PanicFree.np | exact PanicFree.lvS | apply PanicFree.then_ | apply PanicFree.blk)))
    | ((with_reducible apply J.draw (id := 27) [0, 1, 3, 0, 15, 31] (.p 0 (.q 3 (.x 1 (.p 2 (.p 4 (.p 5 .nil))) .none))) (by kernel_rfl) ?_ (by kernel_rfl) ?_); (repeat (with_reducible first | exact PanicFree.body | exact PanicFree.np | exact PanicFree.lvS | apply PanicFree.then_ | apply PanicFree.blk)))
    | ((with_reducible apply J.pl2); exact rfl; (first | exact Gd.none | ((with_reducible apply Gd.on); exact rfl; exact rfl)); (repeat (first | (with_reducible exact PendF.nil) | ((with_reducible apply PendF.keep); exact rfl) | ((with_reducible apply PendF.gone); exact rfl))))
    | ((with_reducible apply J.pl2_off); exact rfl; ((with_reducible apply Gd.off); exact rfl; exact rfl; exact rfl); exact rfl; (repeat (first | (with_reducible exact PendF.nil) | ((with_reducible apply PendF.keep); exact rfl) | ((with_reducible apply PendF.gone); exact rfl))))
    | ((with_reducible apply J.pl2_off_none); exact rfl; ((with_reducible apply Gd.off); exact rfl; exact rfl; exact rfl); (repeat (first | (with_reducible exact PendF.nil) | ((with_reducible apply PendF.keep); exact rfl) | ((with_reducible apply PendF.gone); exact rfl))))
    | ((with_reducible first | apply J.psplit0 | apply J.psplit1 | apply J.psplit2); exact rfl; exact rfl; exact rfl)
    | (with_reducible exact J.pl_none)
    | ((with_reducible apply J.gsplit); exact rfl; exact rfl)
    | ((with_reducible first | apply J.cond | apply JC.cond); exact rfl)
    | (intro h; exfalso; (first | (simp at h; done) | omega))
    | (intro h; (try simp only [decide_eq_true_eq, decide_eq_false_iff_not, beq_iff_eq, beq_eq_false_iff_ne, Bool.not_eq_true', Bool.not_eq_false', bne_iff_ne, bne_eq_false_iff_eq, ne_eq, ge_iff_le, gt_iff_lt] at h))
    | (with_reducible apply J.gave')
    | ((with_reducible apply J.kept'); rotate_left; (repeat (first | (with_reducible exact Outs.nil) | ((with_reducible apply Outs.cons); (repeat (first | with_reducible exact Out.here | with_reducible apply Out.there))))))
  all_goals
    rename_i bn
    obtain ⟨k0, e0⟩ : ∃ k0, k0 = CS.new side time := ⟨_, rfl⟩
    have hc0 : CI k0 0 := e0 ▸ CI.new side time
    have hE0 : k0.E = [] := e0 ▸ rfl
    apply J.reB (b := bn) (C' := ncell k0.s.no)
    · (repeat (first | with_reducible exact Upd.here | with_reducible apply Upd.there))
    · rw [e0]; kernel_rfl
    refine J.reCh (b := b9) (k' := k0) (by (repeat (first | with_reducible exact Upd.here | with_reducible apply Upd.there))) e0.symm ?_
    refine J.nilRow 72 27 ?_
    apply J.reR (E := 72) (v := .slice none 0 0) (n := 0) (C := []) (v' := .slice none k0.E.length 0) (n' := k0.E.length) (C' := evc k0.E)
    · (repeat (first | with_reducible exact Upd.here | with_reducible apply Upd.there))
    · rw [hE0]; rfl
    · rw [hE0]; rfl
    · rw [hE0]; rfl
    apply J.loopI (σ := Nat × CS × (Option Addr × Nat)) (I := fun x => x.1 ≤ T.length ∧ x.1 ≤ 30 ∧ CI x.2.1 (2 * x.1)) (L := fun x => [(2, .slice ao T.length cap), (7, .pointer (some ⟨b9, 0, none⟩)), (9, .pointer (some ⟨bn, 0, none⟩)), (8, .slice x.2.2.1 x.2.1.E.length x.2.2.2), (10, .int .i64 x.2.1.s.time), (11, .int .i64 (x.1 : Int))]) (HH := fun x => [row (.slice x.2.2.1 x.2.1.E.length x.2.2.2) 72 27 x.2.1.E.length (evc x.2.1.E), chn b9 x.2.1, blk bn (ncell x.2.1.s.no) 31]) (m := fun x => T.length - x.1) (s0 := (0, k0, (none, 0)))
    · ((try dsimp only); (exact ⟨Nat.zero_le _, Nat.zero_le _, hc0⟩))
    · ((try dsimp only); repeat (first | exact sub.nil _ | (refine sub.consE rfl ?_ ?_; (first | with_reducible rfl | ((focus (first | (rw [hE0]; rfl) | (rw [e0])))) | rfl))))
    · ((try dsimp only); (repeat (first | (with_reducible exact Outs.nil) | ((with_reducible apply Outs.cons); (repeat (first | with_reducible exact Out.here | with_reducible apply Out.there))))))
    rintro ⟨i, k, q⟩ ⟨hi, hi3, hc⟩
    try dsimp only at *
    have ho := hT.get i
    obtain ⟨k', hk'⟩ : ∃ k', stp k (T.getD i ev0) = k' := ⟨_, rfl⟩
    have hk2 : (incC (subC k (T.getD i ev0).tx) (T.getD i ev0).co).wS (riseS (incC (subC k (T.getD i ev0).tx) (T.getD i ev0).co).s (T.getD i ev0).tm) (incC (subC k (T.getD i ev0).tx) (T.getD i ev0).co).L = k' := hk'
    have hc' : CI k' (2 * i + 2) := hk' ▸ stp_ci hc ho
    have htm : k.s.time ≤ k'.s.time := hk' ▸ stp_time hc ho
    have hE := stp_E hc ho
    rw [hk'] at hE
    have hlen : k.E.length ≤ k'.E.length ∧ k'.E.length ≤ k.E.length + 1 := by
      rcases hE with ⟨h1, _⟩ | ⟨e, h1, _⟩ <;> rw [h1] <;> simp
    have hpre : ∀ n, n < k.E.length → k'.E.getD n ev0 = k.E.getD n ev0 := fun n hn => by
      rcases hE with ⟨h1, _⟩ | ⟨e, h1, _⟩ <;> rw [h1]
      exact getD_app hn
    have hkE := hc.E
    repeat' first
      | (refine J.qv ?_; (with_reducible apply exq); focus (first
        | ((with_reducible apply Qv.indexSrcs (k := i)); exact rfl; exact rfl; (focus omega); (focus omega); exact hao (by omega))
        | ((with_reducible apply Qv.fieldAdd); exact rfl)
        | ((with_reducible apply Qv.add); exact rfl; exact rfl; exact wr64 (by have := hc.E; omega) (by have := hc.E; omega) rfl)))
      | (refine J.qr ?_; (with_reducible apply exq); focus (first
        | ((with_reducible apply Qr.rd1 (C := evc T) (j := i * 27 + 0)); exact rfl; exact RH.old hr; exact evc_get (by omega) (by decide))
        | ((with_reducible apply Qr.rd1 (C := evc T) (j := i * 27 + 1)); exact rfl; exact RH.old hr; exact evc_get (by omega) (by decide))
        | ((with_reducible apply Qr.rdN (C := evc T) (j := i * 27 + 2) (cs := (T.getD i ev0).tx.cells)); exact rfl; exact RH.old hr; exact evc_tx (by omega); exact tx_len _)))
      | (refine J.qo ?_; refine ⟨?_, ?_⟩; focus (first
        | ((with_reducible apply Qr.rd1 (C := evc T) (j := i * 27 + 0)); exact rfl; exact RH.old hr; exact evc_get (by omega) (by decide))
        | ((with_reducible apply Qr.rd1 (C := evc T) (j := i * 27 + 1)); exact rfl; exact RH.old hr; exact evc_get (by omega) (by decide))
        | ((with_reducible apply Qr.rdN (C := evc T) (j := i * 27 + 2) (cs := (T.getD i ev0).tx.cells)); exact rfl; exact RH.old hr; exact evc_tx (by omega); exact tx_len _)))
      | ((with_reducible apply J.chE (fun w h => submit_ _ k (T.getD i ev0).tx w h)); exact rfl; exact rfl; (repeat (first | (with_reducible exact Outs.nil) | ((with_reducible apply Outs.cons); (repeat (first | with_reducible exact Out.here | with_reducible apply Out.there))))); exact RH.of ⟨hc.cb (by omega), ho.tx⟩)
      | ((with_reducible apply J.chE (fun w h => include_ _ (subC k (T.getD i ev0).tx) (T.getD i ev0).co w h)); exact rfl; exact rfl; (repeat (first | (with_reducible exact Outs.nil) | ((with_reducible apply Outs.cons); (repeat (first | with_reducible exact Out.here | with_reducible apply Out.there))))); exact RH.of ((hc.sub ho.tx).cb (by omega)))
      | ((with_reducible apply J.chE (fun w h => crise_c _ _ k' (T.getD i ev0).tm hk2 w h)); exact rfl; exact rfl; (repeat (first | (with_reducible exact Outs.nil) | ((with_reducible apply Outs.cons); (repeat (first | with_reducible exact Out.here | with_reducible apply Out.there))))); exact RH.of (((hc.sub ho.tx).inc _).cb (by omega)))
      | ((with_reducible apply J.freshR (evs0 _ _)); exact rfl; exact rfl; (exact RH.and (RH.chn (by (repeat (first | with_reducible exact In.here | with_reducible apply In.there)))) (RH.of (by have := hc'.E; omega))); intro q9 hq9)
      | ((with_reducible apply J.givesR (time_ _ _)); exact rfl; exact rfl; (focus (exact RH.and (RH.chn (by (repeat (first | with_reducible exact In.here | with_reducible apply In.there)))) (RH.of trivial))))
      | refine J.one ?_
      | refine J.loudS ?_
      | (refine J.loudQ ?_; intro _ _)
      | (refine J.loudB ?_; intro _)
      | (with_reducible apply J.list)
      | ((with_reducible apply J.draw (id := 19) [0, 0, 3, 7, 0, 0, 48, 112, 255] (.p 0 (.p 1 (.p 2 (.q 3 (.p 4 (.p 5 (.p 6 (.q 7 (.p 8 .nil))))))))) (by kernel_rfl) ?_ (by kernel_rfl) ?_); (repeat (with_reducible first | exact PanicFree.body | exact PanicFree.np | exact PanicFree.lvS | apply PanicFree.then_ | apply PanicFree.blk)))
      | ((with_reducible apply J.draw (id := 23) [0, 1, 0, 4, 12, 28, 63] (.p 0 (.q 1 (.p 2 (.q 3 (.p 4 (.q 5 (.p 6 .nil))))))) (by kernel_rfl) ?_ (by kernel_rfl) ?_); (repeat (with_reducible first | exact PanicFree.body | exact PanicFree.np | exact PanicFree.lvS | apply PanicFree.then_ | apply PanicFree.blk)))
      | ((with_reducible apply J.draw (id := 27) [0, 1, 3, 0, 15, 31] (.p 0 (.q 3 (.x 1 (.p 2 (.p 4 (.p 5 .nil))) .none))) (by kernel_rfl) ?_ (by kernel_rfl) ?_); (repeat (with_reducible first | exact PanicFree.body | exact PanicFree.np | exact PanicFree.lvS | apply PanicFree.then_ | apply PanicFree.blk)))
      | ((with_reducible apply J.pl2); exact rfl; (first | exact Gd.none | ((with_reducible apply Gd.on); exact rfl; exact rfl)); (repeat (first | (with_reducible exact PendF.nil) | ((with_reducible apply PendF.keep); exact rfl) | ((with_reducible apply PendF.gone); exact rfl))))
      | ((with_reducible apply J.pl2_off); exact rfl; ((with_reducible apply Gd.off); exact rfl; exact rfl; exact rfl); exact rfl; (repeat (first | (with_reducible exact PendF.nil) | ((with_reducible apply PendF.keep); exact rfl) | ((with_reducible apply PendF.gone); exact rfl))))
      | ((with_reducible apply J.pl2_off_none); exact rfl; ((with_reducible apply Gd.off); exact rfl; exact rfl; exact rfl); (repeat (first | (with_reducible exact PendF.nil) | ((with_reducible apply PendF.keep); exact rfl) | ((with_reducible apply PendF.gone); exact rfl))))
      | ((with_reducible first | apply J.psplit0 | apply J.psplit1 | apply J.psplit2); exact rfl; exact rfl; exact rfl)
      | (with_reducible exact J.pl_none)
      | ((with_reducible apply J.gsplit); exact rfl; exact rfl)
      | ((with_reducible first | apply J.cond | apply JC.cond); exact rfl)
      | (intro h; exfalso; (first | (simp at h; done) | (simp at h; omega) | omega))
      | (intro h; (try simp only [decide_eq_true_eq, decide_eq_false_iff_not, beq_iff_eq, beq_eq_false_iff_ne, Bool.not_eq_true', Bool.not_eq_false', bne_iff_ne, bne_eq_false_iff_eq, ne_eq, ge_iff_le, gt_iff_lt] at h))
      | (with_reducible apply J.gave')
      | ((with_reducible apply J.kept'); rotate_left; (repeat (first | (with_reducible exact Outs.nil) | ((with_reducible apply Outs.cons); (repeat (first | with_reducible exact Out.here | with_reducible apply Out.there))))))
    · (with_reducible apply J.someR (ao := q9.1) (n := k'.E.length) (E := 72) (C := evc k'.E) (sz := 27) (by (repeat (first | with_reducible exact In.here | with_reducible apply In.there))) (by decide); intro hnow)
      (with_reducible apply J.someR (ao := q.1) (n := k.E.length) (E := 72) (C := evc k.E) (sz := 27) (by (repeat (first | with_reducible exact In.here | with_reducible apply In.there))) (by decide); intro hwas)
      rcases hE with ⟨h1, h2⟩ | ⟨e, h1, g1, g2, g3⟩
      · have hl : k'.E.length = k.E.length := by rw [h1]
        apply J.loopI (σ := Nat) (I := fun n => n ≤ k.E.length) (L := fun n => [(2, .slice ao T.length cap), (7, .pointer (some ⟨b9, 0, none⟩)), (9, .pointer (some ⟨bn, 0, none⟩)), (12, .slice q9.1 k'.E.length q9.2), (8, .slice q.1 k.E.length q.2), (10, .int .i64 k.s.time), (11, .int .i64 (i : Int)), (13, .int .i64 (n : Int))]) (HH := fun n => [row (.slice q9.1 k'.E.length q9.2) 72 27 k'.E.length (evc k'.E), row (.slice q.1 k.E.length q.2) 72 27 k.E.length (evc k.E), chn b9 k', blk bn (ncell k.s.no) 31]) (m := fun n => k.E.length - n) (s0 := 0)
        · ((try dsimp only); omega)
        · ((try dsimp only); repeat (first | exact sub.nil _ | (refine sub.consE rfl ?_ ?_; (first | with_reducible rfl | (fail) | rfl))))
        · ((try dsimp only); (repeat (first | (with_reducible exact Outs.nil) | ((with_reducible apply Outs.cons); (repeat (first | with_reducible exact Out.here | with_reducible apply Out.there))))))
        rintro n hn
        try dsimp only at hn ⊢
        repeat' first
          | (refine J.qv ?_; (with_reducible apply exq); focus (first
            | ((with_reducible apply Qv.indexSrcs (k := n)); exact rfl; exact rfl; (focus omega); (focus omega); (first | exact hnow (by omega) | exact hwas (by omega)))
            | ((with_reducible apply Qv.neEv); exact rfl; exact rfl; exact hc.e.get _)
            | ((with_reducible apply Qv.add); exact rfl; exact rfl; exact wr64 (by omega) (by omega) rfl)))
          | (refine J.qr ?_; (with_reducible apply exq); focus (first
            | ((with_reducible apply Qr.rdN (C := evc k'.E) (j := n * 27) (cs := (k.E.getD n ev0).cells)); exact rfl; exact RH.row (by (repeat (first | with_reducible exact In.here | with_reducible apply In.there))); exact (evc_at (by omega)).trans (congrArg Ev.cells (hpre n (by omega))); exact ev_len _)
            | ((with_reducible apply Qr.rdN (C := evc k.E) (j := n * 27) (cs := (k.E.getD n ev0).cells)); exact rfl; exact RH.row (by (repeat (first | with_reducible exact In.here | with_reducible apply In.there))); exact evc_at (by omega); exact ev_len _)))
          | (refine J.qo ?_; refine ⟨?_, ?_⟩; focus (first
            | ((with_reducible apply Qr.rdN (C := evc k'.E) (j := n * 27) (cs := (k.E.getD n ev0).cells)); exact rfl; exact RH.row (by (repeat (first | with_reducible exact In.here | with_reducible apply In.there))); exact (evc_at (by omega)).trans (congrArg Ev.cells (hpre n (by omega))); exact ev_len _)
            | ((with_reducible apply Qr.rdN (C := evc k.E) (j := n * 27) (cs := (k.E.getD n ev0).cells)); exact rfl; exact RH.row (by (repeat (first | with_reducible exact In.here | with_reducible apply In.there))); exact evc_at (by omega); exact ev_len _)))
          | ((with_reducible apply J.givesR (time_ _ _)); exact rfl; exact rfl; (focus (exact RH.and (RH.chn (by (repeat (first | with_reducible exact In.here | with_reducible apply In.there)))) (RH.of trivial))))
          | refine J.one ?_
          | refine J.loudS ?_
          | (refine J.loudQ ?_; intro _ _)
          | (refine J.loudB ?_; intro _)
          | (with_reducible apply J.list)
          | ((with_reducible apply J.draw (id := 19) [0, 0, 3, 7, 0, 0, 48, 112, 255] (.p 0 (.p 1 (.p 2 (.q 3 (.p 4 (.p 5 (.p 6 (.q 7 (.p 8 .nil))))))))) (by kernel_rfl) ?_ (by kernel_rfl) ?_); (repeat (with_reducible first | exact PanicFree.body | exact PanicFree.np | exact PanicFree.lvS | apply PanicFree.then_ | apply PanicFree.blk)))
          | ((with_reducible apply J.draw (id := 23) [0, 1, 0, 4, 12, 28, 63] (.p 0 (.q 1 (.p 2 (.q 3 (.p 4 (.q 5 (.p 6 .nil))))))) (by kernel_rfl) ?_ (by kernel_rfl) ?_); (repeat (with_reducible first | exact PanicFree.body | exact PanicFree.np | exact PanicFree.lvS | apply PanicFree.then_ | apply PanicFree.blk)))
          | ((with_reducible apply J.draw (id := 27) [0, 1, 3, 0, 15, 31] (.p 0 (.q 3 (.x 1 (.p 2 (.p 4 (.p 5 .nil))) .none))) (by kernel_rfl) ?_ (by kernel_rfl) ?_); (repeat (with_reducible first | exact PanicFree.body | exact PanicFree.np | exact PanicFree.lvS | apply PanicFree.then_ | apply PanicFree.blk)))
          | ((with_reducible apply J.pl2); exact rfl; (first | exact Gd.none | ((with_reducible apply Gd.on); exact rfl; exact rfl)); (repeat (first | (with_reducible exact PendF.nil) | ((with_reducible apply PendF.keep); exact rfl) | ((with_reducible apply PendF.gone); exact rfl))))
          | ((with_reducible apply J.pl2_off); exact rfl; ((with_reducible apply Gd.off); exact rfl; exact rfl; exact rfl); exact rfl; (repeat (first | (with_reducible exact PendF.nil) | ((with_reducible apply PendF.keep); exact rfl) | ((with_reducible apply PendF.gone); exact rfl))))
          | ((with_reducible apply J.pl2_off_none); exact rfl; ((with_reducible apply Gd.off); exact rfl; exact rfl; exact rfl); (repeat (first | (with_reducible exact PendF.nil) | ((with_reducible apply PendF.keep); exact rfl) | ((with_reducible apply PendF.gone); exact rfl))))
          | ((with_reducible first | apply J.psplit0 | apply J.psplit1 | apply J.psplit2); exact rfl; exact rfl; exact rfl)
          | (with_reducible exact J.pl_none)
          | ((with_reducible apply J.gsplit); exact rfl; exact rfl)
          | ((with_reducible first | apply J.cond | apply JC.cond); exact rfl)
          | (intro h; exfalso; (first | (simp at h; done) | (simp at h; omega) | omega))
          | (intro h; (try simp only [decide_eq_true_eq, decide_eq_false_iff_not, beq_iff_eq, beq_eq_false_iff_ne, Bool.not_eq_true', Bool.not_eq_false', bne_iff_ne, bne_eq_false_iff_eq, ne_eq, ge_iff_le, gt_iff_lt] at h))
          | (with_reducible apply J.gave')
          | ((with_reducible apply J.kept'); rotate_left; (repeat (first | (with_reducible exact Outs.nil) | ((with_reducible apply Outs.cons); (repeat (first | with_reducible exact Out.here | with_reducible apply Out.there))))))
        all_goals first
          | rfl
          | (apply J.againI (s := n) (s' := (n + 1)); (focus (omega)); (focus ((try dsimp only); omega)); (focus (((try dsimp only); repeat (first | exact sub.nil _ | (refine sub.consE rfl ?_ ?_; (first | with_reducible rfl | ((focus (congr 1; omega))) | rfl)))))); ((try dsimp only); (repeat (first | (with_reducible exact Outs.nil) | ((with_reducible apply Outs.cons); (repeat (first | with_reducible exact Out.here | with_reducible apply Out.there)))))))
          | (apply J.reB (b := bn) (C' := ncell k'.s.no)
             · (repeat (first | with_reducible exact Upd.here | with_reducible apply Upd.there))
             · rw [h2]
             · (apply J.againI (s := (i, k, q)) (s' := (i + 1, k', q9)); (focus (((try dsimp only) <;> omega))); (focus ((try dsimp only); (exact ⟨by omega, by omega, hc'.more (by omega)⟩))); (focus (((try dsimp only); repeat (first | exact sub.nil _ | (refine sub.consE rfl ?_ ?_; (first | with_reducible rfl | ((focus (congr 1; omega))) | rfl)))))); ((try dsimp only); (repeat (first | (with_reducible exact Outs.nil) | ((with_reducible apply Outs.cons); (repeat (first | with_reducible exact Out.here | with_reducible apply Out.there))))))))
          | (trace_state; fail)
      · have hl : k'.E.length = k.E.length + 1 := by rw [h1]; simp
        have hfr := chk_fr g1
        have hno := chk_no g1
        apply J.loopI (σ := Nat) (I := fun n => n ≤ k.E.length) (L := fun n => [(2, .slice ao T.length cap), (7, .pointer (some ⟨b9, 0, none⟩)), (9, .pointer (some ⟨bn, 0, none⟩)), (12, .slice q9.1 k'.E.length q9.2), (8, .slice q.1 k.E.length q.2), (10, .int .i64 k.s.time), (11, .int .i64 (i : Int)), (13, .int .i64 (n : Int))]) (HH := fun n => [row (.slice q9.1 k'.E.length q9.2) 72 27 k'.E.length (evc k'.E), row (.slice q.1 k.E.length q.2) 72 27 k.E.length (evc k.E), chn b9 k', blk bn (ncell k.s.no) 31]) (m := fun n => k.E.length - n) (s0 := 0)
        · ((try dsimp only); omega)
        · ((try dsimp only); repeat (first | exact sub.nil _ | (refine sub.consE rfl ?_ ?_; (first | with_reducible rfl | (fail) | rfl))))
        · ((try dsimp only); (repeat (first | (with_reducible exact Outs.nil) | ((with_reducible apply Outs.cons); (repeat (first | with_reducible exact Out.here | with_reducible apply Out.there))))))
        rintro n hn
        try dsimp only at hn ⊢
        repeat' first
          | (refine J.qv ?_; (with_reducible apply exq); focus (first
            | ((with_reducible apply Qv.indexSrcs (k := k.E.length)); exact rfl; exact rfl; (focus omega); (focus omega); exact hnow (by omega))
            | ((with_reducible apply Qv.indexSrcs (k := n)); exact rfl; exact rfl; (focus omega); (focus omega); (first | exact hnow (by omega) | exact hwas (by omega)))
            | ((with_reducible apply Qv.neEv); exact rfl; exact rfl; exact hc.e.get _)
            | ((with_reducible apply Qv.fieldAdd); exact rfl)
            | ((with_reducible apply Qv.add); exact rfl; exact rfl; exact wr64 (by omega) (by omega) rfl)))
          | (refine J.qr ?_; (with_reducible apply exq); focus (first
            | ((with_reducible apply Qr.rdN (C := evc k'.E) (j := n * 27) (cs := (k.E.getD n ev0).cells)); exact rfl; exact RH.row (by (repeat (first | with_reducible exact In.here | with_reducible apply In.there))); exact (evc_at (by omega)).trans (congrArg Ev.cells (hpre n (by omega))); exact ev_len _)
            | ((with_reducible apply Qr.rdN (C := evc k.E) (j := n * 27) (cs := (k.E.getD n ev0).cells)); exact rfl; exact RH.row (by (repeat (first | with_reducible exact In.here | with_reducible apply In.there))); exact evc_at (by omega); exact ev_len _)
            | ((with_reducible apply Qr.rdN (C := evc k'.E) (j := k.E.length * 27 + 2) (cs := e.tx.cells)); exact rfl; exact RH.row (by (repeat (first | with_reducible exact In.here | with_reducible apply In.there))); exact (evc_tx (by omega)).trans (by rw [h1, getD_last]); exact tx_len _)
            | ((with_reducible apply Qr.load1); exact rfl; (focus ((repeat (first | with_reducible exact In.here | with_reducible apply In.there)); done)); exact tab_get (by omega))))
          | (refine J.qo ?_; refine ⟨?_, ?_⟩; focus (first
            | ((with_reducible apply Qr.rdN (C := evc k'.E) (j := n * 27) (cs := (k.E.getD n ev0).cells)); exact rfl; exact RH.row (by (repeat (first | with_reducible exact In.here | with_reducible apply In.there))); exact (evc_at (by omega)).trans (congrArg Ev.cells (hpre n (by omega))); exact ev_len _)
            | ((with_reducible apply Qr.rdN (C := evc k.E) (j := n * 27) (cs := (k.E.getD n ev0).cells)); exact rfl; exact RH.row (by (repeat (first | with_reducible exact In.here | with_reducible apply In.there))); exact evc_at (by omega); exact ev_len _)
            | ((with_reducible apply Qr.rdN (C := evc k'.E) (j := k.E.length * 27 + 2) (cs := e.tx.cells)); exact rfl; exact RH.row (by (repeat (first | with_reducible exact In.here | with_reducible apply In.there))); exact (evc_tx (by omega)).trans (by rw [h1, getD_last]); exact tx_len _)
            | ((with_reducible apply Qr.load1); exact rfl; (focus ((repeat (first | with_reducible exact In.here | with_reducible apply In.there)); done)); exact tab_get (by omega))))
          | ((with_reducible apply J.storeFull); exact rfl; exact rfl; (repeat (first | with_reducible exact Upd.here | with_reducible apply Upd.there)); (with_reducible exact tx_len _); kernel_rfl; rfl)
          | ((with_reducible apply J.store1); exact rfl; exact rfl; exact rfl; (repeat (first | with_reducible exact Upd.here | with_reducible apply Upd.there)); exact ncell_put _ (by omega) _; (focus (rw [ncell_length]; omega)))
          | ((with_reducible apply J.givesR (time_ _ _)); exact rfl; exact rfl; (focus (exact RH.and (RH.chn (by (repeat (first | with_reducible exact In.here | with_reducible apply In.there)))) (RH.of trivial))))
          | refine J.one ?_
          | refine J.loudS ?_
          | (refine J.loudQ ?_; intro _ _)
          | (refine J.loudB ?_; intro _)
          | (with_reducible apply J.list)
          | ((with_reducible apply J.draw (id := 19) [0, 0, 3, 7, 0, 0, 48, 112, 255] (.p 0 (.p 1 (.p 2 (.q 3 (.p 4 (.p 5 (.p 6 (.q 7 (.p 8 .nil))))))))) (by kernel_rfl) ?_ (by kernel_rfl) ?_); (repeat (with_reducible first | exact PanicFree.body | exact PanicFree.np | exact PanicFree.lvS | apply PanicFree.then_ | apply PanicFree.blk)))
          | ((with_reducible apply J.draw (id := 23) [0, 1, 0, 4, 12, 28, 63] (.p 0 (.q 1 (.p 2 (.q 3 (.p 4 (.q 5 (.p 6 .nil))))))) (by kernel_rfl) ?_ (by kernel_rfl) ?_); (repeat (with_reducible first | exact PanicFree.body | exact PanicFree.np | exact PanicFree.lvS | apply PanicFree.then_ | apply PanicFree.blk)))
          | ((with_reducible apply J.draw (id := 27) [0, 1, 3, 0, 15, 31] (.p 0 (.q 3 (.x 1 (.p 2 (.p 4 (.p 5 .nil))) .none))) (by kernel_rfl) ?_ (by kernel_rfl) ?_); (repeat (with_reducible first | exact PanicFree.body | exact PanicFree.np | exact PanicFree.lvS | apply PanicFree.then_ | apply PanicFree.blk)))
          | ((with_reducible apply J.pl2); exact rfl; (first | exact Gd.none | ((with_reducible apply Gd.on); exact rfl; exact rfl)); (repeat (first | (with_reducible exact PendF.nil) | ((with_reducible apply PendF.keep); exact rfl) | ((with_reducible apply PendF.gone); exact rfl))))
          | ((with_reducible apply J.pl2_off); exact rfl; ((with_reducible apply Gd.off); exact rfl; exact rfl; exact rfl); exact rfl; (repeat (first | (with_reducible exact PendF.nil) | ((with_reducible apply PendF.keep); exact rfl) | ((with_reducible apply PendF.gone); exact rfl))))
          | ((with_reducible apply J.pl2_off_none); exact rfl; ((with_reducible apply Gd.off); exact rfl; exact rfl; exact rfl); (repeat (first | (with_reducible exact PendF.nil) | ((with_reducible apply PendF.keep); exact rfl) | ((with_reducible apply PendF.gone); exact rfl))))
          | ((with_reducible first | apply J.psplit0 | apply J.psplit1 | apply J.psplit2); exact rfl; exact rfl; exact rfl)
          | (with_reducible exact J.pl_none)
          | ((with_reducible apply J.gsplit); exact rfl; exact rfl)
          | ((with_reducible first | apply J.cond | apply JC.cond); exact rfl)
          | (intro h; exfalso; (first | (simp at h; done) | (simp at h; omega) | omega))
          | (intro h; (try simp only [decide_eq_true_eq, decide_eq_false_iff_not, beq_iff_eq, beq_eq_false_iff_ne, Bool.not_eq_true', Bool.not_eq_false', bne_iff_ne, bne_eq_false_iff_eq, ne_eq, ge_iff_le, gt_iff_lt] at h))
          | (with_reducible apply J.gave')
          | ((with_reducible apply J.kept'); rotate_left; (repeat (first | (with_reducible exact Outs.nil) | ((with_reducible apply Outs.cons); (repeat (first | with_reducible exact Out.here | with_reducible apply Out.there))))))
        all_goals first
          | rfl
          | (apply J.againI (s := n) (s' := (n + 1)); (focus (omega)); (focus ((try dsimp only); omega)); (focus (((try dsimp only); repeat (first | exact sub.nil _ | (refine sub.consE rfl ?_ ?_; (first | with_reducible rfl | ((focus (congr 1; omega))) | rfl)))))); ((try dsimp only); (repeat (first | (with_reducible exact Outs.nil) | ((with_reducible apply Outs.cons); (repeat (first | with_reducible exact Out.here | with_reducible apply Out.there)))))))
          | (apply J.reB (b := bn) (C' := ncell k'.s.no)
             · (repeat (first | with_reducible exact Upd.here | with_reducible apply Upd.there))
             · rw [g3]
             · (apply J.againI (s := (i, k, q)) (s' := (i + 1, k', q9)); (focus (((try dsimp only) <;> omega))); (focus ((try dsimp only); (exact ⟨by omega, by omega, hc'.more (by omega)⟩))); (focus (((try dsimp only); repeat (first | exact sub.nil _ | (refine sub.consE rfl ?_ ?_; (first | with_reducible rfl | ((focus (congr 1; omega))) | rfl)))))); ((try dsimp only); (repeat (first | (with_reducible exact Outs.nil) | ((with_reducible apply Outs.cons); (repeat (first | with_reducible exact Out.here | with_reducible apply Out.there))))))))
          | (trace_state; fail)
    repeat' first
      | (refine J.qv ?_; (with_reducible apply exq); focus (first
        | ((with_reducible apply Qv.fieldN); exact rfl; exact SS.g4w _ _)
        | ((with_reducible apply Qv.eqNo); exact rfl; exact rfl; exact hc.i.no)))
      | (refine J.qr ?_; (with_reducible apply exq); focus (first
        | ((with_reducible apply Qr.loadFull); exact rfl; (focus ((repeat (first | with_reducible exact In.here | with_reducible apply In.there)); done)); with_reducible exact ncell_length _)))
      | (refine J.qo ?_; refine ⟨?_, ?_⟩; focus (first
        | ((with_reducible apply Qr.loadFull); exact rfl; (focus ((repeat (first | with_reducible exact In.here | with_reducible apply In.there)); done)); with_reducible exact ncell_length _)))
      | ((with_reducible apply J.stV (state_ b9 k)); exact rfl; exact rfl; (exact RH.and (RH.chn (by (repeat (first | with_reducible exact In.here | with_reducible apply In.there)))) (RH.of (hc.cb (by omega)))); intro q8 hq8)
      | refine J.one ?_
      | refine J.loudS ?_
      | (refine J.loudQ ?_; intro _ _)
      | (refine J.loudB ?_; intro _)
      | (with_reducible apply J.list)
      | ((with_reducible apply J.draw (id := 19) [0, 0, 3, 7, 0, 0, 48, 112, 255] (.p 0 (.p 1 (.p 2 (.q 3 (.p 4 (.p 5 (.p 6 (.q 7 (.p 8 .nil))))))))) (by kernel_rfl) ?_ (by kernel_rfl) ?_); (repeat (with_reducible first | exact PanicFree.body | exact PanicFree.np | exact PanicFree.lvS | apply PanicFree.then_ | apply PanicFree.blk)))
      | ((with_reducible apply J.draw (id := 23) [0, 1, 0, 4, 12, 28, 63] (.p 0 (.q 1 (.p 2 (.q 3 (.p 4 (.q 5 (.p 6 .nil))))))) (by kernel_rfl) ?_ (by kernel_rfl) ?_); (repeat (with_reducible first | exact PanicFree.body | exact PanicFree.np | exact PanicFree.lvS | apply PanicFree.then_ | apply PanicFree.blk)))
      | ((with_reducible apply J.draw (id := 27) [0, 1, 3, 0, 15, 31] (.p 0 (.q 3 (.x 1 (.p 2 (.p 4 (.p 5 .nil))) .none))) (by kernel_rfl) ?_ (by kernel_rfl) ?_); (repeat (with_reducible first | exact PanicFree.body | exact PanicFree.np | exact PanicFree.lvS | apply PanicFree.then_ | apply PanicFree.blk)))
      | ((with_reducible apply J.pl2); exact rfl; (first | exact Gd.none | ((with_reducible apply Gd.on); exact rfl; exact rfl)); (repeat (first | (with_reducible exact PendF.nil) | ((with_reducible apply PendF.keep); exact rfl) | ((with_reducible apply PendF.gone); exact rfl))))
      | ((with_reducible apply J.pl2_off); exact rfl; ((with_reducible apply Gd.off); exact rfl; exact rfl; exact rfl); exact rfl; (repeat (first | (with_reducible exact PendF.nil) | ((with_reducible apply PendF.keep); exact rfl) | ((with_reducible apply PendF.gone); exact rfl))))
      | ((with_reducible apply J.pl2_off_none); exact rfl; ((with_reducible apply Gd.off); exact rfl; exact rfl; exact rfl); (repeat (first | (with_reducible exact PendF.nil) | ((with_reducible apply PendF.keep); exact rfl) | ((with_reducible apply PendF.gone); exact rfl))))
      | ((with_reducible first | apply J.psplit0 | apply J.psplit1 | apply J.psplit2); exact rfl; exact rfl; exact rfl)
      | (with_reducible exact J.pl_none)
      | ((with_reducible apply J.gsplit); exact rfl; exact rfl)
      | ((with_reducible first | apply J.cond | apply JC.cond); exact rfl)
      | (intro h; exfalso; fail)
      | (intro h; (try simp only [decide_eq_true_eq, decide_eq_false_iff_not, beq_iff_eq, beq_eq_false_iff_ne, Bool.not_eq_true', Bool.not_eq_false', bne_iff_ne, bne_eq_false_iff_eq, ne_eq, ge_iff_le, gt_iff_lt] at h))
      | (with_reducible apply J.gave')
      | ((with_reducible apply J.kept'); rotate_left; (repeat (first | (with_reducible exact Outs.nil) | ((with_reducible apply Outs.cons); (repeat (first | with_reducible exact Out.here | with_reducible apply Out.there))))))
    all_goals first
      | rfl
      | (trace_state; fail)
theorem ChainStays {r : Reach} {b0 : Nat} {H : Type} {enc : TypeId × Value → H} {spare : Nat → Bool} {held : Bool} {d : DataW H} {p : List MemPlace} (side time : Int) (v : Value) (W : World) (g1 : (Lit.int .i64 side).wf = true) (g2 : (Lit.int .i64 time).wf = true) (o : Value.okWide Tryz.prog W r b0 74 v) (t : DataW.Trod enc Tryz.prog W 0 spare held 74 v d p) :
    Calls Tryz.prog 6 #[.int .i64 side, .int .i64 time, v] W fun e w' => e = .returned (.bool true) ∧ Below W.heap.size W w' := by
  obtain ⟨ao, T, cap, rfl, h1, h2, h3, h4⟩ := reads_ops (in_slice (L := evsh) (k := 6) (e := 77) rfl o t (by kernel_rfl))
  exact (stays side time ao cap T W ⟨h4, h3, by omega⟩).below
end Go.Proofs.YtljbedladifgmaaGreat.Sty
namespace Go.Proofs.YtljbedladifgmaaGreat.Bb
open Go Go.RowKit Eng
set_option linter.unusedVariables false
set_option maxRecDepth 100000
set_option linter.unusedSimpArgs false
open Wide Purse Tx Sha Ss Esc Vau Lck Do Prep Ful Doo Tri App Inn Low Gene Alv Kee Txl Cht Chn Chm Chw Chi Chx Civ Ali Sty Deal Mss Ots Hash Bytes
set_option maxHeartbeats 1000000
/-- The first that is taken. -/
noncomputable def oneI (k : CS) : Int := findI (fun i => incOk k (i : Int)) k.P.length
noncomputable def oneOk (k : CS) : Bool := decide (0 ≤ oneI k)
noncomputable def oneC (k : CS) : CS := if oneOk k = true then incC k (oneI k) else k
theorem below_succ {p : Nat → Prop} {i : Nat} (h : ∀ j, j < i → p j) (hi : p i) : ∀ j, j < i + 1 → p j := fun j hj => by
  rcases Nat.lt_or_ge j i with h1 | h1
  · exact h j h1
  · have e : j = i := by omega
    subst e; exact hi
theorem one_t {k : CS} {i : Nat} (hi : i < k.P.length) (h : incOk k (i : Int) = true) (h0 : ∀ j, j < i → incOk k (j : Int) = false) : oneOk k = true ∧ oneC k = incC k (i : Int) := by
  have e : oneI k = (i : Int) := findI_at (p := fun i => incOk k (i : Int)) hi h h0
  have e1 : oneOk k = true := by unfold oneOk; rw [e]; simp
  exact ⟨e1, by unfold oneC; rw [if_pos e1, e]⟩
theorem one_f {k : CS} (h0 : ∀ j, j < k.P.length → incOk k (j : Int) = false) : oneOk k = false ∧ oneC k = k := by
  have e : oneI k = -1 := findI_none (p := fun i => incOk k (i : Int)) h0
  have e1 : oneOk k = false := by unfold oneOk; rw [e]; rfl
  exact ⟨e1, by unfold oneC; rw [e1]; rfl⟩
theorem one_cases (k : CS) : (oneOk k = false ∧ oneC k = k ∧ ∀ j, j < k.P.length → incOk k (j : Int) = false) ∨ ∃ i, i < k.P.length ∧ incOk k (i : Int) = true ∧ oneOk k = true ∧ oneC k = incC k (i : Int) := by
  rcases findI_or (p := fun i => incOk k (i : Int)) (N := k.P.length) with ⟨_, h2⟩ | ⟨i, h1, _, h3, h4⟩
  · exact .inl ⟨(one_f h2).1, (one_f h2).2, h2⟩
  · exact .inr ⟨i, h1, h3, one_t h1 h3 h4⟩
theorem inc_P {k : CS} {i : Nat} (hi : i < k.P.length) (h : incOk k (i : Int) = true) : (incC k (i : Int)).P.length + 1 = k.P.length := by
  rw [incC_t h]
  show (gone _ _).length + 1 = _
  rw [gone_length (atI_lt _ _ (by omega))]
  omega
theorem inc_E {k : CS} {i : Int} (h : incOk k i = true) : (incC k i).E.length = k.E.length + 1 := by
  rw [incC_t h]
  show (k.E ++ _).length = _
  rw [List.length_append]
  rfl
theorem one_P {k : CS} (h : oneOk k = true) : (oneC k).P.length + 1 = k.P.length ∧ (oneC k).E.length = k.E.length + 1 := by
  rcases one_cases k with ⟨h1, _⟩ | ⟨i, h1, h2, h3, h4⟩
  · rw [h1] at h; cases h
  · rw [h4]; exact ⟨inc_P h1 h2, inc_E h2⟩
theorem one_ci {k : CS} {n : Nat} (h : CI k n) : CI (oneC k) (n + 1) := by
  rcases one_cases k with ⟨_, h1, _⟩ | ⟨i, _, _, _, h4⟩
  · rw [h1]; exact h.more (Nat.le_succ _)
  · rw [h4]; exact h.inc _
/-- As many as can be. -/
noncomputable def bld : Nat → CS → Nat × CS
  | 0, k => (0, k)
  | m + 1, k => if oneOk k = true then ((bld m (oneC k)).1 + 1, (bld m (oneC k)).2) else (0, k)
theorem bld_f {m : Nat} {k : CS} (h : oneOk k = false) : bld m k = (0, k) := by
  cases m with
  | zero => rfl
  | succ m => rw [bld, h]; rfl
theorem bld_t {m : Nat} {k : CS} (h : oneOk k = true) : bld (m + 1) k = ((bld m (oneC k)).1 + 1, (bld m (oneC k)).2) := by rw [bld, if_pos h]
/-- What is so behind building. -/
theorem bld_is : ∀ {m n : Nat} {k : CS}, CI k n → (bld m k).1 ≤ m ∧ (bld m k).1 + (bld m k).2.P.length = k.P.length ∧ (bld m k).2.E.length = k.E.length + (bld m k).1 ∧ CI (bld m k).2 (n + (bld m k).1) ∧ ((bld m k).1 < m → oneOk (bld m k).2 = false)
  | 0, n, k, h => ⟨Nat.le_refl _, Nat.zero_add _, rfl, h, fun h => absurd h (Nat.lt_irrefl _)⟩
  | m + 1, n, k, h => by
    cases h1 : oneOk k with
    | false => rw [bld_f h1]; exact ⟨Nat.zero_le _, Nat.zero_add _, rfl, h, fun _ => h1⟩
    | true =>
      rw [bld_t h1]
      obtain ⟨h2, h3, h4, h5, h6⟩ := bld_is (m := m) (one_ci h)
      have h7 := one_P h1
      exact ⟨by dsimp only; omega, by dsimp only; omega, by dsimp only; omega, by dsimp only; rw [show n + ((bld m (oneC k)).1 + 1) = n + 1 + (bld m (oneC k)).1 by omega]; exact h5, fun h8 => h6 (by dsimp only at h8; omega)⟩
theorem bld_end {m j : Nat} {k0 k : CS} (h : bld m k0 = (j + (bld (m - j) k).1, (bld (m - j) k).2)) (hj : ¬ j < m ∨ oneOk k = false) : bld m k0 = (j, k) := by
  rcases hj with h1 | h1
  · rw [show m - j = 0 by omega] at h; exact h
  · rw [bld_f h1] at h; exact h
theorem bld_go {m j : Nat} {k0 k : CS} (h : bld m k0 = (j + (bld (m - j) k).1, (bld (m - j) k).2)) (hj : j < m) (h1 : oneOk k = true) : bld m k0 = (j + 1 + (bld (m - (j + 1)) (oneC k)).1, (bld (m - (j + 1)) (oneC k)).2) := by
  rw [show m - j = m - (j + 1) + 1 by omega, bld_t h1] at h
  rw [h]
  dsimp only
  congr 1
  omega
section
variable {P : Program} {c : Cx} {l : TL} {H : List Asrt}
theorem J.endC {b : Nat} {k k' : CS} {r r' : Value} {R : List Asrt} (ho : Outs [chn b k'] H R) (e : k' = k) (er : r = r') : J c l H (fun _ w => ∃ H3, ChR r' b k (.returned r) H3 ∧ Sat c.w0 c.own H3 w) := by
  subst e; subst er
  refine J.mk fun a w s => ⟨[chn b k'], ⟨rfl, rfl⟩, ?_⟩
  exact Sat.drops (H' := R) (H := [chn b k']) ((s.2.2.perm ho.perm).perm (List.perm_append_comm (l₁ := [chn b k']) (l₂ := R)))
end
theorem one_ (b : Nat) (k : CS) (w : World) (hw : CB k) : CSpec Tryz.prog 77 [.pointer (some ⟨b, 0, none⟩)] [chn b k] w (ChR (.bool (oneOk k)) b (oneC k)) := by
  have hb := hw
  have hbP := hb.P
  refine spec_of Tryz.func77 rfl Tryz.ntmps77 rfl (l0 := [(0, .pointer (some ⟨b, 0, none⟩))]) rfl ?_
  intro fp
  repeat' first
    | (refine J.qv ?_; (with_reducible apply exq); focus (first
      | ((with_reducible apply Qv.add); exact rfl; exact rfl; exact wr64 (by omega) (by omega) rfl)))
    | ((with_reducible apply J.freshR (pool_ b k)); exact rfl; exact rfl; (exact RH.and (RH.chn (by (repeat (first | with_reducible exact In.here | with_reducible apply In.there)))) (RH.of hb.P)); intro q9 hq9)
    | ((with_reducible apply J.chE (fun w h => include_ b k (i : Int) w h)); exact rfl; exact rfl; (repeat (first | (with_reducible exact Outs.nil) | ((with_reducible apply Outs.cons); (repeat (first | with_reducible exact Out.here | with_reducible apply Out.there))))); exact RH.of hb)
    | refine J.one ?_
    | refine J.loudS ?_
    | (refine J.loudQ ?_; intro _ _)
    | (refine J.loudB ?_; intro _)
    | (with_reducible apply J.list)
    | ((with_reducible apply J.gsplit); exact rfl; exact rfl)
    | ((with_reducible first | apply J.cond | apply JC.cond); exact rfl)
    | (intro h; exfalso; (first | (simp at h; done) | (simp at h; omega) | omega))
    | (intro h; (try simp only [decide_eq_true_eq, decide_eq_false_iff_not, beq_iff_eq, beq_eq_false_iff_ne, Bool.not_eq_true', Bool.not_eq_false', bne_iff_ne, bne_eq_false_iff_eq, ne_eq, ge_iff_le, gt_iff_lt] at h))
    | (with_reducible apply J.gave')
    | ((with_reducible apply J.kept'); rotate_left; (repeat (first | (with_reducible exact Outs.nil) | ((with_reducible apply Outs.cons); (repeat (first | with_reducible exact Out.here | with_reducible apply Out.there))))))
  apply J.loopI (σ := Nat) (I := fun i => i ≤ k.P.length ∧ ∀ j, j < i → incOk k (j : Int) = false) (L := fun i => [(0, .pointer (some ⟨b, 0, none⟩)), (6, .int .i64 (k.P.length : Int)), (7, .int .i64 (i : Int))]) (HH := fun i => [chn b k]) (m := fun i => k.P.length - i) (s0 := 0)
  · ((try dsimp only); (exact ⟨Nat.zero_le _, fun j hj => by omega⟩))
  · ((try dsimp only); repeat (first | exact sub.nil _ | (refine sub.consE rfl ?_ ?_; (first | with_reducible rfl | ((focus (congr 1; omega))) | rfl))))
  · ((try dsimp only); (repeat (first | (with_reducible exact Outs.nil) | ((with_reducible apply Outs.cons); (repeat (first | with_reducible exact Out.here | with_reducible apply Out.there))))))
  rintro i ⟨hi, h0⟩
  try dsimp only at *
  repeat' first
    | (refine J.qv ?_; (with_reducible apply exq); focus (first
      | ((with_reducible apply Qv.add); exact rfl; exact rfl; exact wr64 (by omega) (by omega) rfl)))
    | ((with_reducible apply J.freshR (pool_ b k)); exact rfl; exact rfl; (exact RH.and (RH.chn (by (repeat (first | with_reducible exact In.here | with_reducible apply In.there)))) (RH.of hb.P)); intro q9 hq9)
    | ((with_reducible apply J.chE (fun w h => include_ b k (i : Int) w h)); exact rfl; exact rfl; (repeat (first | (with_reducible exact Outs.nil) | ((with_reducible apply Outs.cons); (repeat (first | with_reducible exact Out.here | with_reducible apply Out.there))))); exact RH.of hb)
    | refine J.one ?_
    | refine J.loudS ?_
    | (refine J.loudQ ?_; intro _ _)
    | (refine J.loudB ?_; intro _)
    | (with_reducible apply J.list)
    | ((with_reducible apply J.gsplit); exact rfl; exact rfl)
    | ((with_reducible first | apply J.cond | apply JC.cond); exact rfl)
    | (intro h; exfalso; (first | (simp at h; done) | (simp at h; omega) | omega))
    | (intro h; (try simp only [decide_eq_true_eq, decide_eq_false_iff_not, beq_iff_eq, beq_eq_false_iff_ne, Bool.not_eq_true', Bool.not_eq_false', bne_iff_ne, bne_eq_false_iff_eq, ne_eq, ge_iff_le, gt_iff_lt] at h))
    | (with_reducible apply J.gave')
    | ((with_reducible apply J.kept'); rotate_left; (repeat (first | (with_reducible exact Outs.nil) | ((with_reducible apply Outs.cons); (repeat (first | with_reducible exact Out.here | with_reducible apply Out.there))))))
  all_goals first
    | (have hok : incOk k (i : Int) = true := by assumption
       have h9 := one_t (by omega) hok h0
       ((with_reducible apply J.endC); (case ho => ((repeat (first | (with_reducible exact Outs.nil) | ((with_reducible apply Outs.cons); (repeat (first | with_reducible exact Out.here | with_reducible apply Out.there))))))); (case e => exact h9.2.symm); (case er => exact (congrArg Value.bool h9.1.symm))))
    | (have hno : incOk k (i : Int) = false := by assumption
       refine J.reCh (b := b) (k' := k) (by (repeat (first | with_reducible exact Upd.here | with_reducible apply Upd.there))) (incC_f hno) ?_
       (apply J.againI (s := i) (s' := (i + 1)); (focus (omega)); (focus ((try dsimp only); (exact ⟨by omega, below_succ h0 hno⟩))); (focus (((try dsimp only); repeat (first | exact sub.nil _ | (refine sub.consE rfl ?_ ?_; (first | with_reducible rfl | ((focus (congr 1; omega))) | rfl)))))); ((try dsimp only); (repeat (first | (with_reducible exact Outs.nil) | ((with_reducible apply Outs.cons); (repeat (first | with_reducible exact Out.here | with_reducible apply Out.there))))))))
    | (have e0 : i = k.P.length := by omega
       subst e0
       have h9 := one_f h0
       ((with_reducible apply J.endC); (case ho => ((repeat (first | (with_reducible exact Outs.nil) | ((with_reducible apply Outs.cons); (repeat (first | with_reducible exact Out.here | with_reducible apply Out.there))))))); (case e => exact h9.2.symm); (case er => exact (congrArg Value.bool h9.1.symm))))
    | (trace_state; fail)
def bN (most : Int) : Nat := (imin most 200).toNat
theorem bN_lt {most : Int} {n : Nat} : ((n : Int) < imin most 200) ↔ n < bN most := by unfold bN; omega
theorem bN_le (most : Int) : bN most ≤ 200 := by unfold bN imin; split <;> omega
theorem build_ (b n : Nat) (k : CS) (most : Int) (w : World) (hw : CI k n ∧ n ≤ 100) : CSpec Tryz.prog 40 [.pointer (some ⟨b, 0, none⟩), .int .i64 most] [chn b k] w (ChR (.int .i64 ((bld (bN most) k).1 : Int)) b (bld (bN most) k).2) := by
  obtain ⟨hk, hn⟩ := hw
  have hbl := bN_le most
  refine spec_of Tryz.func40 rfl Tryz.ntmps40 rfl (l0 := [(0, .pointer (some ⟨b, 0, none⟩)), (1, .int .i64 most)]) rfl ?_
  intro fp
  repeat' first
    | (refine J.qv ?_; (with_reducible apply exq); focus (first
      | ((with_reducible apply Qv.add); exact rfl; exact rfl; exact wr64 (by omega) (by omega) rfl)))
    | ((with_reducible apply J.chE (fun w h => one_ b x w h)); exact rfl; exact rfl; (repeat (first | (with_reducible exact Outs.nil) | ((with_reducible apply Outs.cons); (repeat (first | with_reducible exact Out.here | with_reducible apply Out.there))))); exact RH.of (hc.cb (by omega)))
    | refine J.one ?_
    | refine J.loudS ?_
    | (refine J.loudQ ?_; intro _ _)
    | (refine J.loudB ?_; intro _)
    | (with_reducible apply J.list)
    | ((with_reducible apply J.gsplit); exact rfl; exact rfl)
    | ((with_reducible first | apply J.cond | apply JC.cond); exact rfl)
    | (intro h; exfalso; (first | (simp at h; done) | (simp at h; omega) | omega))
    | (intro h; (try simp only [decide_eq_true_eq, decide_eq_false_iff_not, beq_iff_eq, beq_eq_false_iff_ne, Bool.not_eq_true', Bool.not_eq_false', bne_iff_ne, bne_eq_false_iff_eq, ne_eq, ge_iff_le, gt_iff_lt] at h))
    | (with_reducible apply J.gave')
    | ((with_reducible apply J.kept'); rotate_left; (repeat (first | (with_reducible exact Outs.nil) | ((with_reducible apply Outs.cons); (repeat (first | with_reducible exact Out.here | with_reducible apply Out.there))))))
  apply J.loopI (σ := Nat × CS) (I := fun x => x.1 ≤ bN most ∧ CI x.2 (n + x.1) ∧ bld (bN most) k = (x.1 + (bld (bN most - x.1) x.2).1, (bld (bN most - x.1) x.2).2)) (L := fun x => [(0, .pointer (some ⟨b, 0, none⟩)), (1, .int .i64 most), (5, .int .i64 (x.1 : Int))]) (HH := fun x => [chn b x.2]) (m := fun x => bN most - x.1) (s0 := (0, k))
  · ((try dsimp only); (exact ⟨Nat.zero_le _, hk, by simp⟩))
  · ((try dsimp only); repeat (first | exact sub.nil _ | (refine sub.consE rfl ?_ ?_; (first | with_reducible rfl | ((focus (congr 1; omega))) | rfl))))
  · ((try dsimp only); (repeat (first | (with_reducible exact Outs.nil) | ((with_reducible apply Outs.cons); (repeat (first | with_reducible exact Out.here | with_reducible apply Out.there))))))
  rintro ⟨j, x⟩ ⟨hj, hc, hr⟩
  try dsimp only at *
  have hlt := bN_lt (most := most) (n := j)
  repeat' first
    | (refine J.qv ?_; (with_reducible apply exq); focus (first
      | ((with_reducible apply Qv.add); exact rfl; exact rfl; exact wr64 (by omega) (by omega) rfl)))
    | ((with_reducible apply J.chE (fun w h => one_ b x w h)); exact rfl; exact rfl; (repeat (first | (with_reducible exact Outs.nil) | ((with_reducible apply Outs.cons); (repeat (first | with_reducible exact Out.here | with_reducible apply Out.there))))); exact RH.of (hc.cb (by omega)))
    | refine J.one ?_
    | refine J.loudS ?_
    | (refine J.loudQ ?_; intro _ _)
    | (refine J.loudB ?_; intro _)
    | (with_reducible apply J.list)
    | ((with_reducible apply J.gsplit); exact rfl; exact rfl)
    | ((with_reducible first | apply J.cond | apply JC.cond); exact rfl)
    | (intro h; exfalso; (first | (simp at h; done) | (simp at h; omega) | omega))
    | (intro h; (try simp only [decide_eq_true_eq, decide_eq_false_iff_not, beq_iff_eq, beq_eq_false_iff_ne, Bool.not_eq_true', Bool.not_eq_false', bne_iff_ne, bne_eq_false_iff_eq, ne_eq, ge_iff_le, gt_iff_lt] at h))
    | (with_reducible apply J.gave')
    | ((with_reducible apply J.kept'); rotate_left; (repeat (first | (with_reducible exact Outs.nil) | ((with_reducible apply Outs.cons); (repeat (first | with_reducible exact Out.here | with_reducible apply Out.there))))))
  all_goals first
    | (have hok : oneOk x = true := by assumption
       (apply J.againI (s := (j, x)) (s' := (j + 1, oneC x)); (focus (((try dsimp only); omega))); (focus ((try dsimp only); (exact ⟨by omega, one_ci hc, bld_go hr (by omega) hok⟩))); (focus (((try dsimp only); repeat (first | exact sub.nil _ | (refine sub.consE rfl ?_ ?_; (first | with_reducible rfl | ((focus (congr 1; omega))) | rfl)))))); ((try dsimp only); (repeat (first | (with_reducible exact Outs.nil) | ((with_reducible apply Outs.cons); (repeat (first | with_reducible exact Out.here | with_reducible apply Out.there))))))))
    | (have hno : oneOk x = false := by assumption
       have h9 : oneC x = x := by unfold oneC; rw [hno]; rfl
       have h8 := bld_end hr (.inr hno)
       ((with_reducible apply J.endC); (case ho => ((repeat (first | (with_reducible exact Outs.nil) | ((with_reducible apply Outs.cons); (repeat (first | with_reducible exact Out.here | with_reducible apply Out.there))))))); (case e => exact (h9.trans (congrArg Prod.snd h8).symm)); (case er => exact (by rw [h8]; rfl))))
    | (have h8 := bld_end hr (.inl (by omega))
       ((with_reducible apply J.endC); (case ho => ((repeat (first | (with_reducible exact Outs.nil) | ((with_reducible apply Outs.cons); (repeat (first | with_reducible exact Out.here | with_reducible apply Out.there))))))); (case e => exact (congrArg Prod.snd h8).symm); (case er => exact (by rw [h8]; rfl))))
    | (trace_state; fail)
end Go.Proofs.YtljbedladifgmaaGreat.Bb
namespace Go.Proofs.YtljbedladifgmaaGreat.Alb
open Go Go.RowKit Eng
set_option linter.unusedVariables false
set_option maxRecDepth 100000
set_option linter.unusedSimpArgs false
open Wide Purse Tx Sha Ss Esc Vau Lck Do Prep Ful Doo Tri App Inn Low Gene Alv Kee Txl Cht Chn Chm Chw Chi Chx Civ Ali Sty Bb Deal Mss Ots Hash Bytes
set_option maxHeartbeats 1000000
def txa : Tx := ⟨0, 0, 1, 0, 1, 0, [], 0, 0, 0, 0, [], 0, 0, 0, []⟩
def txb : Tx := ⟨0, 1, 1, 0, 1, 0, [], 0, 0, 0, 0, [], 0, 0, 0, []⟩
def t40 (i : Nat) : Tx := if i = 0 then txb else txa
theorem run_40 : Bld.run t40 2 2 (fun _ => 0) [] = [1, 0] := by decide
theorem in_40 (i : Nat) : (t40 i).In := by
  unfold t40
  split <;> exact ⟨by unfold Wd; decide, by unfold Wd; decide, Nat.zero_le _, Nat.zero_le _, Nat.zero_le _⟩
theorem srcs_40 (b : Nat) : Srcs (blk b (txb.cells ++ txa.cells) 50) (some ⟨b, 0, none⟩) 25 2 (fun i => (t40 i).cells) := by
  refine (Srcs.blk (n := 2) (sz := 25) (C := txb.cells ++ txa.cells) rfl).eq fun i hi => ?_
  match i, hi with
  | 0, _ => rfl
  | 1, _ => rfl
  | i + 2, h => omega
theorem order_40 (b : Nat) (w : World) : CSpec Tryz.prog 41 [.agg ((genS 0 5).cells (.slice none 0 0)).toArray, .slice (some ⟨b, 0, none⟩) 2 2] [blk b (txb.cells ++ txa.cells) 50] w (Fresh 3 1 2 (Bld.iv [1, 0]) [blk b (txb.cells ++ txa.cells) 50]) := by
  have h := Bld2.order (blk b (txb.cells ++ txa.cells) 50) (some ⟨b, 0, none⟩) 2 2 t40 (fun _ => 0) ((genS 0 5).cells (.slice none 0 0)) ⟨srcs_40 b, fun i _ => in_40 i, by decide, SS.g4w _ _⟩ w
  rw [run_40] at h
  exact h
theorem alive40 (w : World) : CSpec Tryz.prog 39 [] [] w (Gives (.bool true)) := by
  refine spec_own0 Tryz.func39 rfl Tryz.ntmps39 rfl (l0 := []) rfl ?_
  repeat' first
    | (refine J.qv ?_; (with_reducible apply exq); focus (first
      | ((with_reducible apply Qv.buildS (T := 50)); exact rfl; (show _ = some (txa.cells)); kernel_rfl)
      | ((with_reducible apply Qv.buildW); exact rfl; exact rfl; (first | with_reducible assumption | (unfold Wo; omega) | (simp only [Wd, Wo] at *; omega)))
      | ((with_reducible apply Qv.buildW0); exact rfl; exact rfl)))
    | (refine J.qr ?_; (with_reducible apply exq); focus (first
      | ((with_reducible apply Qr.loadFull); exact rfl; (focus ((repeat (first | with_reducible exact In.here | with_reducible apply In.there)); done)); (with_reducible exact tx_len _))))
    | (refine J.qo ?_; refine ⟨?_, ?_⟩; focus (first
      | ((with_reducible apply Qr.loadFull); exact rfl; (focus ((repeat (first | with_reducible exact In.here | with_reducible apply In.there)); done)); (with_reducible exact tx_len _))))
    | ((with_reducible apply J.storeFull); exact rfl; exact rfl; (repeat (first | with_reducible exact Upd.here | with_reducible apply Upd.there)); (with_reducible exact tx_len _); kernel_rfl; kernel_rfl)
    | ((with_reducible apply J.givesW (gen_ 0 5)); exact rfl; exact rfl)
    | refine J.one ?_
    | refine J.loudS ?_
    | (refine J.loudQ ?_; intro _ _)
    | (refine J.loudB ?_; intro _)
    | (with_reducible apply J.list)
    | ((with_reducible apply J.draw (id := 4) [0, 0, 0, 6, 15, 31] (.q 1 (.q 2 (.x 0 (.x 3 (.x 4 (.p 5 .nil) .none) .none) (.x 3 (.x 0 (.x 4 (.p 5 .nil) .none) .none) .none)))) (by kernel_rfl) ?_ (by kernel_rfl) ?_); (repeat (with_reducible first | exact PanicFree.body | exact PanicFree.np | exact PanicFree.lvS | apply PanicFree.then_ | apply PanicFree.blk)))
    | ((with_reducible apply J.pl2); exact rfl; (first | exact Gd.none | ((with_reducible apply Gd.on); exact rfl; exact rfl)); (repeat (first | (with_reducible exact PendF.nil) | ((with_reducible apply PendF.keep); exact rfl) | ((with_reducible apply PendF.gone); exact rfl))))
    | ((with_reducible apply J.pl2_off); exact rfl; ((with_reducible apply Gd.off); exact rfl; exact rfl; exact rfl); exact rfl; (repeat (first | (with_reducible exact PendF.nil) | ((with_reducible apply PendF.keep); exact rfl) | ((with_reducible apply PendF.gone); exact rfl))))
    | ((with_reducible apply J.pl2_off_none); exact rfl; ((with_reducible apply Gd.off); exact rfl; exact rfl; exact rfl); (repeat (first | (with_reducible exact PendF.nil) | ((with_reducible apply PendF.keep); exact rfl) | ((with_reducible apply PendF.gone); exact rfl))))
    | ((with_reducible first | apply J.psplit0 | apply J.psplit1 | apply J.psplit2); exact rfl; exact rfl; exact rfl)
    | (with_reducible exact J.pl_none)
    | ((with_reducible apply J.gsplit); exact rfl; exact rfl)
    | ((with_reducible first | apply J.cond | apply JC.cond); exact rfl)
    | (intro h; exfalso; (first | (simp at h; done) | omega))
    | (intro h; (try simp only [decide_eq_true_eq, decide_eq_false_iff_not, beq_iff_eq, beq_eq_false_iff_ne, Bool.not_eq_true', Bool.not_eq_false', bne_iff_ne, bne_eq_false_iff_eq, ne_eq, ge_iff_le, gt_iff_lt] at h))
    | (with_reducible apply J.gave')
    | ((with_reducible apply J.kept'); rotate_left; (repeat (first | (with_reducible exact Outs.nil) | ((with_reducible apply Outs.cons); (repeat (first | with_reducible exact Out.here | with_reducible apply Out.there))))))
  all_goals
    rename_i b11
    apply J.reB (b := b11) (C' := txb.cells ++ txa.cells)
    · (repeat (first | with_reducible exact Upd.here | with_reducible apply Upd.there))
    · rfl
    repeat' first
      | (refine J.qv ?_; (with_reducible apply exq); focus (first
        | ((with_reducible apply Qv.buildS (T := 50)); exact rfl; (show _ = some (txa.cells)); kernel_rfl)
        | ((with_reducible apply Qv.buildW); exact rfl; exact rfl; (first | with_reducible assumption | (unfold Wo; omega) | (simp only [Wd, Wo] at *; omega)))
        | ((with_reducible apply Qv.buildW0); exact rfl; exact rfl)
        | ((with_reducible apply Qv.indexSrcs (k := 0)); exact rfl; exact rfl; (focus decide); (focus decide); exact rfl)
        | ((with_reducible apply Qv.indexSrcs (k := 1)); exact rfl; exact rfl; (focus decide); (focus decide); exact rfl)))
      | (refine J.qr ?_; (with_reducible apply exq); focus (first
        | ((with_reducible apply Qr.loadFull); exact rfl; (focus ((repeat (first | with_reducible exact In.here | with_reducible apply In.there)); done)); (with_reducible exact tx_len _))
        | ((with_reducible apply Qr.rd1 (C := Bld.iv [1, 0]) (j := 0)); exact rfl; exact RH.rowAt (by (repeat (first | with_reducible exact In.here | with_reducible apply In.there))); exact rfl)
        | ((with_reducible apply Qr.rd1 (C := Bld.iv [1, 0]) (j := 1)); exact rfl; exact RH.rowAt (by (repeat (first | with_reducible exact In.here | with_reducible apply In.there))); exact rfl)))
      | (refine J.qo ?_; refine ⟨?_, ?_⟩; focus (first
        | ((with_reducible apply Qr.loadFull); exact rfl; (focus ((repeat (first | with_reducible exact In.here | with_reducible apply In.there)); done)); (with_reducible exact tx_len _))
        | ((with_reducible apply Qr.rd1 (C := Bld.iv [1, 0]) (j := 0)); exact rfl; exact RH.rowAt (by (repeat (first | with_reducible exact In.here | with_reducible apply In.there))); exact rfl)
        | ((with_reducible apply Qr.rd1 (C := Bld.iv [1, 0]) (j := 1)); exact rfl; exact RH.rowAt (by (repeat (first | with_reducible exact In.here | with_reducible apply In.there))); exact rfl)))
      | ((with_reducible apply J.givesW (gen_ 0 5)); exact rfl; exact rfl)
      | ((with_reducible apply J.freshW (order_40 b11)); exact rfl; exact rfl; (repeat (first | (with_reducible exact Outs.nil) | ((with_reducible apply Outs.cons); (repeat (first | with_reducible exact Out.here | with_reducible apply Out.there))))); intro v12; apply J.openRow (v := v12) (n := 2) (E := 3) (sz := 1) (C := Bld.iv [1, 0]); (focus ((repeat (first | with_reducible exact Out.here | with_reducible apply Out.there)))); (focus decide); rintro g12 c12 rfl)
      | refine J.one ?_
      | refine J.loudS ?_
      | (refine J.loudQ ?_; intro _ _)
      | (refine J.loudB ?_; intro _)
      | (with_reducible apply J.list)
      | ((with_reducible apply J.draw (id := 4) [0, 0, 0, 6, 15, 31] (.q 1 (.q 2 (.x 0 (.x 3 (.x 4 (.p 5 .nil) .none) .none) (.x 3 (.x 0 (.x 4 (.p 5 .nil) .none) .none) .none)))) (by kernel_rfl) ?_ (by kernel_rfl) ?_); (repeat (with_reducible first | exact PanicFree.body | exact PanicFree.np | exact PanicFree.lvS | apply PanicFree.then_ | apply PanicFree.blk)))
      | ((with_reducible apply J.pl2); exact rfl; (first | exact Gd.none | ((with_reducible apply Gd.on); exact rfl; exact rfl)); (repeat (first | (with_reducible exact PendF.nil) | ((with_reducible apply PendF.keep); exact rfl) | ((with_reducible apply PendF.gone); exact rfl))))
      | ((with_reducible apply J.pl2_off); exact rfl; ((with_reducible apply Gd.off); exact rfl; exact rfl; exact rfl); exact rfl; (repeat (first | (with_reducible exact PendF.nil) | ((with_reducible apply PendF.keep); exact rfl) | ((with_reducible apply PendF.gone); exact rfl))))
      | ((with_reducible apply J.pl2_off_none); exact rfl; ((with_reducible apply Gd.off); exact rfl; exact rfl; exact rfl); (repeat (first | (with_reducible exact PendF.nil) | ((with_reducible apply PendF.keep); exact rfl) | ((with_reducible apply PendF.gone); exact rfl))))
      | ((with_reducible first | apply J.psplit0 | apply J.psplit1 | apply J.psplit2); exact rfl; exact rfl; exact rfl)
      | (with_reducible exact J.pl_none)
      | ((with_reducible apply J.gsplit); exact rfl; exact rfl)
      | ((with_reducible first | apply J.cond | apply JC.cond); exact rfl)
      | (intro h; exfalso; (first | (simp at h; done) | omega))
      | (intro h; (try simp only [decide_eq_true_eq, decide_eq_false_iff_not, beq_iff_eq, beq_eq_false_iff_ne, Bool.not_eq_true', Bool.not_eq_false', bne_iff_ne, bne_eq_false_iff_eq, ne_eq, ge_iff_le, gt_iff_lt] at h))
      | (with_reducible apply J.gave')
      | ((with_reducible apply J.kept'); rotate_left; (repeat (first | (with_reducible exact Outs.nil) | ((with_reducible apply Outs.cons); (repeat (first | with_reducible exact Out.here | with_reducible apply Out.there))))))
  all_goals first
    | rfl
    | (trace_state; fail)
end Go.Proofs.YtljbedladifgmaaGreat.Alb
namespace Go.Proofs.YtljbedladifgmaaGreat.Bbu
open Go Go.RowKit Eng
set_option linter.unusedVariables false
set_option maxRecDepth 100000
set_option linter.unusedSimpArgs false
open Wide Purse Tx Sha Ss Esc Vau Lck Do Prep Ful Doo Tri App Inn Low Gene Alv Kee Txl Cht Chn Chm Chw Chi Chx Civ Ali Sty Bb Alb Deal Mss Ots Hash Bytes
set_option maxHeartbeats 4000000
def mB (m : Int) : Int := (m.tmod 22 + 22).tmod 22 - 1
theorem rm2 (m : Int) : (m.tmod 22 + 22).tmod 22 = mB m + 1 := by unfold mB; omega
theorem tm22_b (m : Int) : -22 < m.tmod 22 ∧ m.tmod 22 < 22 := ⟨Int.lt_tmod_of_pos m (by decide), Int.tmod_lt_of_pos m (by decide)⟩
theorem mB_b (m : Int) : -1 ≤ mB m ∧ mB m ≤ 20 := by
  have h := tm22_b m
  have h1 := Int.tmod_nonneg (a := m.tmod 22 + 22) 22 (by omega)
  have h2 := Int.tmod_lt_of_pos (m.tmod 22 + 22) (b := 22) (by decide)
  unfold mB
  omega
theorem bN_max {m : Int} (h : -1 ≤ m ∧ m ≤ 20) : (bN m : Int) = imax m 0 := by
  unfold bN imin imax
  (repeat' split) <;> omega
theorem subC_E (k : CS) (t : Tx) : (subC k t).E = k.E := by
  unfold subC
  split <;> rfl
theorem incOk_A {k : CS} {i : Int} (h : 0 < k.P.length) : incOk k i = (incA k i).ok := incOk_ap h rfl
theorem apAt {k : CS} {n : Nat} (h : n < k.P.length) : apF k.s k.L (k.P.getD n tx0) = incA k (n : Int) := by
  have e : atI (n : Int) k.P.length = n := by
    unfold atI
    have e1 : (n : Int).tmod (k.P.length : Int) = n := Int.tmod_eq_of_lt (by omega) (by omega)
    have e2 : ((n : Int) + (k.P.length : Int)).tmod (k.P.length : Int) = n := by
      rw [Int.tmod_eq_emod_of_nonneg (by omega)]
      first
      | rw [Int.add_emod_right, Int.emod_eq_of_lt (by omega) (by omega)]
      | rw [Int.add_emod_self, Int.emod_eq_of_lt (by omega) (by omega)]
      | (simp; exact Int.emod_eq_of_lt (by omega) (by omega))
    rw [e1, e2]
    omega
  unfold incA incT
  rw [e]
theorem one_none {k : CS} (h : oneOk k = false) : ∀ j, j < k.P.length → incOk k (j : Int) = false := by
  rcases one_cases k with ⟨_, _, h1⟩ | ⟨i, _, _, h3, _⟩
  · exact h1
  · rw [h3] at h; cases h
theorem build_e (b n n2 : Nat) (k k2 : CS) (most : Int) (e : bld (bN most) k = (n2, k2)) (w : World) (hw : CI k n ∧ n ≤ 100) : CSpec Tryz.prog 40 [.pointer (some ⟨b, 0, none⟩), .int .i64 most] [chn b k] w (ChR (.int .i64 (n2 : Int)) b k2) := by
  have h := build_ b n k most w hw
  rw [e] at h
  exact h
theorem builds (ao : Option Addr) (cap : Nat) (T : List Tx) (mo : Int) (w : World) (hw : Rd w ao (txc T) ∧ TsIn T ∧ T.length ≤ 140737488355328) : CSpec Tryz.prog 9 [.slice ao T.length cap, .int .i64 mo] [] w (Gives (.bool true)) := by
  obtain ⟨hr, hT, hm⟩ := hw
  have hm9 : T.length ≤ 9223372036854775807 := by omega
  have hao : 0 < T.length → ao.isSome = true := txs_some hr
  have hmb := mB_b mo
  have hmx := bN_max hmb
  refine spec_own0 Tryz.func9 rfl Tryz.ntmps9 rfl (l0 := [(0, .slice ao T.length cap), (1, .int .i64 mo)]) rfl ?_
  repeat' first
    | ((with_reducible apply J.cutS (id := 4) (α := CS) (p := fun x => CI x 20 ∧ x.E.length = 0) (L := fun x => [(0, .slice ao T.length cap), (1, .int .i64 mo), (5, .pointer (some ⟨b9, 0, none⟩))]) (HH := fun x => [chn b9 x])); rotate_left; rintro k ⟨hc, hE0⟩; (obtain ⟨n2, k2, e2⟩ : ∃ n2 k2, bld (bN (mB mo)) k = (n2, k2) := ⟨_, _, rfl⟩); (have hbi := bld_is (m := bN (mB mo)) hc); (rw [e2] at hbi); (obtain ⟨f1, f2, f3, f4, f5⟩ := hbi); (dsimp only at f1 f2 f3 f4 f5); (have hcP := hc.P); (try dsimp only))
    | (refine J.qv ?_; (with_reducible apply exq); focus (first
      | ((with_reducible apply Qv.rem); exact rfl; exact rfl; decide; exact rm2 mo)
      | ((with_reducible apply Qv.rem); exact rfl; exact rfl; decide; exact rfl)
      | ((with_reducible apply Qv.sub); exact rfl; exact rfl; exact wr64 (by omega) (by omega) (show mB mo + 1 - 1 = mB mo by omega))
      | ((with_reducible apply Qv.sub); exact rfl; exact rfl; exact wr64 (by omega) (by omega) rfl)
      | ((with_reducible apply Qv.add); exact rfl; exact rfl; exact wr64 (by have := tm22_b mo; omega) (by have := tm22_b mo; omega) rfl)))
    | ((with_reducible apply J.storeFull); exact rfl; exact rfl; (repeat (first | with_reducible exact Upd.here | with_reducible apply Upd.there)); (with_reducible exact SS.len _ _); (focus (first | (with_reducible exact SS.len _ _) | kernel_rfl)); with_reducible exact SS.ones _ _ _ _)
    | ((with_reducible apply J.givesW (alive40)); exact rfl; exact rfl)
    | ((with_reducible apply J.newE (new_ _ _)); exact rfl; exact rfl; intro b9)
    | ((with_reducible apply J.chE (fun w h => build_e b9 20 n2 k k2 (mB mo) e2 w h)); exact rfl; exact rfl; (repeat (first | (with_reducible exact Outs.nil) | ((with_reducible apply Outs.cons); (repeat (first | with_reducible exact Out.here | with_reducible apply Out.there))))); exact RH.of ⟨hc, by decide⟩)
    | ((with_reducible apply J.freshR (evs0 b9 k2)); exact rfl; exact rfl; (exact RH.and (RH.chn (by (repeat (first | with_reducible exact In.here | with_reducible apply In.there)))) (RH.of (by omega))); intro u8 hu8)
    | ((with_reducible apply J.stV (state_ b9 k2)); exact rfl; exact rfl; (exact RH.and (RH.chn (by (repeat (first | with_reducible exact In.here | with_reducible apply In.there)))) (RH.of (f4.cb (by omega)))); intro u7 hu7)
    | ((with_reducible apply J.freshR (pool_ b9 _)); exact rfl; exact rfl; (exact RH.and (RH.chn (by (repeat (first | with_reducible exact In.here | with_reducible apply In.there)))) (RH.of (by omega))); intro u9 hu9)
    | refine J.one ?_
    | refine J.loudS ?_
    | (refine J.loudQ ?_; intro _ _)
    | (refine J.loudB ?_; intro _)
    | (with_reducible apply J.list)
    | ((with_reducible apply J.draw (id := 19) [0, 0, 0, 6, 14, 31, 63, 127, 127, 127, 0, 1279, 3583, 8191] (.q 0 (.p 1 (.p 2 (.p 3 (.q 4 (.x 5 (.p 6 (.p 7 (.p 8 (.p 9 (.x 10 (.x 11 (.p 12 (.p 13 .nil)) .none) .none))))) (.x 10 (.x 5 (.p 6 (.p 7 (.p 8 (.p 9 (.x 11 (.p 12 (.p 13 .nil)) .none))))) .none) .none))))))) (by kernel_rfl) ?_ (by kernel_rfl) ?_); (repeat (with_reducible first | exact PanicFree.body | exact PanicFree.np | exact PanicFree.lvS | apply PanicFree.then_ | apply PanicFree.blk)))
    | ((with_reducible apply J.pl2); exact rfl; (first | exact Gd.none | ((with_reducible apply Gd.on); exact rfl; exact rfl)); (repeat (first | (with_reducible exact PendF.nil) | ((with_reducible apply PendF.keep); exact rfl) | ((with_reducible apply PendF.gone); exact rfl))))
    | ((with_reducible apply J.pl2_off); exact rfl; ((with_reducible apply Gd.off); exact rfl; exact rfl; exact rfl); exact rfl; (repeat (first | (with_reducible exact PendF.nil) | ((with_reducible apply PendF.keep); exact rfl) | ((with_reducible apply PendF.gone); exact rfl))))
    | ((with_reducible apply J.pl2_off_none); exact rfl; ((with_reducible apply Gd.off); exact rfl; exact rfl; exact rfl); (repeat (first | (with_reducible exact PendF.nil) | ((with_reducible apply PendF.keep); exact rfl) | ((with_reducible apply PendF.gone); exact rfl))))
    | ((with_reducible first | apply J.psplit0 | apply J.psplit1 | apply J.psplit2); exact rfl; exact rfl; exact rfl)
    | (with_reducible exact J.pl_none)
    | ((with_reducible apply J.gsplit); exact rfl; exact rfl)
    | ((with_reducible first | apply J.cond | apply JC.cond); exact rfl)
    | (intro h; exfalso; (first | (simp at h; done) | (simp at h; omega) | omega))
    | (intro h; (try simp only [decide_eq_true_eq, decide_eq_false_iff_not, beq_iff_eq, beq_eq_false_iff_ne, Bool.not_eq_true', Bool.not_eq_false', bne_iff_ne, bne_eq_false_iff_eq, ne_eq, ge_iff_le, gt_iff_lt] at h))
    | (with_reducible apply J.gave')
    | ((with_reducible apply J.kept'); rotate_left; (repeat (first | (with_reducible exact Outs.nil) | ((with_reducible apply Outs.cons); (repeat (first | with_reducible exact Out.here | with_reducible apply Out.there))))))
  all_goals first
    | rfl
    | skip
  rotate_left
  · skip
    apply J.loopI (σ := Nat × CS) (I := fun x => x.1 ≤ T.length ∧ x.1 ≤ 20 ∧ CI x.2 x.1 ∧ x.2.E.length = 0) (L := fun x => [(0, .slice ao T.length cap), (1, .int .i64 mo), (5, .pointer (some ⟨b9, 0, none⟩)), (6, .int .i64 (x.1 : Int))]) (HH := fun x => [chn b9 x.2]) (m := fun x => T.length - x.1) (s0 := (0, CS.new 0 5))
    · ((try dsimp only); (exact ⟨Nat.zero_le _, Nat.zero_le _, CI.new 0 5, rfl⟩))
    · ((try dsimp only); repeat (first | exact sub.nil _ | (refine sub.consE rfl ?_ ?_; (first | with_reducible rfl | (fail) | rfl))))
    · ((try dsimp only); (repeat (first | (with_reducible exact Outs.nil) | ((with_reducible apply Outs.cons); (repeat (first | with_reducible exact Out.here | with_reducible apply Out.there))))))
    rintro ⟨i, k⟩ ⟨hi, hi2, hc, hE⟩
    try dsimp only at *
    repeat' first
      | (refine J.qv ?_; (with_reducible apply exq); focus (first
        | ((with_reducible apply Qv.indexSrcs (k := i)); exact rfl; exact rfl; (focus omega); (focus omega); exact hao (by omega))
        | ((with_reducible apply Qv.add); exact rfl; exact rfl; exact wr64 (by omega) (by omega) rfl)))
      | (refine J.qr ?_; (with_reducible apply exq); focus (first
        | ((with_reducible apply Qr.rdN (C := txc T) (j := i * 25) (cs := (T.getD i tx0).cells)); exact rfl; exact RH.old hr; exact txc_at (by omega); exact tx_len _)))
      | (refine J.qo ?_; refine ⟨?_, ?_⟩; focus (first
        | ((with_reducible apply Qr.rdN (C := txc T) (j := i * 25) (cs := (T.getD i tx0).cells)); exact rfl; exact RH.old hr; exact txc_at (by omega); exact tx_len _)))
      | ((with_reducible apply J.chE (fun w h => submit_ _ k (T.getD i tx0) w h)); exact rfl; exact rfl; (repeat (first | (with_reducible exact Outs.nil) | ((with_reducible apply Outs.cons); (repeat (first | with_reducible exact Out.here | with_reducible apply Out.there))))); exact RH.of ⟨hc.cb (by omega), hT.get _⟩)
      | refine J.one ?_
      | refine J.loudS ?_
      | (refine J.loudQ ?_; intro _ _)
      | (refine J.loudB ?_; intro _)
      | (with_reducible apply J.list)
      | ((with_reducible apply J.draw (id := 19) [0, 0, 0, 6, 14, 31, 63, 127, 127, 127, 0, 1279, 3583, 8191] (.q 0 (.p 1 (.p 2 (.p 3 (.q 4 (.x 5 (.p 6 (.p 7 (.p 8 (.p 9 (.x 10 (.x 11 (.p 12 (.p 13 .nil)) .none) .none))))) (.x 10 (.x 5 (.p 6 (.p 7 (.p 8 (.p 9 (.x 11 (.p 12 (.p 13 .nil)) .none))))) .none) .none))))))) (by kernel_rfl) ?_ (by kernel_rfl) ?_); (repeat (with_reducible first | exact PanicFree.body | exact PanicFree.np | exact PanicFree.lvS | apply PanicFree.then_ | apply PanicFree.blk)))
      | ((with_reducible apply J.pl2); exact rfl; (first | exact Gd.none | ((with_reducible apply Gd.on); exact rfl; exact rfl)); (repeat (first | (with_reducible exact PendF.nil) | ((with_reducible apply PendF.keep); exact rfl) | ((with_reducible apply PendF.gone); exact rfl))))
      | ((with_reducible apply J.pl2_off); exact rfl; ((with_reducible apply Gd.off); exact rfl; exact rfl; exact rfl); exact rfl; (repeat (first | (with_reducible exact PendF.nil) | ((with_reducible apply PendF.keep); exact rfl) | ((with_reducible apply PendF.gone); exact rfl))))
      | ((with_reducible apply J.pl2_off_none); exact rfl; ((with_reducible apply Gd.off); exact rfl; exact rfl; exact rfl); (repeat (first | (with_reducible exact PendF.nil) | ((with_reducible apply PendF.keep); exact rfl) | ((with_reducible apply PendF.gone); exact rfl))))
      | ((with_reducible first | apply J.psplit0 | apply J.psplit1 | apply J.psplit2); exact rfl; exact rfl; exact rfl)
      | (with_reducible exact J.pl_none)
      | ((with_reducible apply J.gsplit); exact rfl; exact rfl)
      | ((with_reducible first | apply J.cond | apply JC.cond); exact rfl)
      | (intro h; exfalso; (first | (simp at h; done) | (simp at h; omega) | omega))
      | (intro h; (try simp only [decide_eq_true_eq, decide_eq_false_iff_not, beq_iff_eq, beq_eq_false_iff_ne, Bool.not_eq_true', Bool.not_eq_false', bne_iff_ne, bne_eq_false_iff_eq, ne_eq, ge_iff_le, gt_iff_lt] at h))
      | (with_reducible apply J.gave')
      | ((with_reducible apply J.kept'); rotate_left; (repeat (first | (with_reducible exact Outs.nil) | ((with_reducible apply Outs.cons); (repeat (first | with_reducible exact Out.here | with_reducible apply Out.there))))))
    all_goals first
      | (apply J.againI (s := (i, k)) (s' := (i + 1, subC k (T.getD i tx0))); (focus (((try dsimp only) <;> omega))); (focus ((try dsimp only); (exact ⟨by omega, by omega, hc.sub (hT.get _), by rw [subC_E]; exact hE⟩))); (focus (((try dsimp only); repeat (first | exact sub.nil _ | (refine sub.consE rfl ?_ ?_; (first | with_reducible rfl | ((focus (congr 1; omega))) | rfl)))))); ((try dsimp only); (repeat (first | (with_reducible exact Outs.nil) | ((with_reducible apply Outs.cons); (repeat (first | with_reducible exact Out.here | with_reducible apply Out.there)))))))
      | ((with_reducible apply J.meet (k)); (case hs => ((try dsimp only); repeat (first | exact sub.nil _ | (refine sub.consE rfl ?_ ?_; (first | with_reducible rfl | (fail) | rfl))))); (case ho => ((try dsimp only); (repeat (first | (with_reducible exact Outs.nil) | ((with_reducible apply Outs.cons); (repeat (first | with_reducible exact Out.here | with_reducible apply Out.there))))); done)); (case hp => exact ⟨hc.more (by omega), hE⟩))
      | (trace_state; fail)
  · skip
    rename_i b10
    have hno := one_none (f5 (by omega))
    (with_reducible apply J.someR (ao := u9.1) (n := k2.P.length) (E := 50) (C := txc k2.P) (sz := 25) (by (repeat (first | with_reducible exact In.here | with_reducible apply In.there))) (by decide); intro s1)
    apply J.loopI (σ := Nat) (I := fun n => n ≤ k2.P.length) (L := fun n => [(9, .pointer (some ⟨b10, 0, none⟩)), (10, .slice u9.1 k2.P.length u9.2), (11, .int .i64 (n : Int))]) (HH := fun n => [blk b10 (k2.s.cells (.slice u7.1 k2.L.length u7.2)) 34, row (.slice u7.1 k2.L.length u7.2) 58 3 k2.L.length (lcs k2.L), row (.slice u9.1 k2.P.length u9.2) 50 25 k2.P.length (txc k2.P)]) (m := fun n => k2.P.length - n) (s0 := 0)
    · ((try dsimp only); (exact Nat.zero_le _))
    · ((try dsimp only); repeat (first | exact sub.nil _ | (refine sub.consE rfl ?_ ?_; (first | with_reducible rfl | (fail) | rfl))))
    · ((try dsimp only); (repeat (first | (with_reducible exact Outs.nil) | ((with_reducible apply Outs.cons); (repeat (first | with_reducible exact Out.here | with_reducible apply Out.there))))))
    rintro n hn
    try dsimp only at hn ⊢
    repeat' first
      | (refine J.qv ?_; (with_reducible apply exq); focus (first
        | ((with_reducible apply Qv.indexSrcs (k := n)); exact rfl; exact rfl; (focus omega); (focus omega); exact s1 (by omega))
        | ((with_reducible apply Qv.add); exact rfl; exact rfl; exact wr64 (by omega) (by omega) rfl)))
      | (refine J.qr ?_; (with_reducible apply exq); focus (first
        | ((with_reducible apply Qr.rdN (C := txc k2.P) (j := n * 25) (cs := (k2.P.getD n tx0).cells)); exact rfl; exact RH.row (by (repeat (first | with_reducible exact In.here | with_reducible apply In.there))); exact txc_at (by omega); exact tx_len _)
        | ((with_reducible apply Qr.loadFull); exact rfl; (focus ((repeat (first | with_reducible exact In.here | with_reducible apply In.there)); done)); (with_reducible exact SS.len _ _))))
      | (refine J.qo ?_; refine ⟨?_, ?_⟩; focus (first
        | ((with_reducible apply Qr.rdN (C := txc k2.P) (j := n * 25) (cs := (k2.P.getD n tx0).cells)); exact rfl; exact RH.row (by (repeat (first | with_reducible exact In.here | with_reducible apply In.there))); exact txc_at (by omega); exact tx_len _)
        | ((with_reducible apply Qr.loadFull); exact rfl; (focus ((repeat (first | with_reducible exact In.here | with_reducible apply In.there)); done)); (with_reducible exact SS.len _ _))))
      | ((with_reducible apply J.storeFull); exact rfl; exact rfl; (repeat (first | with_reducible exact Upd.here | with_reducible apply Upd.there)); (with_reducible exact SS.len _ _); (focus (first | (with_reducible exact SS.len _ _) | kernel_rfl)); with_reducible exact SS.ones _ _ _ _)
      | ((with_reducible apply J.apE (apply_c k2.s _ _ k2.L (k2.P.getD n tx0) (incA k2 (n : Int)) (apAt (by omega)))); exact rfl; exact rfl; (exact RH.and (RH.row (by (repeat (first | with_reducible exact In.here | with_reducible apply In.there)))) (RH.of ⟨f4.s, (f4.p.get _).i, by have := f4.L; unfold maxLen; omega, by have := f4.L; omega⟩)); intro q9 hq9)
      | refine J.one ?_
      | refine J.loudS ?_
      | (refine J.loudQ ?_; intro _ _)
      | (refine J.loudB ?_; intro _)
      | (with_reducible apply J.list)
      | ((with_reducible apply J.draw (id := 19) [0, 0, 0, 6, 14, 31, 63, 127, 127, 127, 0, 1279, 3583, 8191] (.q 0 (.p 1 (.p 2 (.p 3 (.q 4 (.x 5 (.p 6 (.p 7 (.p 8 (.p 9 (.x 10 (.x 11 (.p 12 (.p 13 .nil)) .none) .none))))) (.x 10 (.x 5 (.p 6 (.p 7 (.p 8 (.p 9 (.x 11 (.p 12 (.p 13 .nil)) .none))))) .none) .none))))))) (by kernel_rfl) ?_ (by kernel_rfl) ?_); (repeat (with_reducible first | exact PanicFree.body | exact PanicFree.np | exact PanicFree.lvS | apply PanicFree.then_ | apply PanicFree.blk)))
      | ((with_reducible apply J.pl2); exact rfl; (first | exact Gd.none | ((with_reducible apply Gd.on); exact rfl; exact rfl)); (repeat (first | (with_reducible exact PendF.nil) | ((with_reducible apply PendF.keep); exact rfl) | ((with_reducible apply PendF.gone); exact rfl))))
      | ((with_reducible apply J.pl2_off); exact rfl; ((with_reducible apply Gd.off); exact rfl; exact rfl; exact rfl); exact rfl; (repeat (first | (with_reducible exact PendF.nil) | ((with_reducible apply PendF.keep); exact rfl) | ((with_reducible apply PendF.gone); exact rfl))))
      | ((with_reducible apply J.pl2_off_none); exact rfl; ((with_reducible apply Gd.off); exact rfl; exact rfl; exact rfl); (repeat (first | (with_reducible exact PendF.nil) | ((with_reducible apply PendF.keep); exact rfl) | ((with_reducible apply PendF.gone); exact rfl))))
      | ((with_reducible first | apply J.psplit0 | apply J.psplit1 | apply J.psplit2); exact rfl; exact rfl; exact rfl)
      | (with_reducible exact J.pl_none)
      | ((with_reducible apply J.gsplit); exact rfl; exact rfl)
      | ((with_reducible first | apply J.cond | apply JC.cond); exact rfl)
      | (intro h; exfalso; (first | (simp at h; done) | (have h7 := hno n (by omega); rw [incOk_A (by omega)] at h7; rw [h7] at h; simp at h; done) | (simp at h; omega) | omega))
      | (intro h; (try simp only [decide_eq_true_eq, decide_eq_false_iff_not, beq_iff_eq, beq_eq_false_iff_ne, Bool.not_eq_true', Bool.not_eq_false', bne_iff_ne, bne_eq_false_iff_eq, ne_eq, ge_iff_le, gt_iff_lt] at h))
      | (with_reducible apply J.gave')
      | ((with_reducible apply J.kept'); rotate_left; (repeat (first | (with_reducible exact Outs.nil) | ((with_reducible apply Outs.cons); (repeat (first | with_reducible exact Out.here | with_reducible apply Out.there))))))
    all_goals first
      | rfl
      | (apply J.againI (s := n) (s' := (n + 1)); (focus (omega)); (focus ((try dsimp only); omega)); (focus (((try dsimp only); repeat (first | exact sub.nil _ | (refine sub.consE rfl ?_ ?_; (first | with_reducible rfl | ((focus (congr 1; omega))) | rfl)))))); ((try dsimp only); (repeat (first | (with_reducible exact Outs.nil) | ((with_reducible apply Outs.cons); (repeat (first | with_reducible exact Out.here | with_reducible apply Out.there)))))))
      | (trace_state; fail)
theorem BuilderBuilds {r : Reach} {b0 : Nat} {H : Type} {enc : TypeId × Value → H} {spare : Nat → Bool} {held : Bool} {d : DataW H} {p : List MemPlace} (v : Value) (mo : Int) (W : World) (o : Value.okWide Tryz.prog W r b0 22 v) (t : DataW.Trod enc Tryz.prog W 0 spare held 22 v d p) (sz : ∀ a len cap, v = .slice (some a) len cap → len * Tryz.prog.bytesOf 50 ≤ 140737488355328) (g1 : (Lit.int .i64 mo).wf = true) :
    Calls Tryz.prog 9 #[v, .int .i64 mo] W fun e w' => e = .returned (.bool true) ∧ Below W.heap.size W w' := by
  obtain ⟨ao, T, cap, rfl, h1, h2, h3, h4⟩ := reads_txs (in_slice (L := txsh) (k := 6) (e := 50) rfl o t (by kernel_rfl))
  have h5 : T.length ≤ 140737488355328 := by
    cases ao with
    | none =>
      have h8 := txc_length T
      rw [h4.1 rfl] at h8
      simp at h8
      omega
    | some q =>
      have h9 := sz q _ _ rfl
      rw [show Tryz.prog.bytesOf 50 = 224 by kernel_rfl] at h9
      omega
  exact (builds ao cap T mo W ⟨h4, h3, h5⟩).below
end Go.Proofs.YtljbedladifgmaaGreat.Bbu
