/-
  The law ChainStays: what is done, and what stays. No conditions.
-/
import Derived.Test.YtljbedladifgmaaGreatQAli
namespace Go.Proofs.YtljbedladifgmaaGreat.Sty
open Go Go.RowKit Eng
set_option linter.unusedVariables false
set_option maxRecDepth 100000
set_option linter.unusedSimpArgs false
open Wide Purse Tx Sha Ss Esc Vau Lck Do Prep Ful Doo Tri App Inn Low Gene Alv Kee Txl Cht Chn Chm Chw Chi Chx Civ Ali Deal Mss Ots Hash Bytes
set_option maxHeartbeats 1000000
/-- Events that come in as calls do: a kind, a number, a transaction. -/
theorem reads_op {W : World} {cs : List Value} (h : Sh.ReadsL W evsh cs) : ∃ e : Ev, EvIn e ∧ cs = e.cells := by
  unfold evsh at h
  obtain ⟨a, c1, rfl, ha, h1⟩ := reads_i h
  obtain ⟨b, c2, rfl, hb, h2⟩ := reads_i h1
  obtain ⟨t, h3, h4, rfl⟩ := reads_tx h2
  exact ⟨⟨a, b, t⟩, ⟨ha, hb, ⟨h3, h4⟩⟩, rfl⟩
theorem reads_ops {W : World} {v : Value} (h : Sh.Reads W (.sl evsh) v) : ∃ (ao : Option Addr) (T : List Ev) (cap : Nat), v = .slice ao T.length cap ∧ T.length ≤ cap ∧ cap ≤ maxLen ∧ EsIn T ∧ Rd W ao (evc T) := by
  simp only [Sh.Reads] at h
  rcases h with rfl | ⟨a, len, cap, rfl, h1, h2, C, hC⟩
  · exact ⟨none, [], 0, rfl, Nat.le_refl _, Nat.zero_le _, fun k hk => (by cases hk), Rd.nil _ _⟩
  · have key : ∀ i, ∃ k : Ev, EvIn k ∧ (i < len → C i = k.cells) := fun i => by
      rcases Nat.lt_or_ge i len with h3 | h3
      · obtain ⟨k, hk, e⟩ := reads_op (hC i h3).1
        exact ⟨k, hk, fun _ => e⟩
      · exact ⟨ev0, ev0_in, fun h4 => by omega⟩
    have hl : ((List.range len).map fun i => (key i).choose).length = len := by simp
    have hg : ∀ i, i < len → ((List.range len).map fun i => (key i).choose).getD i ev0 = (key i).choose := fun i hi => by
      rw [List.getD_eq_getElem?_getD, List.getElem?_map, List.getElem?_range hi]
      rfl
    refine ⟨some a, (List.range len).map fun i => (key i).choose, cap, by rw [hl], by rw [hl]; exact h1, h2, ?_, ?_⟩
    · intro k hk
      obtain ⟨i, _, rfl⟩ := List.mem_map.1 hk
      exact (key i).choose_spec.1
    · refine Rd.some_ fun j u hj => ?_
      have hjl : j < len * 27 := by
        rcases Nat.lt_or_ge j (len * 27) with h3 | h3
        · exact h3
        · rw [List.getElem?_eq_none (by rw [evc_length, hl]; exact h3)] at hj
          cases hj
      have hi : j / 27 < len := by omega
      have e2 : j = j / 27 * 27 + j % 27 := by omega
      have h6 : (((evc ((List.range len).map fun i => (key i).choose)).drop (j / 27 * 27)).take 27)[j % 27]? = some u := by
        rw [List.getElem?_take, if_pos (Nat.mod_lt _ (by decide)), List.getElem?_drop, ← e2]
        exact hj
      rw [evc_at (by rw [hl]; exact hi), hg _ hi, ← (key (j / 27)).choose_spec.2 hi] at h6
      have h5 := (hC (j / 27) hi).2 (j % 27) u h6
      rw [e2]
      exact h5
theorem evs_some {W : World} {ao : Option Addr} {T : List Ev} (h : Rd W ao (evc T)) (h0 : 0 < T.length) : ao.isSome = true := h.isSome fun e => by
  have h8 := evc_length T
  rw [e] at h8
  simp at h8
  omega
theorem evc_tx {E : List Ev} {i : Nat} (h : i < E.length) : ((evc E).drop (i * 27 + 2)).take 25 = (E.getD i ev0).tx.cells := by
  have h1 := evc_at h
  have h2 : ((((evc E).drop (i * 27)).take 27).drop 2).take 25 = ((evc E).drop (i * 27 + 2)).take 25 := by
    rw [List.drop_take, List.drop_drop, List.take_take]
    congr 1
  rw [← h2, h1]
  rfl
theorem evc_get {E : List Ev} {i j : Nat} (h : i < E.length) (hj : j < 27) : (evc E)[i * 27 + j]? = (E.getD i ev0).cells[j]? := by
  rw [← evc_at h, List.getElem?_take, if_pos hj, List.getElem?_drop]
/-- What a transaction that is taken does to the nonces. -/
theorem ap_no {s : SS} {L : List Lk} {t : Tx} {ap : Ap} (e : apF s L t = ap) (ho : ap.ok = true) : chk t = 0 ∧ t.no = s.no t.fr.toNat ∧ ap.s.no = upd s.no t.fr.toNat (s.no t.fr.toNat + 1) := by
  subst e
  unfold apF at ho ⊢
  split at ho
  · rename_i h1
    rw [if_pos h1]
    split at ho
    · rename_i h2
      rw [if_pos h2]
      split at ho
      · rename_i h3
        rw [if_pos h3]
        refine ⟨h1, h2, ?_⟩
        split
        · exact doX_keep SS.no (fun _ _ _ _ => rfl) _ _ _
        · rfl
      · cases ho
    · cases ho
  · cases ho
/-- Submitted, included, later. -/
noncomputable def stp (k : CS) (o : Ev) : CS := (incC (subC k o.tx) o.co).wS (riseS (incC (subC k o.tx) o.co).s o.tm) (incC (subC k o.tx) o.co).L
theorem stp_ci {k : CS} {n : Nat} (h : CI k n) {o : Ev} (ho : EvIn o) : CI (stp k o) (n + 2) := ((h.sub ho.tx).inc o.co).ris o.tm
theorem subC_s (k : CS) (t : Tx) : (subC k t).s = k.s ∧ (subC k t).E = k.E ∧ (subC k t).L = k.L := by
  unfold subC
  split <;> exact ⟨rfl, rfl, rfl⟩
theorem inc_s {k : CS} (i : Int) : (incC k i).s.time = k.s.time := by
  unfold incC
  split
  · exact ap_time (ap := incA k i) rfl
  · rfl
theorem stp_time {k : CS} {n : Nat} (h : CI k n) {o : Ev} (ho : EvIn o) : k.s.time ≤ (stp k o).s.time := by
  have h1 := rise_b (((h.sub ho.tx).inc o.co).s) o.tm
  have h2 : (incC (subC k o.tx) o.co).s.time = k.s.time := (inc_s _).trans (congrArg SS.time (subC_s k o.tx).1)
  show _ ≤ (incC (subC k o.tx) o.co).s.time + _
  omega
theorem stp_E {k : CS} {n : Nat} (h : CI k n) {o : Ev} (ho : EvIn o) : ((stp k o).E = k.E ∧ (stp k o).s.no = k.s.no) ∨ ∃ e, (stp k o).E = k.E ++ [e] ∧ chk e.tx = 0 ∧ e.tx.no = k.s.no e.tx.fr.toNat ∧ (stp k o).s.no = upd k.s.no e.tx.fr.toNat (k.s.no e.tx.fr.toNat + 1) := by
  obtain ⟨h1, h2, h3⟩ := subC_s k o.tx
  by_cases ho : incOk (subC k o.tx) o.co = true
  · right
    refine ⟨⟨(incA (subC k o.tx) o.co).s.time, (incA (subC k o.tx) o.co).e, incT (subC k o.tx) o.co⟩, ?_⟩
    have h4 : (incA (subC k o.tx) o.co).ok = true := by
      unfold incOk at ho
      simp only [Bool.and_eq_true] at ho
      exact ho.2
    obtain ⟨g1, g2, g3⟩ := ap_no (ap := incA (subC k o.tx) o.co) rfl h4
    rw [h1] at g2 g3
    refine ⟨?_, g1, g2, ?_⟩
    · show (incC (subC k o.tx) o.co).E = _
      rw [incC_t ho, ← h2]
    · show (incC (subC k o.tx) o.co).s.no = _
      rw [incC_t ho]
      exact g3
  · left
    have h5 : incC (subC k o.tx) o.co = subC k o.tx := incC_f (by simpa using ho)
    constructor
    · show (incC (subC k o.tx) o.co).E = _
      rw [h5, h2]
    · show (incC (subC k o.tx) o.co).s.no = _
      rw [h5, h1]
theorem getD_app {E : List Ev} {e : Ev} {n : Nat} (h : n < E.length) : (E ++ [e]).getD n ev0 = E.getD n ev0 := by
  rw [List.getD_eq_getElem?_getD, List.getD_eq_getElem?_getD, List.getElem?_append_left h]
theorem getD_last {E : List Ev} {e : Ev} : (E ++ [e]).getD E.length ev0 = e := by
  rw [List.getD_eq_getElem?_getD, List.getElem?_append_right (Nat.le_refl _), Nat.sub_self]
  rfl
theorem eq_no {ns : Nat → Int} (h : ∀ j, I64 (ns j)) (w : World) : (Op.equal 31 (.agg (ncell ns).toArray) (.agg (ncell ns).toArray)).run Tryz.prog w = .ok true w := eq_flat (k := 3) (L := i64s 8) (by kernel_rfl) (by kernel_rfl) (by kernel_rfl) (by kernel_rfl) (by kernel_rfl) (by decide) (Sam.no_reads (W := w) h) (Sam.no_reads h) (by simp) w
theorem Qv.eqNo {mm T' : Nat} {x y : Operand} {l : TL} {ns : Nat → Int} (hx : ev l x = some (.agg (ncell ns).toArray)) (hy : ev l y = some (.agg (ncell ns).toArray)) (h : ∀ j, I64 (ns j)) : Qv Tryz.prog mm l (.binOp .eql 31 x y T') (.bool true) := Qv.eqlA (r := true) hx hy (by kernel_rfl) (fun w => eq_no h w)
theorem J.reCh {c : Cx} {l : TL} {H H' : List Asrt} {G : Act → World → Prop} {b : Nat} {k k' : CS} (hu : Upd (chn b k) (chn b k') H H') (e : k = k') (K : J c l H' G) : J c l H G := by
  subst e
  have : H = H' := by
    clear K
    induction hu with
    | here => rfl
    | there _ ih => rw [ih]
  subst this
  exact K
theorem J.someR {c : Cx} {l : TL} {H : List Asrt} {G : Act → World → Prop} {ao : Option Addr} {n cap E sz : Nat} {C : List Value} (hm : In (row (.slice ao n cap) E sz n C) H) (hz : sz ≠ 0) (K : (0 < n → ao.isSome = true) → J c l H G) : J c l H G := J.mk fun a w s => by
  obtain ⟨h1, h2, _, h3, _⟩ := s.2.2.rd_row hm
  refine (K fun hn => h1.isSome fun e => ?_).out a w s
  rw [e] at h3
  have : n * sz = 0 := by simpa using h3.symm
  rcases Nat.mul_eq_zero.1 this with h | h <;> omega
theorem evs0 (b : Nat) (k : CS) (w : World) (hw : ChRd w b k ∧ k.E.length ≤ 1000) : CSpec Tryz.prog 29 [.pointer (some ⟨b, 0, none⟩), .int .i64 0] [] w (Fresh 72 27 k.E.length (evc k.E) []) := by
  have h := events_ b k 0 w hw
  rw [fromE_0] at h
  exact h
theorem crise_c (b : Nat) (k k' : CS) (t : Int) (e : k.wS (riseS k.s t) k.L = k') (w : World) (h : CB k) : CSpec Tryz.prog 32 [.pointer (some ⟨b, 0, none⟩), .int .i64 t] [chn b k] w (ChR (.tuple #[]) b k') := e ▸ crise_ b k t w h
theorem stays (side time : Int) (ao : Option Addr) (cap : Nat) (T : List Ev) (w : World) (hw : Rd w ao (evc T) ∧ EsIn T ∧ T.length ≤ maxLen) : CSpec Tryz.prog 6 [.int .i64 side, .int .i64 time, .slice ao T.length cap] [] w (Gives (.bool true)) := by
  obtain ⟨hr, hT, hm⟩ := hw
  have hm9 : T.length ≤ 9223372036854775807 := by unfold maxLen at hm; omega
  have hao : 0 < T.length → ao.isSome = true := evs_some hr
  refine spec_own0 Tryz.func6 rfl Tryz.ntmps6 rfl (l0 := [(0, .int .i64 side), (1, .int .i64 time), (2, .slice ao T.length cap)]) rfl ?_
  repeat' first
    | ((with_reducible apply J.givesW (alive13)); exact rfl; exact rfl)
    | ((with_reducible apply J.newE (new_ _ _)); exact rfl; exact rfl; intro b9)
    | ((with_reducible apply J.givesR (time_ _ _)); exact rfl; exact rfl; (focus (exact RH.and (RH.chn (by (repeat (first | with_reducible exact In.here | with_reducible apply In.there)))) (RH.of trivial))))
    | refine J.one ?_
    | refine J.loudS ?_
    | (refine J.loudQ ?_; intro _ _)
    | (refine J.loudB ?_; intro _)
    | (with_reducible apply J.list)
    | ((with_reducible apply J.draw (id := 19) [0, 0, 3, 7, 0, 0, 48, 112, 255] (.p 0 (.p 1 (.p 2 (.q 3 (.p 4 (.p 5 (.p 6 (.q 7 (.p 8 .nil))))))))) (by kernel_rfl) ?_ (by kernel_rfl) ?_); (repeat (with_reducible first | exact PanicFree.body | exact PanicFree.np | exact PanicFree.lvS | apply PanicFree.then_ | apply PanicFree.blk)))
    | ((with_reducible apply J.draw (id := 23) [0, 1, 0, 4, 12, 28, 63] (.p 0 (.q 1 (.p 2 (.q 3 (.p 4 (.q 5 (.p 6 .nil))))))) (by kernel_rfl) ?_ (by kernel_rfl) ?_); (repeat (with_reducible first | exact PanicFree.body | exact PanicFree.np | exact PanicFree.lvS | apply PanicFree.then_ | apply PanicFree.blk)))
    | ((with_reducible apply J.draw (id := 27) [0, 1, 3, 0, 15, 31] (.p 0 (.q 3 (.x 1 (.p 2 (.p 4 (.p 5 .nil))) .none))) (by kernel_rfl) ?_ (by kernel_rfl) ?_); (repeat (with_reducible first | exact PanicFree.body | exact PanicFree.np | exact PanicFree.lvS | apply PanicFree.then_ | apply PanicFree.blk)))
    | ((with_reducible apply J.pl2); exact rfl; (first | exact Gd.none | ((with_reducible apply Gd.on); exact rfl; exact rfl)); (repeat (first | (with_reducible exact PendF.nil) | ((with_reducible apply PendF.keep); exact rfl) | ((with_reducible apply PendF.gone); exact rfl))))
    | ((with_reducible apply J.pl2_off); exact rfl; ((with_reducible apply Gd.off); exact rfl; exact rfl; exact rfl); exact rfl; (repeat (first | (with_reducible exact PendF.nil) | ((with_reducible apply PendF.keep); exact rfl) | ((with_reducible apply PendF.gone); exact rfl))))
    | ((with_reducible apply J.pl2_off_none); exact rfl; ((with_reducible apply Gd.off); exact rfl; exact rfl; exact rfl); (repeat (first | (with_reducible exact PendF.nil) | ((with_reducible apply PendF.keep); exact rfl) | ((with_reducible apply PendF.gone); exact rfl))))
    | ((with_reducible first | apply J.psplit0 | apply J.psplit1 | apply J.psplit2); exact rfl; exact rfl; exact rfl)
    | (with_reducible exact J.pl_none)
    | ((with_reducible apply J.gsplit); exact rfl; exact rfl)
    | ((with_reducible first | apply J.cond | apply JC.cond); exact rfl)
    | (intro h; exfalso; (first | (simp at h; done) | omega))
    | (intro h; (try simp only [decide_eq_true_eq, decide_eq_false_iff_not, beq_iff_eq, beq_eq_false_iff_ne, Bool.not_eq_true', Bool.not_eq_false', bne_iff_ne, bne_eq_false_iff_eq, ne_eq, ge_iff_le, gt_iff_lt] at h))
    | (with_reducible apply J.gave')
    | ((with_reducible apply J.kept'); rotate_left; (repeat (first | (with_reducible exact Outs.nil) | ((with_reducible apply Outs.cons); (repeat (first | with_reducible exact Out.here | with_reducible apply Out.there))))))
  all_goals
    rename_i bn
    obtain ⟨k0, e0⟩ : ∃ k0, k0 = CS.new side time := ⟨_, rfl⟩
    have hc0 : CI k0 0 := e0 ▸ CI.new side time
    have hE0 : k0.E = [] := e0 ▸ rfl
    apply J.reB (b := bn) (C' := ncell k0.s.no)
    · (repeat (first | with_reducible exact Upd.here | with_reducible apply Upd.there))
    · rw [e0]; kernel_rfl
    refine J.reCh (b := b9) (k' := k0) (by (repeat (first | with_reducible exact Upd.here | with_reducible apply Upd.there))) e0.symm ?_
    refine J.nilRow 72 27 ?_
    apply J.reR (E := 72) (v := .slice none 0 0) (n := 0) (C := []) (v' := .slice none k0.E.length 0) (n' := k0.E.length) (C' := evc k0.E)
    · (repeat (first | with_reducible exact Upd.here | with_reducible apply Upd.there))
    · rw [hE0]; rfl
    · rw [hE0]; rfl
    · rw [hE0]; rfl
    apply J.loopI (σ := Nat × CS × (Option Addr × Nat)) (I := fun x => x.1 ≤ T.length ∧ x.1 ≤ 30 ∧ CI x.2.1 (2 * x.1)) (L := fun x => [(2, .slice ao T.length cap), (7, .pointer (some ⟨b9, 0, none⟩)), (9, .pointer (some ⟨bn, 0, none⟩)), (8, .slice x.2.2.1 x.2.1.E.length x.2.2.2), (10, .int .i64 x.2.1.s.time), (11, .int .i64 (x.1 : Int))]) (HH := fun x => [row (.slice x.2.2.1 x.2.1.E.length x.2.2.2) 72 27 x.2.1.E.length (evc x.2.1.E), chn b9 x.2.1, blk bn (ncell x.2.1.s.no) 31]) (m := fun x => T.length - x.1) (s0 := (0, k0, (none, 0)))
    · ((try dsimp only); (exact ⟨Nat.zero_le _, Nat.zero_le _, hc0⟩))
    · ((try dsimp only); repeat (first | exact sub.nil _ | (refine sub.consE rfl ?_ ?_; (first | with_reducible rfl | ((focus (first | (rw [hE0]; rfl) | (rw [e0])))) | rfl))))
    · ((try dsimp only); (repeat (first | (with_reducible exact Outs.nil) | ((with_reducible apply Outs.cons); (repeat (first | with_reducible exact Out.here | with_reducible apply Out.there))))))
    rintro ⟨i, k, q⟩ ⟨hi, hi3, hc⟩
    try dsimp only at *
    have ho := hT.get i
    obtain ⟨k', hk'⟩ : ∃ k', stp k (T.getD i ev0) = k' := ⟨_, rfl⟩
    have hk2 : (incC (subC k (T.getD i ev0).tx) (T.getD i ev0).co).wS (riseS (incC (subC k (T.getD i ev0).tx) (T.getD i ev0).co).s (T.getD i ev0).tm) (incC (subC k (T.getD i ev0).tx) (T.getD i ev0).co).L = k' := hk'
    have hc' : CI k' (2 * i + 2) := hk' ▸ stp_ci hc ho
    have htm : k.s.time ≤ k'.s.time := hk' ▸ stp_time hc ho
    have hE := stp_E hc ho
    rw [hk'] at hE
    have hlen : k.E.length ≤ k'.E.length ∧ k'.E.length ≤ k.E.length + 1 := by
      rcases hE with ⟨h1, _⟩ | ⟨e, h1, _⟩ <;> rw [h1] <;> simp
    have hpre : ∀ n, n < k.E.length → k'.E.getD n ev0 = k.E.getD n ev0 := fun n hn => by
      rcases hE with ⟨h1, _⟩ | ⟨e, h1, _⟩ <;> rw [h1]
      exact getD_app hn
    have hkE := hc.E
    repeat' first
      | (refine J.qv ?_; (with_reducible apply exq); focus (first
        | ((with_reducible apply Qv.indexSrcs (k := i)); exact rfl; exact rfl; (focus omega); (focus omega); exact hao (by omega))
        | ((with_reducible apply Qv.fieldAdd); exact rfl)
        | ((with_reducible apply Qv.add); exact rfl; exact rfl; exact wr64 (by have := hc.E; omega) (by have := hc.E; omega) rfl)))
      | (refine J.qr ?_; (with_reducible apply exq); focus (first
        | ((with_reducible apply Qr.rd1 (C := evc T) (j := i * 27 + 0)); exact rfl; exact RH.old hr; exact evc_get (by omega) (by decide))
        | ((with_reducible apply Qr.rd1 (C := evc T) (j := i * 27 + 1)); exact rfl; exact RH.old hr; exact evc_get (by omega) (by decide))
        | ((with_reducible apply Qr.rdN (C := evc T) (j := i * 27 + 2) (cs := (T.getD i ev0).tx.cells)); exact rfl; exact RH.old hr; exact evc_tx (by omega); exact tx_len _)))
      | (refine J.qo ?_; refine ⟨?_, ?_⟩; focus (first
        | ((with_reducible apply Qr.rd1 (C := evc T) (j := i * 27 + 0)); exact rfl; exact RH.old hr; exact evc_get (by omega) (by decide))
        | ((with_reducible apply Qr.rd1 (C := evc T) (j := i * 27 + 1)); exact rfl; exact RH.old hr; exact evc_get (by omega) (by decide))
        | ((with_reducible apply Qr.rdN (C := evc T) (j := i * 27 + 2) (cs := (T.getD i ev0).tx.cells)); exact rfl; exact RH.old hr; exact evc_tx (by omega); exact tx_len _)))
      | ((with_reducible apply J.chE (fun w h => submit_ _ k (T.getD i ev0).tx w h)); exact rfl; exact rfl; (repeat (first | (with_reducible exact Outs.nil) | ((with_reducible apply Outs.cons); (repeat (first | with_reducible exact Out.here | with_reducible apply Out.there))))); exact RH.of ⟨hc.cb (by omega), ho.tx⟩)
      | ((with_reducible apply J.chE (fun w h => include_ _ (subC k (T.getD i ev0).tx) (T.getD i ev0).co w h)); exact rfl; exact rfl; (repeat (first | (with_reducible exact Outs.nil) | ((with_reducible apply Outs.cons); (repeat (first | with_reducible exact Out.here | with_reducible apply Out.there))))); exact RH.of ((hc.sub ho.tx).cb (by omega)))
      | ((with_reducible apply J.chE (fun w h => crise_c _ _ k' (T.getD i ev0).tm hk2 w h)); exact rfl; exact rfl; (repeat (first | (with_reducible exact Outs.nil) | ((with_reducible apply Outs.cons); (repeat (first | with_reducible exact Out.here | with_reducible apply Out.there))))); exact RH.of (((hc.sub ho.tx).inc _).cb (by omega)))
      | ((with_reducible apply J.freshR (evs0 _ _)); exact rfl; exact rfl; (exact RH.and (RH.chn (by (repeat (first | with_reducible exact In.here | with_reducible apply In.there)))) (RH.of (by have := hc'.E; omega))); intro q9 hq9)
      | ((with_reducible apply J.givesR (time_ _ _)); exact rfl; exact rfl; (focus (exact RH.and (RH.chn (by (repeat (first | with_reducible exact In.here | with_reducible apply In.there)))) (RH.of trivial))))
      | refine J.one ?_
      | refine J.loudS ?_
      | (refine J.loudQ ?_; intro _ _)
      | (refine J.loudB ?_; intro _)
      | (with_reducible apply J.list)
      | ((with_reducible apply J.draw (id := 19) [0, 0, 3, 7, 0, 0, 48, 112, 255] (.p 0 (.p 1 (.p 2 (.q 3 (.p 4 (.p 5 (.p 6 (.q 7 (.p 8 .nil))))))))) (by kernel_rfl) ?_ (by kernel_rfl) ?_); (repeat (with_reducible first | exact PanicFree.body | exact PanicFree.np | exact PanicFree.lvS | apply PanicFree.then_ | apply PanicFree.blk)))
      | ((with_reducible apply J.draw (id := 23) [0, 1, 0, 4, 12, 28, 63] (.p 0 (.q 1 (.p 2 (.q 3 (.p 4 (.q 5 (.p 6 .nil))))))) (by kernel_rfl) ?_ (by kernel_rfl) ?_); (repeat (with_reducible first | exact PanicFree.body | exact PanicFree.np | exact PanicFree.lvS | apply PanicFree.then_ | apply PanicFree.blk)))
      | ((with_reducible apply J.draw (id := 27) [0, 1, 3, 0, 15, 31] (.p 0 (.q 3 (.x 1 (.p 2 (.p 4 (.p 5 .nil))) .none))) (by kernel_rfl) ?_ (by kernel_rfl) ?_); (repeat (with_reducible first | exact PanicFree.body | exact PanicFree.np | exact PanicFree.lvS | apply PanicFree.then_ | apply PanicFree.blk)))
      | ((with_reducible apply J.pl2); exact rfl; (first | exact Gd.none | ((with_reducible apply Gd.on); exact rfl; exact rfl)); (repeat (first | (with_reducible exact PendF.nil) | ((with_reducible apply PendF.keep); exact rfl) | ((with_reducible apply PendF.gone); exact rfl))))
      | ((with_reducible apply J.pl2_off); exact rfl; ((with_reducible apply Gd.off); exact rfl; exact rfl; exact rfl); exact rfl; (repeat (first | (with_reducible exact PendF.nil) | ((with_reducible apply PendF.keep); exact rfl) | ((with_reducible apply PendF.gone); exact rfl))))
      | ((with_reducible apply J.pl2_off_none); exact rfl; ((with_reducible apply Gd.off); exact rfl; exact rfl; exact rfl); (repeat (first | (with_reducible exact PendF.nil) | ((with_reducible apply PendF.keep); exact rfl) | ((with_reducible apply PendF.gone); exact rfl))))
      | ((with_reducible first | apply J.psplit0 | apply J.psplit1 | apply J.psplit2); exact rfl; exact rfl; exact rfl)
      | (with_reducible exact J.pl_none)
      | ((with_reducible apply J.gsplit); exact rfl; exact rfl)
      | ((with_reducible first | apply J.cond | apply JC.cond); exact rfl)
      | (intro h; exfalso; (first | (simp at h; done) | (simp at h; omega) | omega))
      | (intro h; (try simp only [decide_eq_true_eq, decide_eq_false_iff_not, beq_iff_eq, beq_eq_false_iff_ne, Bool.not_eq_true', Bool.not_eq_false', bne_iff_ne, bne_eq_false_iff_eq, ne_eq, ge_iff_le, gt_iff_lt] at h))
      | (with_reducible apply J.gave')
      | ((with_reducible apply J.kept'); rotate_left; (repeat (first | (with_reducible exact Outs.nil) | ((with_reducible apply Outs.cons); (repeat (first | with_reducible exact Out.here | with_reducible apply Out.there))))))
    · (with_reducible apply J.someR (ao := q9.1) (n := k'.E.length) (E := 72) (C := evc k'.E) (sz := 27) (by (repeat (first | with_reducible exact In.here | with_reducible apply In.there))) (by decide); intro hnow)
      (with_reducible apply J.someR (ao := q.1) (n := k.E.length) (E := 72) (C := evc k.E) (sz := 27) (by (repeat (first | with_reducible exact In.here | with_reducible apply In.there))) (by decide); intro hwas)
      rcases hE with ⟨h1, h2⟩ | ⟨e, h1, g1, g2, g3⟩
      · have hl : k'.E.length = k.E.length := by rw [h1]
        apply J.loopI (σ := Nat) (I := fun n => n ≤ k.E.length) (L := fun n => [(2, .slice ao T.length cap), (7, .pointer (some ⟨b9, 0, none⟩)), (9, .pointer (some ⟨bn, 0, none⟩)), (12, .slice q9.1 k'.E.length q9.2), (8, .slice q.1 k.E.length q.2), (10, .int .i64 k.s.time), (11, .int .i64 (i : Int)), (13, .int .i64 (n : Int))]) (HH := fun n => [row (.slice q9.1 k'.E.length q9.2) 72 27 k'.E.length (evc k'.E), row (.slice q.1 k.E.length q.2) 72 27 k.E.length (evc k.E), chn b9 k', blk bn (ncell k.s.no) 31]) (m := fun n => k.E.length - n) (s0 := 0)
        · ((try dsimp only); omega)
        · ((try dsimp only); repeat (first | exact sub.nil _ | (refine sub.consE rfl ?_ ?_; (first | with_reducible rfl | (fail) | rfl))))
        · ((try dsimp only); (repeat (first | (with_reducible exact Outs.nil) | ((with_reducible apply Outs.cons); (repeat (first | with_reducible exact Out.here | with_reducible apply Out.there))))))
        rintro n hn
        try dsimp only at hn ⊢
        repeat' first
          | (refine J.qv ?_; (with_reducible apply exq); focus (first
            | ((with_reducible apply Qv.indexSrcs (k := n)); exact rfl; exact rfl; (focus omega); (focus omega); (first | exact hnow (by omega) | exact hwas (by omega)))
            | ((with_reducible apply Qv.neEv); exact rfl; exact rfl; exact hc.e.get _)
            | ((with_reducible apply Qv.add); exact rfl; exact rfl; exact wr64 (by omega) (by omega) rfl)))
          | (refine J.qr ?_; (with_reducible apply exq); focus (first
            | ((with_reducible apply Qr.rdN (C := evc k'.E) (j := n * 27) (cs := (k.E.getD n ev0).cells)); exact rfl; exact RH.row (by (repeat (first | with_reducible exact In.here | with_reducible apply In.there))); exact (evc_at (by omega)).trans (congrArg Ev.cells (hpre n (by omega))); exact ev_len _)
            | ((with_reducible apply Qr.rdN (C := evc k.E) (j := n * 27) (cs := (k.E.getD n ev0).cells)); exact rfl; exact RH.row (by (repeat (first | with_reducible exact In.here | with_reducible apply In.there))); exact evc_at (by omega); exact ev_len _)))
          | (refine J.qo ?_; refine ⟨?_, ?_⟩; focus (first
            | ((with_reducible apply Qr.rdN (C := evc k'.E) (j := n * 27) (cs := (k.E.getD n ev0).cells)); exact rfl; exact RH.row (by (repeat (first | with_reducible exact In.here | with_reducible apply In.there))); exact (evc_at (by omega)).trans (congrArg Ev.cells (hpre n (by omega))); exact ev_len _)
            | ((with_reducible apply Qr.rdN (C := evc k.E) (j := n * 27) (cs := (k.E.getD n ev0).cells)); exact rfl; exact RH.row (by (repeat (first | with_reducible exact In.here | with_reducible apply In.there))); exact evc_at (by omega); exact ev_len _)))
          | ((with_reducible apply J.givesR (time_ _ _)); exact rfl; exact rfl; (focus (exact RH.and (RH.chn (by (repeat (first | with_reducible exact In.here | with_reducible apply In.there)))) (RH.of trivial))))
          | refine J.one ?_
          | refine J.loudS ?_
          | (refine J.loudQ ?_; intro _ _)
          | (refine J.loudB ?_; intro _)
          | (with_reducible apply J.list)
          | ((with_reducible apply J.draw (id := 19) [0, 0, 3, 7, 0, 0, 48, 112, 255] (.p 0 (.p 1 (.p 2 (.q 3 (.p 4 (.p 5 (.p 6 (.q 7 (.p 8 .nil))))))))) (by kernel_rfl) ?_ (by kernel_rfl) ?_); (repeat (with_reducible first | exact PanicFree.body | exact PanicFree.np | exact PanicFree.lvS | apply PanicFree.then_ | apply PanicFree.blk)))
          | ((with_reducible apply J.draw (id := 23) [0, 1, 0, 4, 12, 28, 63] (.p 0 (.q 1 (.p 2 (.q 3 (.p 4 (.q 5 (.p 6 .nil))))))) (by kernel_rfl) ?_ (by kernel_rfl) ?_); (repeat (with_reducible first | exact PanicFree.body | exact PanicFree.np | exact PanicFree.lvS | apply PanicFree.then_ | apply PanicFree.blk)))
          | ((with_reducible apply J.draw (id := 27) [0, 1, 3, 0, 15, 31] (.p 0 (.q 3 (.x 1 (.p 2 (.p 4 (.p 5 .nil))) .none))) (by kernel_rfl) ?_ (by kernel_rfl) ?_); (repeat (with_reducible first | exact PanicFree.body | exact PanicFree.np | exact PanicFree.lvS | apply PanicFree.then_ | apply PanicFree.blk)))
          | ((with_reducible apply J.pl2); exact rfl; (first | exact Gd.none | ((with_reducible apply Gd.on); exact rfl; exact rfl)); (repeat (first | (with_reducible exact PendF.nil) | ((with_reducible apply PendF.keep); exact rfl) | ((with_reducible apply PendF.gone); exact rfl))))
          | ((with_reducible apply J.pl2_off); exact rfl; ((with_reducible apply Gd.off); exact rfl; exact rfl; exact rfl); exact rfl; (repeat (first | (with_reducible exact PendF.nil) | ((with_reducible apply PendF.keep); exact rfl) | ((with_reducible apply PendF.gone); exact rfl))))
          | ((with_reducible apply J.pl2_off_none); exact rfl; ((with_reducible apply Gd.off); exact rfl; exact rfl; exact rfl); (repeat (first | (with_reducible exact PendF.nil) | ((with_reducible apply PendF.keep); exact rfl) | ((with_reducible apply PendF.gone); exact rfl))))
          | ((with_reducible first | apply J.psplit0 | apply J.psplit1 | apply J.psplit2); exact rfl; exact rfl; exact rfl)
          | (with_reducible exact J.pl_none)
          | ((with_reducible apply J.gsplit); exact rfl; exact rfl)
          | ((with_reducible first | apply J.cond | apply JC.cond); exact rfl)
          | (intro h; exfalso; (first | (simp at h; done) | (simp at h; omega) | omega))
          | (intro h; (try simp only [decide_eq_true_eq, decide_eq_false_iff_not, beq_iff_eq, beq_eq_false_iff_ne, Bool.not_eq_true', Bool.not_eq_false', bne_iff_ne, bne_eq_false_iff_eq, ne_eq, ge_iff_le, gt_iff_lt] at h))
          | (with_reducible apply J.gave')
          | ((with_reducible apply J.kept'); rotate_left; (repeat (first | (with_reducible exact Outs.nil) | ((with_reducible apply Outs.cons); (repeat (first | with_reducible exact Out.here | with_reducible apply Out.there))))))
        all_goals first
          | rfl
          | (apply J.againI (s := n) (s' := (n + 1)); (focus (omega)); (focus ((try dsimp only); omega)); (focus (((try dsimp only); repeat (first | exact sub.nil _ | (refine sub.consE rfl ?_ ?_; (first | with_reducible rfl | ((focus (congr 1; omega))) | rfl)))))); ((try dsimp only); (repeat (first | (with_reducible exact Outs.nil) | ((with_reducible apply Outs.cons); (repeat (first | with_reducible exact Out.here | with_reducible apply Out.there)))))))
          | (apply J.reB (b := bn) (C' := ncell k'.s.no)
             · (repeat (first | with_reducible exact Upd.here | with_reducible apply Upd.there))
             · rw [h2]
             · (apply J.againI (s := (i, k, q)) (s' := (i + 1, k', q9)); (focus (((try dsimp only) <;> omega))); (focus ((try dsimp only); (exact ⟨by omega, by omega, hc'.more (by omega)⟩))); (focus (((try dsimp only); repeat (first | exact sub.nil _ | (refine sub.consE rfl ?_ ?_; (first | with_reducible rfl | ((focus (congr 1; omega))) | rfl)))))); ((try dsimp only); (repeat (first | (with_reducible exact Outs.nil) | ((with_reducible apply Outs.cons); (repeat (first | with_reducible exact Out.here | with_reducible apply Out.there))))))))
          | (trace_state; fail)
      · have hl : k'.E.length = k.E.length + 1 := by rw [h1]; simp
        have hfr := chk_fr g1
        have hno := chk_no g1
        apply J.loopI (σ := Nat) (I := fun n => n ≤ k.E.length) (L := fun n => [(2, .slice ao T.length cap), (7, .pointer (some ⟨b9, 0, none⟩)), (9, .pointer (some ⟨bn, 0, none⟩)), (12, .slice q9.1 k'.E.length q9.2), (8, .slice q.1 k.E.length q.2), (10, .int .i64 k.s.time), (11, .int .i64 (i : Int)), (13, .int .i64 (n : Int))]) (HH := fun n => [row (.slice q9.1 k'.E.length q9.2) 72 27 k'.E.length (evc k'.E), row (.slice q.1 k.E.length q.2) 72 27 k.E.length (evc k.E), chn b9 k', blk bn (ncell k.s.no) 31]) (m := fun n => k.E.length - n) (s0 := 0)
        · ((try dsimp only); omega)
        · ((try dsimp only); repeat (first | exact sub.nil _ | (refine sub.consE rfl ?_ ?_; (first | with_reducible rfl | (fail) | rfl))))
        · ((try dsimp only); (repeat (first | (with_reducible exact Outs.nil) | ((with_reducible apply Outs.cons); (repeat (first | with_reducible exact Out.here | with_reducible apply Out.there))))))
        rintro n hn
        try dsimp only at hn ⊢
        repeat' first
          | (refine J.qv ?_; (with_reducible apply exq); focus (first
            | ((with_reducible apply Qv.indexSrcs (k := k.E.length)); exact rfl; exact rfl; (focus omega); (focus omega); exact hnow (by omega))
            | ((with_reducible apply Qv.indexSrcs (k := n)); exact rfl; exact rfl; (focus omega); (focus omega); (first | exact hnow (by omega) | exact hwas (by omega)))
            | ((with_reducible apply Qv.neEv); exact rfl; exact rfl; exact hc.e.get _)
            | ((with_reducible apply Qv.fieldAdd); exact rfl)
            | ((with_reducible apply Qv.add); exact rfl; exact rfl; exact wr64 (by omega) (by omega) rfl)))
          | (refine J.qr ?_; (with_reducible apply exq); focus (first
            | ((with_reducible apply Qr.rdN (C := evc k'.E) (j := n * 27) (cs := (k.E.getD n ev0).cells)); exact rfl; exact RH.row (by (repeat (first | with_reducible exact In.here | with_reducible apply In.there))); exact (evc_at (by omega)).trans (congrArg Ev.cells (hpre n (by omega))); exact ev_len _)
            | ((with_reducible apply Qr.rdN (C := evc k.E) (j := n * 27) (cs := (k.E.getD n ev0).cells)); exact rfl; exact RH.row (by (repeat (first | with_reducible exact In.here | with_reducible apply In.there))); exact evc_at (by omega); exact ev_len _)
            | ((with_reducible apply Qr.rdN (C := evc k'.E) (j := k.E.length * 27 + 2) (cs := e.tx.cells)); exact rfl; exact RH.row (by (repeat (first | with_reducible exact In.here | with_reducible apply In.there))); exact (evc_tx (by omega)).trans (by rw [h1, getD_last]); exact tx_len _)
            | ((with_reducible apply Qr.load1); exact rfl; (focus ((repeat (first | with_reducible exact In.here | with_reducible apply In.there)); done)); exact tab_get (by omega))))
          | (refine J.qo ?_; refine ⟨?_, ?_⟩; focus (first
            | ((with_reducible apply Qr.rdN (C := evc k'.E) (j := n * 27) (cs := (k.E.getD n ev0).cells)); exact rfl; exact RH.row (by (repeat (first | with_reducible exact In.here | with_reducible apply In.there))); exact (evc_at (by omega)).trans (congrArg Ev.cells (hpre n (by omega))); exact ev_len _)
            | ((with_reducible apply Qr.rdN (C := evc k.E) (j := n * 27) (cs := (k.E.getD n ev0).cells)); exact rfl; exact RH.row (by (repeat (first | with_reducible exact In.here | with_reducible apply In.there))); exact evc_at (by omega); exact ev_len _)
            | ((with_reducible apply Qr.rdN (C := evc k'.E) (j := k.E.length * 27 + 2) (cs := e.tx.cells)); exact rfl; exact RH.row (by (repeat (first | with_reducible exact In.here | with_reducible apply In.there))); exact (evc_tx (by omega)).trans (by rw [h1, getD_last]); exact tx_len _)
            | ((with_reducible apply Qr.load1); exact rfl; (focus ((repeat (first | with_reducible exact In.here | with_reducible apply In.there)); done)); exact tab_get (by omega))))
          | ((with_reducible apply J.storeFull); exact rfl; exact rfl; (repeat (first | with_reducible exact Upd.here | with_reducible apply Upd.there)); (with_reducible exact tx_len _); kernel_rfl; rfl)
          | ((with_reducible apply J.store1); exact rfl; exact rfl; exact rfl; (repeat (first | with_reducible exact Upd.here | with_reducible apply Upd.there)); exact ncell_put _ (by omega) _; (focus (rw [ncell_length]; omega)))
          | ((with_reducible apply J.givesR (time_ _ _)); exact rfl; exact rfl; (focus (exact RH.and (RH.chn (by (repeat (first | with_reducible exact In.here | with_reducible apply In.there)))) (RH.of trivial))))
          | refine J.one ?_
          | refine J.loudS ?_
          | (refine J.loudQ ?_; intro _ _)
          | (refine J.loudB ?_; intro _)
          | (with_reducible apply J.list)
          | ((with_reducible apply J.draw (id := 19) [0, 0, 3, 7, 0, 0, 48, 112, 255] (.p 0 (.p 1 (.p 2 (.q 3 (.p 4 (.p 5 (.p 6 (.q 7 (.p 8 .nil))))))))) (by kernel_rfl) ?_ (by kernel_rfl) ?_); (repeat (with_reducible first | exact PanicFree.body | exact PanicFree.np | exact PanicFree.lvS | apply PanicFree.then_ | apply PanicFree.blk)))
          | ((with_reducible apply J.draw (id := 23) [0, 1, 0, 4, 12, 28, 63] (.p 0 (.q 1 (.p 2 (.q 3 (.p 4 (.q 5 (.p 6 .nil))))))) (by kernel_rfl) ?_ (by kernel_rfl) ?_); (repeat (with_reducible first | exact PanicFree.body | exact PanicFree.np | exact PanicFree.lvS | apply PanicFree.then_ | apply PanicFree.blk)))
          | ((with_reducible apply J.draw (id := 27) [0, 1, 3, 0, 15, 31] (.p 0 (.q 3 (.x 1 (.p 2 (.p 4 (.p 5 .nil))) .none))) (by kernel_rfl) ?_ (by kernel_rfl) ?_); (repeat (with_reducible first | exact PanicFree.body | exact PanicFree.np | exact PanicFree.lvS | apply PanicFree.then_ | apply PanicFree.blk)))
          | ((with_reducible apply J.pl2); exact rfl; (first | exact Gd.none | ((with_reducible apply Gd.on); exact rfl; exact rfl)); (repeat (first | (with_reducible exact PendF.nil) | ((with_reducible apply PendF.keep); exact rfl) | ((with_reducible apply PendF.gone); exact rfl))))
          | ((with_reducible apply J.pl2_off); exact rfl; ((with_reducible apply Gd.off); exact rfl; exact rfl; exact rfl); exact rfl; (repeat (first | (with_reducible exact PendF.nil) | ((with_reducible apply PendF.keep); exact rfl) | ((with_reducible apply PendF.gone); exact rfl))))
          | ((with_reducible apply J.pl2_off_none); exact rfl; ((with_reducible apply Gd.off); exact rfl; exact rfl; exact rfl); (repeat (first | (with_reducible exact PendF.nil) | ((with_reducible apply PendF.keep); exact rfl) | ((with_reducible apply PendF.gone); exact rfl))))
          | ((with_reducible first | apply J.psplit0 | apply J.psplit1 | apply J.psplit2); exact rfl; exact rfl; exact rfl)
          | (with_reducible exact J.pl_none)
          | ((with_reducible apply J.gsplit); exact rfl; exact rfl)
          | ((with_reducible first | apply J.cond | apply JC.cond); exact rfl)
          | (intro h; exfalso; (first | (simp at h; done) | (simp at h; omega) | omega))
          | (intro h; (try simp only [decide_eq_true_eq, decide_eq_false_iff_not, beq_iff_eq, beq_eq_false_iff_ne, Bool.not_eq_true', Bool.not_eq_false', bne_iff_ne, bne_eq_false_iff_eq, ne_eq, ge_iff_le, gt_iff_lt] at h))
          | (with_reducible apply J.gave')
          | ((with_reducible apply J.kept'); rotate_left; (repeat (first | (with_reducible exact Outs.nil) | ((with_reducible apply Outs.cons); (repeat (first | with_reducible exact Out.here | with_reducible apply Out.there))))))
        all_goals first
          | rfl
          | (apply J.againI (s := n) (s' := (n + 1)); (focus (omega)); (focus ((try dsimp only); omega)); (focus (((try dsimp only); repeat (first | exact sub.nil _ | (refine sub.consE rfl ?_ ?_; (first | with_reducible rfl | ((focus (congr 1; omega))) | rfl)))))); ((try dsimp only); (repeat (first | (with_reducible exact Outs.nil) | ((with_reducible apply Outs.cons); (repeat (first | with_reducible exact Out.here | with_reducible apply Out.there)))))))
          | (apply J.reB (b := bn) (C' := ncell k'.s.no)
             · (repeat (first | with_reducible exact Upd.here | with_reducible apply Upd.there))
             · rw [g3]
             · (apply J.againI (s := (i, k, q)) (s' := (i + 1, k', q9)); (focus (((try dsimp only) <;> omega))); (focus ((try dsimp only); (exact ⟨by omega, by omega, hc'.more (by omega)⟩))); (focus (((try dsimp only); repeat (first | exact sub.nil _ | (refine sub.consE rfl ?_ ?_; (first | with_reducible rfl | ((focus (congr 1; omega))) | rfl)))))); ((try dsimp only); (repeat (first | (with_reducible exact Outs.nil) | ((with_reducible apply Outs.cons); (repeat (first | with_reducible exact Out.here | with_reducible apply Out.there))))))))
          | (trace_state; fail)
    repeat' first
      | (refine J.qv ?_; (with_reducible apply exq); focus (first
        | ((with_reducible apply Qv.fieldN); exact rfl; exact SS.g4w _ _)
        | ((with_reducible apply Qv.eqNo); exact rfl; exact rfl; exact hc.i.no)))
      | (refine J.qr ?_; (with_reducible apply exq); focus (first
        | ((with_reducible apply Qr.loadFull); exact rfl; (focus ((repeat (first | with_reducible exact In.here | with_reducible apply In.there)); done)); with_reducible exact ncell_length _)))
      | (refine J.qo ?_; refine ⟨?_, ?_⟩; focus (first
        | ((with_reducible apply Qr.loadFull); exact rfl; (focus ((repeat (first | with_reducible exact In.here | with_reducible apply In.there)); done)); with_reducible exact ncell_length _)))
      | ((with_reducible apply J.stV (state_ b9 k)); exact rfl; exact rfl; (exact RH.and (RH.chn (by (repeat (first | with_reducible exact In.here | with_reducible apply In.there)))) (RH.of (hc.cb (by omega)))); intro q8 hq8)
      | refine J.one ?_
      | refine J.loudS ?_
      | (refine J.loudQ ?_; intro _ _)
      | (refine J.loudB ?_; intro _)
      | (with_reducible apply J.list)
      | ((with_reducible apply J.draw (id := 19) [0, 0, 3, 7, 0, 0, 48, 112, 255] (.p 0 (.p 1 (.p 2 (.q 3 (.p 4 (.p 5 (.p 6 (.q 7 (.p 8 .nil))))))))) (by kernel_rfl) ?_ (by kernel_rfl) ?_); (repeat (with_reducible first | exact PanicFree.body | exact PanicFree.np | exact PanicFree.lvS | apply PanicFree.then_ | apply PanicFree.blk)))
      | ((with_reducible apply J.draw (id := 23) [0, 1, 0, 4, 12, 28, 63] (.p 0 (.q 1 (.p 2 (.q 3 (.p 4 (.q 5 (.p 6 .nil))))))) (by kernel_rfl) ?_ (by kernel_rfl) ?_); (repeat (with_reducible first | exact PanicFree.body | exact PanicFree.np | exact PanicFree.lvS | apply PanicFree.then_ | apply PanicFree.blk)))
      | ((with_reducible apply J.draw (id := 27) [0, 1, 3, 0, 15, 31] (.p 0 (.q 3 (.x 1 (.p 2 (.p 4 (.p 5 .nil))) .none))) (by kernel_rfl) ?_ (by kernel_rfl) ?_); (repeat (with_reducible first | exact PanicFree.body | exact PanicFree.np | exact PanicFree.lvS | apply PanicFree.then_ | apply PanicFree.blk)))
      | ((with_reducible apply J.pl2); exact rfl; (first | exact Gd.none | ((with_reducible apply Gd.on); exact rfl; exact rfl)); (repeat (first | (with_reducible exact PendF.nil) | ((with_reducible apply PendF.keep); exact rfl) | ((with_reducible apply PendF.gone); exact rfl))))
      | ((with_reducible apply J.pl2_off); exact rfl; ((with_reducible apply Gd.off); exact rfl; exact rfl; exact rfl); exact rfl; (repeat (first | (with_reducible exact PendF.nil) | ((with_reducible apply PendF.keep); exact rfl) | ((with_reducible apply PendF.gone); exact rfl))))
      | ((with_reducible apply J.pl2_off_none); exact rfl; ((with_reducible apply Gd.off); exact rfl; exact rfl; exact rfl); (repeat (first | (with_reducible exact PendF.nil) | ((with_reducible apply PendF.keep); exact rfl) | ((with_reducible apply PendF.gone); exact rfl))))
      | ((with_reducible first | apply J.psplit0 | apply J.psplit1 | apply J.psplit2); exact rfl; exact rfl; exact rfl)
      | (with_reducible exact J.pl_none)
      | ((with_reducible apply J.gsplit); exact rfl; exact rfl)
      | ((with_reducible first | apply J.cond | apply JC.cond); exact rfl)
      | (intro h; exfalso; fail)
      | (intro h; (try simp only [decide_eq_true_eq, decide_eq_false_iff_not, beq_iff_eq, beq_eq_false_iff_ne, Bool.not_eq_true', Bool.not_eq_false', bne_iff_ne, bne_eq_false_iff_eq, ne_eq, ge_iff_le, gt_iff_lt] at h))
      | (with_reducible apply J.gave')
      | ((with_reducible apply J.kept'); rotate_left; (repeat (first | (with_reducible exact Outs.nil) | ((with_reducible apply Outs.cons); (repeat (first | with_reducible exact Out.here | with_reducible apply Out.there))))))
    all_goals first
      | rfl
      | (trace_state; fail)
theorem ChainStays {r : Reach} {b0 : Nat} {H : Type} {enc : TypeId × Value → H} {spare : Nat → Bool} {held : Bool} {d : DataW H} {p : List MemPlace} (side time : Int) (v : Value) (W : World) (g1 : (Lit.int .i64 side).wf = true) (g2 : (Lit.int .i64 time).wf = true) (o : Value.okWide Tryz.prog W r b0 74 v) (t : DataW.Trod enc Tryz.prog W 0 spare held 74 v d p) :
    Calls Tryz.prog 6 #[.int .i64 side, .int .i64 time, v] W fun e w' => e = .returned (.bool true) ∧ Below W.heap.size W w' := by
  obtain ⟨ao, T, cap, rfl, h1, h2, h3, h4⟩ := reads_ops (in_slice (L := evsh) (k := 6) (e := 77) rfl o t (by kernel_rfl))
  exact (stays side time ao cap T W ⟨h4, h3, by omega⟩).below
end Go.Proofs.YtljbedladifgmaaGreat.Sty
