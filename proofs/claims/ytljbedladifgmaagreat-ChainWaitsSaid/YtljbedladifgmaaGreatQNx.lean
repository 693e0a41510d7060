/-
  What the page says is there, and comes next. No conditions.
-/
import Derived.Test.YtljbedladifgmaaGreatQCiv
namespace Go.Proofs.YtljbedladifgmaaGreat.Nx
open Go Go.RowKit Eng
set_option linter.unusedVariables false
set_option maxRecDepth 100000
set_option linter.unusedSimpArgs false
open Wide Purse Tx Sha Ss Esc Vau Lck Do Prep Ful Doo Tri App Inn Low Gene Alv Kee Txl Cht Chn Chm Chw Chi Chx Civ Deal Mss Ots Hash Bytes
set_option maxHeartbeats 1000000
theorem hasT_no {P : List Tx} {t : Tx} (h : ∀ j, j < P.length → teq t (P.getD j tx0) = false) : hasT P t = false := by
  cases hb : hasT P t with
  | false => rfl
  | true =>
    obtain ⟨i, hi, h2⟩ := hasT_iff.1 hb
    rw [h i hi] at h2
    cases h2
theorem has_ (ao : Option Addr) (cap : Nat) (P : List Tx) (t : Tx) (w : World) (hw : Rd w ao (txc P) ∧ TsIn P ∧ TX t ∧ P.length ≤ maxLen) : CSpec Tryz.prog 35 [.slice ao P.length cap, .agg t.cells.toArray] [] w (Gives (.bool (hasT P t))) := by
  obtain ⟨hr, hP, ht, hm⟩ := hw
  have hm9 : P.length ≤ 9223372036854775807 := by unfold maxLen at hm; omega
  have hao : 0 < P.length → ao.isSome = true := txs_some hr
  refine spec_own0 Tryz.func35 rfl Tryz.ntmps35 rfl (l0 := [(0, .slice ao P.length cap), (1, .agg t.cells.toArray)]) rfl ?_
  repeat' first
    | (refine J.qr ?_; (with_reducible apply exq); focus (first
      | ((with_reducible apply Qr.loadFull); exact rfl; (focus ((repeat (first | with_reducible exact In.here | with_reducible apply In.there)); done)); (with_reducible exact tx_len _))))
    | (refine J.qo ?_; refine ⟨?_, ?_⟩; focus (first
      | ((with_reducible apply Qr.loadFull); exact rfl; (focus ((repeat (first | with_reducible exact In.here | with_reducible apply In.there)); done)); (with_reducible exact tx_len _))))
    | refine J.one ?_
    | refine J.loudS ?_
    | (refine J.loudQ ?_; intro _ _)
    | (refine J.loudB ?_; intro _)
    | (with_reducible apply J.list)
    | ((with_reducible apply J.draw (id := 4) [0, 0, 3, 7, 0, 31] (.p 0 (.p 1 (.p 2 (.q 3 (.q 4 (.p 5 .nil)))))) (by kernel_rfl) ?_ (by kernel_rfl) ?_); (repeat (with_reducible first | exact PanicFree.body | exact PanicFree.np | exact PanicFree.lvS | apply PanicFree.then_ | apply PanicFree.blk)))
    | ((with_reducible apply J.pl2); exact rfl; (first | exact Gd.none | ((with_reducible apply Gd.on); exact rfl; exact rfl)); (repeat (first | (with_reducible exact PendF.nil) | ((with_reducible apply PendF.keep); exact rfl) | ((with_reducible apply PendF.gone); exact rfl))))
    | ((with_reducible apply J.pl2_off); exact rfl; ((with_reducible apply Gd.off); exact rfl; exact rfl; exact rfl); exact rfl; (repeat (first | (with_reducible exact PendF.nil) | ((with_reducible apply PendF.keep); exact rfl) | ((with_reducible apply PendF.gone); exact rfl))))
    | ((with_reducible apply J.pl2_off_none); exact rfl; ((with_reducible apply Gd.off); exact rfl; exact rfl; exact rfl); (repeat (first | (with_reducible exact PendF.nil) | ((with_reducible apply PendF.keep); exact rfl) | ((with_reducible apply PendF.gone); exact rfl))))
    | ((with_reducible first | apply J.psplit0 | apply J.psplit1 | apply J.psplit2); exact rfl; exact rfl; exact rfl)
    | (with_reducible exact J.pl_none)
    | ((with_reducible apply J.gsplit); exact rfl; exact rfl)
    | ((with_reducible first | apply J.cond | apply JC.cond); exact rfl)
    | (intro h; exfalso; fail)
    | (intro h; (try simp only [decide_eq_true_eq, decide_eq_false_iff_not, beq_iff_eq, beq_eq_false_iff_ne, Bool.not_eq_true', Bool.not_eq_false', bne_iff_ne, bne_eq_false_iff_eq, ne_eq, ge_iff_le, gt_iff_lt] at h))
    | (with_reducible apply J.gave')
    | ((with_reducible apply J.kept'); rotate_left; (repeat (first | (with_reducible exact Outs.nil) | ((with_reducible apply Outs.cons); (repeat (first | with_reducible exact Out.here | with_reducible apply Out.there))))))
  rename_i b3
  apply J.loopI (σ := Nat) (I := fun q => (q ≤ P.length ∧ ∀ j, j < q → teq t (P.getD j tx0) = false)) (L := fun q => [(0, .slice ao P.length cap), (3, .pointer (some ⟨b3, 0, none⟩)), (5, .int .i64 (q : Int))]) (HH := fun q => [blk b3 t.cells 50]) (m := fun q => P.length - q) (s0 := 0)
  · ((try dsimp only); (exact ⟨Nat.zero_le _, fun j hj => absurd hj (Nat.not_lt_zero _)⟩))
  · ((try dsimp only); repeat (first | exact sub.nil _ | (refine sub.consE rfl ?_ ?_; (first | with_reducible rfl | (fail) | rfl))))
  · ((try dsimp only); (repeat (first | (with_reducible exact Outs.nil) | ((with_reducible apply Outs.cons); (repeat (first | with_reducible exact Out.here | with_reducible apply Out.there))))))
  rintro i ⟨hI, hno⟩
  try dsimp only at *
  repeat' first
    | (refine J.qv ?_; (with_reducible apply exq); focus (first
      | ((with_reducible apply Qv.indexSrcs (k := i)); exact rfl; exact rfl; (focus omega); (focus omega); exact hao (by omega))
      | ((with_reducible apply Qv.eqTx); exact rfl; exact rfl; (with_reducible first | exact ht | exact hP.get _); (with_reducible first | exact hP.get _ | exact ht))))
    | (refine J.qr ?_; (with_reducible apply exq); focus (first
      | ((with_reducible apply Qr.rdN (C := txc P) (j := i * 25) (cs := (P.getD i tx0).cells)); exact rfl; exact RH.old hr; exact txc_at (by omega); exact tx_len _)
      | ((with_reducible apply Qr.loadFull); exact rfl; (focus ((repeat (first | with_reducible exact In.here | with_reducible apply In.there)); done)); (with_reducible exact tx_len _))))
    | (refine J.qo ?_; refine ⟨?_, ?_⟩; focus (first
      | ((with_reducible apply Qr.rdN (C := txc P) (j := i * 25) (cs := (P.getD i tx0).cells)); exact rfl; exact RH.old hr; exact txc_at (by omega); exact tx_len _)
      | ((with_reducible apply Qr.loadFull); exact rfl; (focus ((repeat (first | with_reducible exact In.here | with_reducible apply In.there)); done)); (with_reducible exact tx_len _))))
    | refine J.one ?_
    | refine J.loudS ?_
    | (refine J.loudQ ?_; intro _ _)
    | (refine J.loudB ?_; intro _)
    | (with_reducible apply J.list)
    | ((with_reducible apply J.draw (id := 4) [0, 0, 3, 7, 0, 31] (.p 0 (.p 1 (.p 2 (.q 3 (.q 4 (.p 5 .nil)))))) (by kernel_rfl) ?_ (by kernel_rfl) ?_); (repeat (with_reducible first | exact PanicFree.body | exact PanicFree.np | exact PanicFree.lvS | apply PanicFree.then_ | apply PanicFree.blk)))
    | ((with_reducible apply J.pl2); exact rfl; (first | exact Gd.none | ((with_reducible apply Gd.on); exact rfl; exact rfl)); (repeat (first | (with_reducible exact PendF.nil) | ((with_reducible apply PendF.keep); exact rfl) | ((with_reducible apply PendF.gone); exact rfl))))
    | ((with_reducible apply J.pl2_off); exact rfl; ((with_reducible apply Gd.off); exact rfl; exact rfl; exact rfl); exact rfl; (repeat (first | (with_reducible exact PendF.nil) | ((with_reducible apply PendF.keep); exact rfl) | ((with_reducible apply PendF.gone); exact rfl))))
    | ((with_reducible apply J.pl2_off_none); exact rfl; ((with_reducible apply Gd.off); exact rfl; exact rfl; exact rfl); (repeat (first | (with_reducible exact PendF.nil) | ((with_reducible apply PendF.keep); exact rfl) | ((with_reducible apply PendF.gone); exact rfl))))
    | ((with_reducible first | apply J.psplit0 | apply J.psplit1 | apply J.psplit2); exact rfl; exact rfl; exact rfl)
    | (with_reducible exact J.pl_none)
    | ((with_reducible apply J.gsplit); exact rfl; exact rfl)
    | ((with_reducible first | apply J.cond | apply JC.cond); exact rfl)
    | (intro h; exfalso; (first | (simp at h; done) | (simp at h; omega) | omega))
    | (intro h; (try simp only [decide_eq_true_eq, decide_eq_false_iff_not, beq_iff_eq, beq_eq_false_iff_ne, Bool.not_eq_true', Bool.not_eq_false', bne_iff_ne, bne_eq_false_iff_eq, ne_eq, ge_iff_le, gt_iff_lt] at h))
    | (with_reducible apply J.gave')
    | ((with_reducible apply J.kept'); rotate_left; (repeat (first | (with_reducible exact Outs.nil) | ((with_reducible apply Outs.cons); (repeat (first | with_reducible exact Out.here | with_reducible apply Out.there))))))
  all_goals first
    | (have h9 : hasT P t = true := hasT_iff.2 ⟨i, by omega, (teq_comm _ _).trans (by assumption)⟩
       simp only [retv, h9]; done)
    | (apply J.againI (s := i) (s' := (i + 1)); (focus (omega)); (focus ((try dsimp only); exact ⟨by omega, fun j hj => (Nat.lt_or_ge j i).elim (hno j) fun h9 => (show j = i from Nat.le_antisymm (Nat.le_of_lt_succ hj) h9).symm ▸ ((teq_comm _ _).trans (by assumption))⟩)); (focus (((try dsimp only); repeat (first | exact sub.nil _ | (refine sub.consE rfl ?_ ?_; (first | with_reducible rfl | ((focus (congr 1; omega))) | rfl)))))); ((try dsimp only); (repeat (first | (with_reducible exact Outs.nil) | ((with_reducible apply Outs.cons); (repeat (first | with_reducible exact Out.here | with_reducible apply Out.there)))))))
    | (obtain rfl : i = P.length := by omega
       simp only [retv, hasT_no hno]; done)
    | (trace_state; fail)
/-- How many are not yet past. -/
def cntN (P : List Tx) (a n : Int) : Nat → Nat
  | 0 => 0
  | i + 1 => cntN P a n i + (if (P.getD i tx0).fr = a ∧ n ≤ (P.getD i tx0).no then 1 else 0)
theorem cntN_le (P : List Tx) (a n : Int) : ∀ i, cntN P a n i ≤ i
  | 0 => Nat.le_refl _
  | i + 1 => by
    have := cntN_le P a n i
    simp only [cntN]
    split <;> omega
theorem cntN_mono {P : List Tx} {a n n' : Int} (h : n ≤ n') : ∀ i, cntN P a n' i ≤ cntN P a n i
  | 0 => Nat.le_refl _
  | i + 1 => by
    have := cntN_mono (P := P) (a := a) h i
    simp only [cntN]
    split <;> split <;> omega
theorem cntN_lt {P : List Tx} {a n n' : Int} (h : n < n') {i0 : Nat} (h1 : (P.getD i0 tx0).fr = a) (h2 : (P.getD i0 tx0).no = n) : ∀ i, i0 < i → cntN P a n' i + 1 ≤ cntN P a n i
  | 0, h0 => by omega
  | i + 1, h0 => by
    simp only [cntN]
    rcases Nat.lt_or_ge i0 i with h3 | h3
    · have := cntN_lt h h1 h2 i h3
      split <;> split <;> omega
    · obtain rfl : i0 = i := by omega
      have := cntN_mono (P := P) (a := a) (Int.le_of_lt h) i0
      rw [if_neg (by omega), if_pos ⟨h1, by omega⟩]
      omega
theorem txc_get {T : List Tx} {i j : Nat} (h : i < T.length) (hj : j < 25) : (txc T)[i * 25 + j]? = (T.getD i tx0).cells[j]? := by
  rw [← txc_at h, List.getElem?_take, if_pos hj, List.getElem?_drop]
theorem txc_fr {T : List Tx} {i : Nat} (h : i < T.length) : (txc T)[i * 25 + 0]? = some (.int .i64 (T.getD i tx0).fr) := (txc_get h (by decide)).trans rfl
theorem txc_no {T : List Tx} {i : Nat} (h : i < T.length) : (txc T)[i * 25 + 1]? = some (.int .i64 (T.getD i tx0).no) := (txc_get h (by decide)).trans rfl
theorem nx13 (s : SS) (ar : Option Addr) (nl cl : Nat) (ao : Option Addr) (cap : Nat) (P : List Tx) (a m : Int) (w : World) (hw : Rd w ao (txc P) ∧ TsIn P ∧ Fine P ∧ P.length ≤ 1000 ∧ (∀ j, I64 (s.no j)) ∧ (if 0 ≤ a ∧ a < 8 then IsNext P a (s.no a.toNat) m else m = 0)) : CSpec Tryz.prog 38 [.agg (s.cells (.slice ar nl cl)).toArray, .slice ao P.length cap, .int .i64 a] [] w (Gives (.int .i64 m)) := by
  obtain ⟨hr, hP, hf, hm, hno, hv⟩ := hw
  have hm9 : P.length ≤ 9223372036854775806 := by omega
  have hao : 0 < P.length → ao.isSome = true := txs_some hr
  have hN : ∀ n, hasN P a n → 0 ≤ n ∧ n ≤ 1099511627776 := fun n h => hf.no h
  refine spec_own0 Tryz.func38 rfl Tryz.ntmps38 rfl (l0 := [(0, .agg (s.cells (.slice ar nl cl)).toArray), (1, .slice ao P.length cap), (2, .int .i64 a)]) rfl ?_
  repeat' first
    | (refine J.qv ?_; (with_reducible apply exq); focus (first
      | ((with_reducible apply Qv.idxNo); exact rfl; exact rfl; (constructor <;> omega))))
    | (refine J.qr ?_; (with_reducible apply exq); focus (first
      | ((with_reducible apply Qr.ldNo); exact rfl; (focus ((repeat (first | with_reducible exact In.here | with_reducible apply In.there)); done)); omega)))
    | refine J.one ?_
    | refine J.loudS ?_
    | (refine J.loudQ ?_; intro _ _)
    | (refine J.loudB ?_; intro _)
    | (with_reducible apply J.list)
    | ((with_reducible apply J.gsplit); exact rfl; exact rfl)
    | ((with_reducible first | apply J.cond | apply JC.cond); exact rfl)
    | (intro h; exfalso; (first | (simp at h; done) | (simp at h; omega) | omega))
    | (intro h; (try simp only [decide_eq_true_eq, decide_eq_false_iff_not, beq_iff_eq, beq_eq_false_iff_ne, Bool.not_eq_true', Bool.not_eq_false', bne_iff_ne, bne_eq_false_iff_eq, ne_eq, ge_iff_le, gt_iff_lt] at h))
    | (with_reducible apply J.gave')
    | ((with_reducible apply J.kept'); rotate_left; (repeat (first | (with_reducible exact Outs.nil) | ((with_reducible apply Outs.cons); (repeat (first | with_reducible exact Out.here | with_reducible apply Out.there))))))
  all_goals try (have h1 : m = 0 := by rwa [if_neg (by omega)] at hv
                 simp only [retv, h1]; done)
  have hx : IsNext P a (s.no a.toNat) m := by rwa [if_pos ⟨by omega, by omega⟩] at hv
  apply J.loopI (σ := Nat × Int) (I := fun x => x.1 ≤ P.length + 1 ∧ s.no a.toNat ≤ x.2 ∧ x.2 ≤ m ∧ (x.2 = m ∨ cntN P a x.2 P.length + x.1 ≤ P.length)) (L := fun x => [(1, .slice ao P.length cap), (2, .int .i64 a), (7, .int .i64 x.2), (8, .int .i64 (x.1 : Int))]) (HH := fun x => []) (m := fun x => P.length + 1 - x.1) (s0 := (0, s.no a.toNat))
  · ((try dsimp only); (exact ⟨Nat.zero_le _, Int.le_refl _, hx.le, .inr (by have := cntN_le P a (s.no a.toNat) P.length; omega)⟩))
  · ((try dsimp only); repeat (first | exact sub.nil _ | (refine sub.consE rfl ?_ ?_; (first | with_reducible rfl | (fail) | rfl))))
  · ((try dsimp only); (repeat (first | (with_reducible exact Outs.nil) | ((with_reducible apply Outs.cons); (repeat (first | with_reducible exact Out.here | with_reducible apply Out.there))))))
  rintro ⟨k, n⟩ ⟨hk, hn0, hnm, hc⟩
  try dsimp only at *
  obtain ⟨i0, hi0⟩ : ∃ i0, n ≠ m → i0 < P.length ∧ (P.getD i0 tx0).fr = a ∧ (P.getD i0 tx0).no = n := by
    by_cases h9 : n = m
    · exact ⟨0, fun h => absurd h9 h⟩
    · obtain ⟨i0, g1, g2, g3⟩ := hx.all n hn0 (by omega)
      exact ⟨i0, fun _ => ⟨g1, g2, g3⟩⟩
  repeat' first
    | (refine J.qv ?_; (with_reducible apply exq); focus (first
      | ((with_reducible apply Qv.fieldAdd); exact rfl)
      | ((with_reducible apply Qv.indexSrcs (k := i)); exact rfl; exact rfl; (focus omega); (focus omega); exact hao (by omega))
      | ((with_reducible apply Qv.add); exact rfl; exact rfl; exact wr64 (by first | omega | (have := hN n2 ⟨i, by omega, by assumption, by assumption⟩; omega)) (by first | omega | (have := hN n2 ⟨i, by omega, by assumption, by assumption⟩; omega)) rfl)))
    | (refine J.qr ?_; (with_reducible apply exq); focus (first
      | ((with_reducible apply Qr.rd1 (C := txc P) (j := i * 25 + 0)); exact rfl; exact RH.old hr; exact txc_fr (by omega))
      | ((with_reducible apply Qr.rd1 (C := txc P) (j := i * 25 + 1)); exact rfl; exact RH.old hr; exact txc_no (by omega))))
    | refine J.one ?_
    | refine J.loudS ?_
    | (refine J.loudQ ?_; intro _ _)
    | (refine J.loudB ?_; intro _)
    | (with_reducible apply J.list)
    | ((with_reducible apply J.gsplit); exact rfl; exact rfl)
    | ((with_reducible first | apply J.cond | apply JC.cond); exact rfl)
    | (intro h; exfalso; (first | (simp at h; done) | (simp at h; omega) | omega))
    | (intro h; (try simp only [decide_eq_true_eq, decide_eq_false_iff_not, beq_iff_eq, beq_eq_false_iff_ne, Bool.not_eq_true', Bool.not_eq_false', bne_iff_ne, bne_eq_false_iff_eq, ne_eq, ge_iff_le, gt_iff_lt] at h))
    | (with_reducible apply J.gave')
    | ((with_reducible apply J.kept'); rotate_left; (repeat (first | (with_reducible exact Outs.nil) | ((with_reducible apply Outs.cons); (repeat (first | with_reducible exact Out.here | with_reducible apply Out.there))))))
  · apply J.loopI (σ := Nat × Int) (I := fun x => x.1 ≤ P.length ∧ n ≤ x.2 ∧ x.2 ≤ m ∧ (n ≠ m → i0 < x.1 → n < x.2)) (L := fun x => [(1, .slice ao P.length cap), (2, .int .i64 a), (7, .int .i64 x.2), (8, .int .i64 (k : Int)), (9, .int .i64 (x.1 : Int))]) (HH := fun x => []) (m := fun x => P.length - x.1) (s0 := (0, n))
    · ((try dsimp only); (exact ⟨Nat.zero_le _, Int.le_refl _, hnm, fun _ h => by omega⟩))
    · ((try dsimp only); repeat (first | exact sub.nil _ | (refine sub.consE rfl ?_ ?_; (first | with_reducible rfl | (fail) | rfl))))
    · ((try dsimp only); (repeat (first | (with_reducible exact Outs.nil) | ((with_reducible apply Outs.cons); (repeat (first | with_reducible exact Out.here | with_reducible apply Out.there))))))
    rintro ⟨i, n2⟩ ⟨hi, hn2, hnm2, hp⟩
    try dsimp only at *
    repeat' first
      | (refine J.qv ?_; (with_reducible apply exq); focus (first
        | ((with_reducible apply Qv.fieldAdd); exact rfl)
        | ((with_reducible apply Qv.indexSrcs (k := i)); exact rfl; exact rfl; (focus omega); (focus omega); exact hao (by omega))
        | ((with_reducible apply Qv.add); exact rfl; exact rfl; exact wr64 (by first | omega | (have := hN n2 ⟨i, by omega, by assumption, by assumption⟩; omega)) (by first | omega | (have := hN n2 ⟨i, by omega, by assumption, by assumption⟩; omega)) rfl)))
      | (refine J.qr ?_; (with_reducible apply exq); focus (first
        | ((with_reducible apply Qr.rd1 (C := txc P) (j := i * 25 + 0)); exact rfl; exact RH.old hr; exact txc_fr (by omega))
        | ((with_reducible apply Qr.rd1 (C := txc P) (j := i * 25 + 1)); exact rfl; exact RH.old hr; exact txc_no (by omega))))
      | refine J.one ?_
      | refine J.loudS ?_
      | (refine J.loudQ ?_; intro _ _)
      | (refine J.loudB ?_; intro _)
      | (with_reducible apply J.list)
      | ((with_reducible apply J.gsplit); exact rfl; exact rfl)
      | ((with_reducible first | apply J.cond | apply JC.cond); exact rfl)
      | (intro h; exfalso; (first | (simp at h; done) | (simp at h; omega) | omega))
      | (intro h; (try simp only [decide_eq_true_eq, decide_eq_false_iff_not, beq_iff_eq, beq_eq_false_iff_ne, Bool.not_eq_true', Bool.not_eq_false', bne_iff_ne, bne_eq_false_iff_eq, ne_eq, ge_iff_le, gt_iff_lt] at h))
      | (with_reducible apply J.gave')
      | ((with_reducible apply J.kept'); rotate_left; (repeat (first | (with_reducible exact Outs.nil) | ((with_reducible apply Outs.cons); (repeat (first | with_reducible exact Out.here | with_reducible apply Out.there))))))
    all_goals first
      | (have hstep : n2 = m ∨ cntN P a n2 P.length + (k + 1) ≤ P.length := by
           by_cases h5 : n2 = m
           · exact .inl h5
           · right
             have h6 : n ≠ m := by omega
             obtain ⟨g1, g2, g3⟩ := hi0 h6
             have h7 := hp h6 (by omega)
             have h8 := cntN_lt h7 g2 g3 P.length g1
             rcases hc with h9 | h9
             · exact absurd h9 h6
             · omega
         (apply J.againI (s := (k, n)) (s' := (k + 1, n2)); (focus (((try dsimp only) <;> omega))); (focus ((try dsimp only); (refine ⟨by omega, by omega, by omega, ?_⟩; exact hstep))); (focus (((try dsimp only); repeat (first | exact sub.nil _ | (refine sub.consE rfl ?_ ?_; (first | with_reducible rfl | ((focus (congr 1; omega))) | rfl)))))); ((try dsimp only); (repeat (first | (with_reducible exact Outs.nil) | ((with_reducible apply Outs.cons); (repeat (first | with_reducible exact Out.here | with_reducible apply Out.there))))))))
      | (have h8 : n2 ≠ m := fun e => hx.no (e ▸ ⟨i, by omega, by assumption, by assumption⟩)
         (apply J.againI (s := (i, n2)) (s' := (i + 1, n2 + 1)); (focus (((try dsimp only) <;> omega))); (focus ((try dsimp only); (exact ⟨by omega, by omega, by omega, fun h5 h6 => by omega⟩))); (focus (((try dsimp only); repeat (first | exact sub.nil _ | (refine sub.consE rfl ?_ ?_; (first | with_reducible rfl | ((focus (congr 1; omega))) | rfl)))))); ((try dsimp only); (repeat (first | (with_reducible exact Outs.nil) | ((with_reducible apply Outs.cons); (repeat (first | with_reducible exact Out.here | with_reducible apply Out.there))))))))
      | (have h8 : n ≠ m → i = i0 → n < n2 := fun h5 h6 => by
           obtain ⟨g1, g2, g3⟩ := hi0 h5
           subst h6
           omega
         have h9 : n ≠ m → i0 < i + 1 → n < n2 := fun h5 h6 => by
           rcases Nat.lt_or_ge i0 i with h7 | h7
           · exact hp h5 h7
           · exact h8 h5 (by omega)
         (apply J.againI (s := (i, n2)) (s' := (i + 1, n2)); (focus (((try dsimp only) <;> omega))); (focus ((try dsimp only); (exact ⟨by omega, by omega, by omega, h9⟩))); (focus (((try dsimp only); repeat (first | exact sub.nil _ | (refine sub.consE rfl ?_ ?_; (first | with_reducible rfl | ((focus (congr 1; omega))) | rfl)))))); ((try dsimp only); (repeat (first | (with_reducible exact Outs.nil) | ((with_reducible apply Outs.cons); (repeat (first | with_reducible exact Out.here | with_reducible apply Out.there))))))))
      | (trace_state; fail)
  all_goals first
    | (have h1 : n = m := by
         rcases hc with h9 | h9
         · exact h9
         · omega
       simp only [retv, h1]; done)
    | (trace_state; fail)
end Go.Proofs.YtljbedladifgmaaGreat.Nx
