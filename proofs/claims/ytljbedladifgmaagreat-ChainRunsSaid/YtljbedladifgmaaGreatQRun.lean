/-
  The law ChainRuns. No conditions.
-/
import Derived.Test.YtljbedladifgmaaGreatQCiv
import Derived.Test.YtljbedladifgmaaGreatQCl
import Derived.Test.YtljbedladifgmaaGreatQSty
import Derived.Test.YtljbedladifgmaaGreatQSam3
namespace Go.Proofs.YtljbedladifgmaaGreat.Nx
open Go Go.RowKit Eng
set_option linter.unusedVariables false
set_option maxRecDepth 100000
set_option linter.unusedSimpArgs false
open Wide Purse Tx Sha Ss Esc Vau Lck Do Prep Ful Doo Tri App Inn Low Gene Alv Kee Txl Cht Chn Chm Chw Chi Chx Civ Deal Mss Ots Hash Bytes
set_option maxHeartbeats 1000000
theorem hasT_no {P : List Tx} {t : Tx} (h : ∀ j, j < P.length → teq t (P.getD j tx0) = false) : hasT P t = false := by
  cases hb : hasT P t with
  | false => rfl
  | true =>
    obtain ⟨i, hi, h2⟩ := hasT_iff.1 hb
    rw [h i hi] at h2
    cases h2
theorem has_ (ao : Option Addr) (cap : Nat) (P : List Tx) (t : Tx) (w : World) (hw : Rd w ao (txc P) ∧ TsIn P ∧ TX t ∧ P.length ≤ maxLen) : CSpec Tryz.prog 35 [.slice ao P.length cap, .agg t.cells.toArray] [] w (Gives (.bool (hasT P t))) := by
  obtain ⟨hr, hP, ht, hm⟩ := hw
  have hm9 : P.length ≤ 9223372036854775807 := by unfold maxLen at hm; omega
  have hao : 0 < P.length → ao.isSome = true := txs_some hr
  refine spec_own0 Tryz.func35 rfl Tryz.ntmps35 rfl (l0 := [(0, .slice ao P.length cap), (1, .agg t.cells.toArray)]) rfl ?_
  repeat' first
    | (refine J.qr ?_; (with_reducible apply exq); focus (first
      | ((with_reducible apply Qr.loadFull); exact rfl; (focus ((repeat (first | with_reducible exact In.here | with_reducible apply In.there)); done)); (with_reducible exact tx_len _))))
    | (refine J.qo ?_; refine ⟨?_, ?_⟩; focus (first
      | ((with_reducible apply Qr.loadFull); exact rfl; (focus ((repeat (first | with_reducible exact In.here | with_reducible apply In.there)); done)); (with_reducible exact tx_len _))))
    | refine J.one ?_
    | refine J.loudS ?_
    | (refine J.loudQ ?_; intro _ _)
    | (refine J.loudB ?_; intro _)
    | (with_reducible apply J.list)
    | ((with_reducible apply J.draw (id := 4) [0, 0, 3, 7, 0, 31] (.p 0 (.p 1 (.p 2 (.q 3 (.q 4 (.p 5 .nil)))))) (by kernel_rfl) ?_ (by kernel_rfl) ?_); (repeat (with_reducible first | exact PanicFree.body | exact PanicFree.np | exact PanicFree.lvS | apply PanicFree.then_ | apply PanicFree.blk)))
    | ((with_reducible apply J.pl2); exact rfl; (first | exact Gd.none | ((with_reducible apply Gd.on); exact rfl; exact rfl)); (repeat (first | (with_reducible exact PendF.nil) | ((with_reducible apply PendF.keep); exact rfl) | ((with_reducible apply PendF.gone); exact rfl))))
    | ((with_reducible apply J.pl2_off); exact rfl; ((with_reducible apply Gd.off); exact rfl; exact rfl; exact rfl); exact rfl; (repeat (first | (with_reducible exact PendF.nil) | ((with_reducible apply PendF.keep); exact rfl) | ((with_reducible apply PendF.gone); exact rfl))))
    | ((with_reducible apply J.pl2_off_none); exact rfl; ((with_reducible apply Gd.off); exact rfl; exact rfl; exact rfl); (repeat (first | (with_reducible exact PendF.nil) | ((with_reducible apply PendF.keep); exact rfl) | ((with_reducible apply PendF.gone); exact rfl))))
    | ((with_reducible first | apply J.psplit0 | apply J.psplit1 | apply J.psplit2); exact rfl; exact rfl; exact rfl)
    | (with_reducible exact J.pl_none)
    | ((with_reducible apply J.gsplit); exact rfl; exact rfl)
    | ((with_reducible first | apply J.cond | apply JC.cond); exact rfl)
    | (intro h; exfalso; fail)
    | (intro h; (try simp only [decide_eq_true_eq, decide_eq_false_iff_not, beq_iff_eq, beq_eq_false_iff_ne, Bool.not_eq_true', Bool.not_eq_false', bne_iff_ne, bne_eq_false_iff_eq, ne_eq, ge_iff_le, gt_iff_lt] at h))
    | (with_reducible apply J.gave')
    | ((with_reducible apply J.kept'); rotate_left; (repeat (first | (with_reducible exact Outs.nil) | ((with_reducible apply Outs.cons); (repeat (first | with_reducible exact Out.here | with_reducible apply Out.there))))))
  rename_i b3
  apply J.loopI (σ := Nat) (I := fun q => (q ≤ P.length ∧ ∀ j, j < q → teq t (P.getD j tx0) = false)) (L := fun q => [(0, .slice ao P.length cap), (3, .pointer (some ⟨b3, 0, none⟩)), (5, .int .i64 (q : Int))]) (HH := fun q => [blk b3 t.cells 50]) (m := fun q => P.length - q) (s0 := 0)
  · ((try dsimp only); (exact ⟨Nat.zero_le _, fun j hj => absurd hj (Nat.not_lt_zero _)⟩))
  · ((try dsimp only); repeat (first | exact sub.nil _ | (refine sub.consE rfl ?_ ?_; (first | with_reducible rfl | (fail) | rfl))))
  · ((try dsimp only); (repeat (first | (with_reducible exact Outs.nil) | ((with_reducible apply Outs.cons); (repeat (first | with_reducible exact Out.here | with_reducible apply Out.there))))))
  rintro i ⟨hI, hno⟩
  try dsimp only at *
  repeat' first
    | (refine J.qv ?_; (with_reducible apply exq); focus (first
      | ((with_reducible apply Qv.indexSrcs (k := i)); exact rfl; exact rfl; (focus omega); (focus omega); exact hao (by omega))
      | ((with_reducible apply Qv.eqTx); exact rfl; exact rfl; (with_reducible first | exact ht | exact hP.get _); (with_reducible first | exact hP.get _ | exact ht))))
    | (refine J.qr ?_; (with_reducible apply exq); focus (first
      | ((with_reducible apply Qr.rdN (C := txc P) (j := i * 25) (cs := (P.getD i tx0).cells)); exact rfl; exact RH.old hr; exact txc_at (by omega); exact tx_len _)
      | ((with_reducible apply Qr.loadFull); exact rfl; (focus ((repeat (first | with_reducible exact In.here | with_reducible apply In.there)); done)); (with_reducible exact tx_len _))))
    | (refine J.qo ?_; refine ⟨?_, ?_⟩; focus (first
      | ((with_reducible apply Qr.rdN (C := txc P) (j := i * 25) (cs := (P.getD i tx0).cells)); exact rfl; exact RH.old hr; exact txc_at (by omega); exact tx_len _)
      | ((with_reducible apply Qr.loadFull); exact rfl; (focus ((repeat (first | with_reducible exact In.here | with_reducible apply In.there)); done)); (with_reducible exact tx_len _))))
    | refine J.one ?_
    | refine J.loudS ?_
    | (refine J.loudQ ?_; intro _ _)
    | (refine J.loudB ?_; intro _)
    | (with_reducible apply J.list)
    | ((with_reducible apply J.draw (id := 4) [0, 0, 3, 7, 0, 31] (.p 0 (.p 1 (.p 2 (.q 3 (.q 4 (.p 5 .nil)))))) (by kernel_rfl) ?_ (by kernel_rfl) ?_); (repeat (with_reducible first | exact PanicFree.body | exact PanicFree.np | exact PanicFree.lvS | apply PanicFree.then_ | apply PanicFree.blk)))
    | ((with_reducible apply J.pl2); exact rfl; (first | exact Gd.none | ((with_reducible apply Gd.on); exact rfl; exact rfl)); (repeat (first | (with_reducible exact PendF.nil) | ((with_reducible apply PendF.keep); exact rfl) | ((with_reducible apply PendF.gone); exact rfl))))
    | ((with_reducible apply J.pl2_off); exact rfl; ((with_reducible apply Gd.off); exact rfl; exact rfl; exact rfl); exact rfl; (repeat (first | (with_reducible exact PendF.nil) | ((with_reducible apply PendF.keep); exact rfl) | ((with_reducible apply PendF.gone); exact rfl))))
    | ((with_reducible apply J.pl2_off_none); exact rfl; ((with_reducible apply Gd.off); exact rfl; exact rfl; exact rfl); (repeat (first | (with_reducible exact PendF.nil) | ((with_reducible apply PendF.keep); exact rfl) | ((with_reducible apply PendF.gone); exact rfl))))
    | ((with_reducible first | apply J.psplit0 | apply J.psplit1 | apply J.psplit2); exact rfl; exact rfl; exact rfl)
    | (with_reducible exact J.pl_none)
    | ((with_reducible apply J.gsplit); exact rfl; exact rfl)
    | ((with_reducible first | apply J.cond | apply JC.cond); exact rfl)
    | (intro h; exfalso; (first | (simp at h; done) | (simp at h; omega) | omega))
    | (intro h; (try simp only [decide_eq_true_eq, decide_eq_false_iff_not, beq_iff_eq, beq_eq_false_iff_ne, Bool.not_eq_true', Bool.not_eq_false', bne_iff_ne, bne_eq_false_iff_eq, ne_eq, ge_iff_le, gt_iff_lt] at h))
    | (with_reducible apply J.gave')
    | ((with_reducible apply J.kept'); rotate_left; (repeat (first | (with_reducible exact Outs.nil) | ((with_reducible apply Outs.cons); (repeat (first | with_reducible exact Out.here | with_reducible apply Out.there))))))
  all_goals first
    | (have h9 : hasT P t = true := hasT_iff.2 ⟨i, by omega, (teq_comm _ _).trans (by assumption)⟩
       simp only [retv, h9]; done)
    | (apply J.againI (s := i) (s' := (i + 1)); (focus (omega)); (focus ((try dsimp only); exact ⟨by omega, fun j hj => (Nat.lt_or_ge j i).elim (hno j) fun h9 => (show j = i from Nat.le_antisymm (Nat.le_of_lt_succ hj) h9).symm ▸ ((teq_comm _ _).trans (by assumption))⟩)); (focus (((try dsimp only); repeat (first | exact sub.nil _ | (refine sub.consE rfl ?_ ?_; (first | with_reducible rfl | ((focus (congr 1; omega))) | rfl)))))); ((try dsimp only); (repeat (first | (with_reducible exact Outs.nil) | ((with_reducible apply Outs.cons); (repeat (first | with_reducible exact Out.here | with_reducible apply Out.there)))))))
    | (obtain rfl : i = P.length := by omega
       simp only [retv, hasT_no hno]; done)
    | (trace_state; fail)
/-- How many are not yet past. -/
def cntN (P : List Tx) (a n : Int) : Nat → Nat
  | 0 => 0
  | i + 1 => cntN P a n i + (if (P.getD i tx0).fr = a ∧ n ≤ (P.getD i tx0).no then 1 else 0)
theorem cntN_le (P : List Tx) (a n : Int) : ∀ i, cntN P a n i ≤ i
  | 0 => Nat.le_refl _
  | i + 1 => by
    have := cntN_le P a n i
    simp only [cntN]
    split <;> omega
theorem cntN_mono {P : List Tx} {a n n' : Int} (h : n ≤ n') : ∀ i, cntN P a n' i ≤ cntN P a n i
  | 0 => Nat.le_refl _
  | i + 1 => by
    have := cntN_mono (P := P) (a := a) h i
    simp only [cntN]
    split <;> split <;> omega
theorem cntN_lt {P : List Tx} {a n n' : Int} (h : n < n') {i0 : Nat} (h1 : (P.getD i0 tx0).fr = a) (h2 : (P.getD i0 tx0).no = n) : ∀ i, i0 < i → cntN P a n' i + 1 ≤ cntN P a n i
  | 0, h0 => by omega
  | i + 1, h0 => by
    simp only [cntN]
    rcases Nat.lt_or_ge i0 i with h3 | h3
    · have := cntN_lt h h1 h2 i h3
      split <;> split <;> omega
    · obtain rfl : i0 = i := by omega
      have := cntN_mono (P := P) (a := a) (Int.le_of_lt h) i0
      rw [if_neg (by omega), if_pos ⟨h1, by omega⟩]
      omega
theorem txc_get {T : List Tx} {i j : Nat} (h : i < T.length) (hj : j < 25) : (txc T)[i * 25 + j]? = (T.getD i tx0).cells[j]? := by
  rw [← txc_at h, List.getElem?_take, if_pos hj, List.getElem?_drop]
theorem txc_fr {T : List Tx} {i : Nat} (h : i < T.length) : (txc T)[i * 25 + 0]? = some (.int .i64 (T.getD i tx0).fr) := (txc_get h (by decide)).trans rfl
theorem txc_no {T : List Tx} {i : Nat} (h : i < T.length) : (txc T)[i * 25 + 1]? = some (.int .i64 (T.getD i tx0).no) := (txc_get h (by decide)).trans rfl
theorem nx13 (s : SS) (ar : Option Addr) (nl cl : Nat) (ao : Option Addr) (cap : Nat) (P : List Tx) (a m : Int) (w : World) (hw : Rd w ao (txc P) ∧ TsIn P ∧ Fine P ∧ P.length ≤ 1000 ∧ (∀ j, I64 (s.no j)) ∧ (if 0 ≤ a ∧ a < 8 then IsNext P a (s.no a.toNat) m else m = 0)) : CSpec Tryz.prog 38 [.agg (s.cells (.slice ar nl cl)).toArray, .slice ao P.length cap, .int .i64 a] [] w (Gives (.int .i64 m)) := by
  obtain ⟨hr, hP, hf, hm, hno, hv⟩ := hw
  have hm9 : P.length ≤ 9223372036854775806 := by omega
  have hao : 0 < P.length → ao.isSome = true := txs_some hr
  have hN : ∀ n, hasN P a n → 0 ≤ n ∧ n ≤ 1099511627776 := fun n h => hf.no h
  refine spec_own0 Tryz.func38 rfl Tryz.ntmps38 rfl (l0 := [(0, .agg (s.cells (.slice ar nl cl)).toArray), (1, .slice ao P.length cap), (2, .int .i64 a)]) rfl ?_
  repeat' first
    | (refine J.qv ?_; (with_reducible apply exq); focus (first
      | ((with_reducible apply Qv.idxNo); exact rfl; exact rfl; (constructor <;> omega))))
    | (refine J.qr ?_; (with_reducible apply exq); focus (first
      | ((with_reducible apply Qr.ldNo); exact rfl; (focus ((repeat (first | with_reducible exact In.here | with_reducible apply In.there)); done)); omega)))
    | refine J.one ?_
    | refine J.loudS ?_
    | (refine J.loudQ ?_; intro _ _)
    | (refine J.loudB ?_; intro _)
    | (with_reducible apply J.list)
    | ((with_reducible apply J.gsplit); exact rfl; exact rfl)
    | ((with_reducible first | apply J.cond | apply JC.cond); exact rfl)
    | (intro h; exfalso; (first | (simp at h; done) | (simp at h; omega) | omega))
    | (intro h; (try simp only [decide_eq_true_eq, decide_eq_false_iff_not, beq_iff_eq, beq_eq_false_iff_ne, Bool.not_eq_true', Bool.not_eq_false', bne_iff_ne, bne_eq_false_iff_eq, ne_eq, ge_iff_le, gt_iff_lt] at h))
    | (with_reducible apply J.gave')
    | ((with_reducible apply J.kept'); rotate_left; (repeat (first | (with_reducible exact Outs.nil) | ((with_reducible apply Outs.cons); (repeat (first | with_reducible exact Out.here | with_reducible apply Out.there))))))
  all_goals try (have h1 : m = 0 := by rwa [if_neg (by omega)] at hv
                 simp only [retv, h1]; done)
  have hx : IsNext P a (s.no a.toNat) m := by rwa [if_pos ⟨by omega, by omega⟩] at hv
  apply J.loopI (σ := Nat × Int) (I := fun x => x.1 ≤ P.length + 1 ∧ s.no a.toNat ≤ x.2 ∧ x.2 ≤ m ∧ (x.2 = m ∨ cntN P a x.2 P.length + x.1 ≤ P.length)) (L := fun x => [(1, .slice ao P.length cap), (2, .int .i64 a), (7, .int .i64 x.2), (8, .int .i64 (x.1 : Int))]) (HH := fun x => []) (m := fun x => P.length + 1 - x.1) (s0 := (0, s.no a.toNat))
  · ((try dsimp only); (exact ⟨Nat.zero_le _, Int.le_refl _, hx.le, .inr (by have := cntN_le P a (s.no a.toNat) P.length; omega)⟩))
  · ((try dsimp only); repeat (first | exact sub.nil _ | (refine sub.consE rfl ?_ ?_; (first | with_reducible rfl | (fail) | rfl))))
  · ((try dsimp only); (repeat (first | (with_reducible exact Outs.nil) | ((with_reducible apply Outs.cons); (repeat (first | with_reducible exact Out.here | with_reducible apply Out.there))))))
  rintro ⟨k, n⟩ ⟨hk, hn0, hnm, hc⟩
  try dsimp only at *
  obtain ⟨i0, hi0⟩ : ∃ i0, n ≠ m → i0 < P.length ∧ (P.getD i0 tx0).fr = a ∧ (P.getD i0 tx0).no = n := by
    by_cases h9 : n = m
    · exact ⟨0, fun h => absurd h9 h⟩
    · obtain ⟨i0, g1, g2, g3⟩ := hx.all n hn0 (by omega)
      exact ⟨i0, fun _ => ⟨g1, g2, g3⟩⟩
  repeat' first
    | (refine J.qv ?_; (with_reducible apply exq); focus (first
      | ((with_reducible apply Qv.fieldAdd); exact rfl)
      | ((with_reducible apply Qv.indexSrcs (k := i)); exact rfl; exact rfl; (focus omega); (focus omega); exact hao (by omega))
      | ((with_reducible apply Qv.add); exact rfl; exact rfl; exact wr64 (by first | omega | (have := hN n2 ⟨i, by omega, by assumption, by assumption⟩; omega)) (by first | omega | (have := hN n2 ⟨i, by omega, by assumption, by assumption⟩; omega)) rfl)))
    | (refine J.qr ?_; (with_reducible apply exq); focus (first
      | ((with_reducible apply Qr.rd1 (C := txc P) (j := i * 25 + 0)); exact rfl; exact RH.old hr; exact txc_fr (by omega))
      | ((with_reducible apply Qr.rd1 (C := txc P) (j := i * 25 + 1)); exact rfl; exact RH.old hr; exact txc_no (by omega))))
    | refine J.one ?_
    | refine J.loudS ?_
    | (refine J.loudQ ?_; intro _ _)
    | (refine J.loudB ?_; intro _)
    | (with_reducible apply J.list)
    | ((with_reducible apply J.gsplit); exact rfl; exact rfl)
    | ((with_reducible first | apply J.cond | apply JC.cond); exact rfl)
    | (intro h; exfalso; (first | (simp at h; done) | (simp at h; omega) | omega))
    | (intro h; (try simp only [decide_eq_true_eq, decide_eq_false_iff_not, beq_iff_eq, beq_eq_false_iff_ne, Bool.not_eq_true', Bool.not_eq_false', bne_iff_ne, bne_eq_false_iff_eq, ne_eq, ge_iff_le, gt_iff_lt] at h))
    | (with_reducible apply J.gave')
    | ((with_reducible apply J.kept'); rotate_left; (repeat (first | (with_reducible exact Outs.nil) | ((with_reducible apply Outs.cons); (repeat (first | with_reducible exact Out.here | with_reducible apply Out.there))))))
  · apply J.loopI (σ := Nat × Int) (I := fun x => x.1 ≤ P.length ∧ n ≤ x.2 ∧ x.2 ≤ m ∧ (n ≠ m → i0 < x.1 → n < x.2)) (L := fun x => [(1, .slice ao P.length cap), (2, .int .i64 a), (7, .int .i64 x.2), (8, .int .i64 (k : Int)), (9, .int .i64 (x.1 : Int))]) (HH := fun x => []) (m := fun x => P.length - x.1) (s0 := (0, n))
    · ((try dsimp only); (exact ⟨Nat.zero_le _, Int.le_refl _, hnm, fun _ h => by omega⟩))
    · ((try dsimp only); repeat (first | exact sub.nil _ | (refine sub.consE rfl ?_ ?_; (first | with_reducible rfl | (fail) | rfl))))
    · ((try dsimp only); (repeat (first | (with_reducible exact Outs.nil) | ((with_reducible apply Outs.cons); (repeat (first | with_reducible exact Out.here | with_reducible apply Out.there))))))
    rintro ⟨i, n2⟩ ⟨hi, hn2, hnm2, hp⟩
    try dsimp only at *
    repeat' first
      | (refine J.qv ?_; (with_reducible apply exq); focus (first
        | ((with_reducible apply Qv.fieldAdd); exact rfl)
        | ((with_reducible apply Qv.indexSrcs (k := i)); exact rfl; exact rfl; (focus omega); (focus omega); exact hao (by omega))
        | ((with_reducible apply Qv.add); exact rfl; exact rfl; exact wr64 (by first | omega | (have := hN n2 ⟨i, by omega, by assumption, by assumption⟩; omega)) (by first | omega | (have := hN n2 ⟨i, by omega, by assumption, by assumption⟩; omega)) rfl)))
      | (refine J.qr ?_; (with_reducible apply exq); focus (first
        | ((with_reducible apply Qr.rd1 (C := txc P) (j := i * 25 + 0)); exact rfl; exact RH.old hr; exact txc_fr (by omega))
        | ((with_reducible apply Qr.rd1 (C := txc P) (j := i * 25 + 1)); exact rfl; exact RH.old hr; exact txc_no (by omega))))
      | refine J.one ?_
      | refine J.loudS ?_
      | (refine J.loudQ ?_; intro _ _)
      | (refine J.loudB ?_; intro _)
      | (with_reducible apply J.list)
      | ((with_reducible apply J.gsplit); exact rfl; exact rfl)
      | ((with_reducible first | apply J.cond | apply JC.cond); exact rfl)
      | (intro h; exfalso; (first | (simp at h; done) | (simp at h; omega) | omega))
      | (intro h; (try simp only [decide_eq_true_eq, decide_eq_false_iff_not, beq_iff_eq, beq_eq_false_iff_ne, Bool.not_eq_true', Bool.not_eq_false', bne_iff_ne, bne_eq_false_iff_eq, ne_eq, ge_iff_le, gt_iff_lt] at h))
      | (with_reducible apply J.gave')
      | ((with_reducible apply J.kept'); rotate_left; (repeat (first | (with_reducible exact Outs.nil) | ((with_reducible apply Outs.cons); (repeat (first | with_reducible exact Out.here | with_reducible apply Out.there))))))
    all_goals first
      | (have hstep : n2 = m ∨ cntN P a n2 P.length + (k + 1) ≤ P.length := by
           by_cases h5 : n2 = m
           · exact .inl h5
           · right
             have h6 : n ≠ m := by omega
             obtain ⟨g1, g2, g3⟩ := hi0 h6
             have h7 := hp h6 (by omega)
             have h8 := cntN_lt h7 g2 g3 P.length g1
             rcases hc with h9 | h9
             · exact absurd h9 h6
             · omega
         (apply J.againI (s := (k, n)) (s' := (k + 1, n2)); (focus (((try dsimp only) <;> omega))); (focus ((try dsimp only); (refine ⟨by omega, by omega, by omega, ?_⟩; exact hstep))); (focus (((try dsimp only); repeat (first | exact sub.nil _ | (refine sub.consE rfl ?_ ?_; (first | with_reducible rfl | ((focus (congr 1; omega))) | rfl)))))); ((try dsimp only); (repeat (first | (with_reducible exact Outs.nil) | ((with_reducible apply Outs.cons); (repeat (first | with_reducible exact Out.here | with_reducible apply Out.there))))))))
      | (have h8 : n2 ≠ m := fun e => hx.no (e ▸ ⟨i, by omega, by assumption, by assumption⟩)
         (apply J.againI (s := (i, n2)) (s' := (i + 1, n2 + 1)); (focus (((try dsimp only) <;> omega))); (focus ((try dsimp only); (exact ⟨by omega, by omega, by omega, fun h5 h6 => by omega⟩))); (focus (((try dsimp only); repeat (first | exact sub.nil _ | (refine sub.consE rfl ?_ ?_; (first | with_reducible rfl | ((focus (congr 1; omega))) | rfl)))))); ((try dsimp only); (repeat (first | (with_reducible exact Outs.nil) | ((with_reducible apply Outs.cons); (repeat (first | with_reducible exact Out.here | with_reducible apply Out.there))))))))
      | (have h8 : n ≠ m → i = i0 → n < n2 := fun h5 h6 => by
           obtain ⟨g1, g2, g3⟩ := hi0 h5
           subst h6
           omega
         have h9 : n ≠ m → i0 < i + 1 → n < n2 := fun h5 h6 => by
           rcases Nat.lt_or_ge i0 i with h7 | h7
           · exact hp h5 h7
           · exact h8 h5 (by omega)
         (apply J.againI (s := (i, n2)) (s' := (i + 1, n2)); (focus (((try dsimp only) <;> omega))); (focus ((try dsimp only); (exact ⟨by omega, by omega, by omega, h9⟩))); (focus (((try dsimp only); repeat (first | exact sub.nil _ | (refine sub.consE rfl ?_ ?_; (first | with_reducible rfl | ((focus (congr 1; omega))) | rfl)))))); ((try dsimp only); (repeat (first | (with_reducible exact Outs.nil) | ((with_reducible apply Outs.cons); (repeat (first | with_reducible exact Out.here | with_reducible apply Out.there))))))))
      | (trace_state; fail)
  all_goals first
    | (have h1 : n = m := by
         rcases hc with h9 | h9
         · exact h9
         · omega
       simp only [retv, h1]; done)
    | (trace_state; fail)
end Go.Proofs.YtljbedladifgmaaGreat.Nx
namespace Go.Proofs.YtljbedladifgmaaGreat.Eng
open Go Go.RowKit
set_option linter.unusedVariables false
set_option linter.unusedSimpArgs false
set_option linter.unusedSectionVars false
section
variable {P : Program} {c : Cx} {l : TL} {H : List Asrt} {Q : Exit → Act → World → Prop} {X : Act → World → Prop} {G : Act → World → Prop}
variable {ty : TypeId} {pos : String} {af : Array Edge} {d : Nat} {v : Value} {dst : Option Tmp} {mm : Nat}
theorem splice_take {cur vs : List Value} {j k : Nat} (h : j + vs.length ≤ k) (hk : k ≤ cur.length) : (splice cur j vs).take k = splice (cur.take k) j vs := by
  unfold splice
  have h1 : (cur.take j ++ vs).length = j + vs.length := by rw [List.length_append, List.length_take]; omega
  rw [List.take_append, List.take_of_length_le (by omega), h1, List.take_take, Nat.min_eq_left (by omega), List.drop_take]
theorem splice_length {cur vs : List Value} {j : Nat} (h : j + vs.length ≤ cur.length) : (splice cur j vs).length = cur.length := by
  unfold splice
  rw [List.length_append, List.length_append, List.length_take, List.length_drop]
  omega
/-- Many cells of a row are set. -/
theorem J.cellsR {T m : Nat} {z : List Value} [i : Ty P T true m z] {x y : Operand} {ao : Option Addr} {n cap E sz j : Nat} {C C' vs : List Value} {H' : List Asrt} (hx : ev l x = some (.pointer (some ((ao.getD ⟨0, 0, none⟩).add j)))) (hy : ev l y = some (.agg vs.toArray)) (hv : vs.length = m) (h0 : 0 < m) (h1 : vs.all (·.oneCell') = true)
    (hu : Upd (row (.slice ao n cap) E sz n C) (row (.slice ao n cap) E sz n C') H H') (hj : j + m ≤ C.length) (hC : splice C j vs = C')
    (K : J c l H' X) : J c l H (OW P Q ⟨none, .store T x y, ty, pos, af, none⟩ X) := by
  subst hC
  subst hv
  obtain ⟨R, p1, p2⟩ := hu.perm
  refine J.perm p1 ?_
  have K' := J.perm p2 K
  refine J.mk fun a w s => ?_
  obtain ⟨fp, ⟨f, g0, rfl, hr, hg⟩, hn, hi, hf⟩ := s.2.2
  rcases hr with ⟨e1, e2, h3, e4⟩ | ⟨g, cp, h1', rfl, hl, hc, hm, cur, hcur, hs, ht⟩
  · rw [h3] at hj
    have h9 : j + vs.length ≤ 0 := hj
    omega
  · cases h1'
    have hadd : ((some (⟨g, 0, none⟩ : Addr)).getD ⟨0, 0, none⟩).add j = ⟨g, j, none⟩ := by
      show (⟨g, 0, none⟩ : Addr).add j = _
      rw [addr_add, Nat.zero_add]
    rw [hadd] at hx
    have hcl : n * sz ≤ cur.toList.length := by
      have h2 := congrArg List.length ht
      rw [List.length_take, hl] at h2
      omega
    have s2 : St c l (blk g cur.toList E :: R) a w := ⟨s.1, s.2.1, [g] ++ g0, ⟨[g], g0, rfl, ⟨rfl, by simpa using hcur⟩, hg⟩, hn, hi, hf⟩
    refine (J.storeN (T := T) hx hy .here rfl rfl (by omega) h1 ?_).out a w s2
    refine J.mk fun a w s => K'.out a w ⟨s.1, s.2.1, s.2.2.conv fun h fp hh => ?_⟩
    obtain ⟨hfp, hb⟩ := hh
    refine .inr ⟨g, cap, rfl, hfp, ?_, hc, hm, _, hb, ?_, ?_⟩
    · rw [splice_length hj, hl]
    · simpa using (splice_length (cur := cur.toList) (vs := vs) (j := j) (by omega)).trans (by simpa using hs)
    · rw [← ht, splice_take (by omega) hcl]
/-- What follows, once, behind any code that begins with this region. -/
theorem J.cutS {id : Nat} {ops : Array Oper} {md : Bool} {z y : Code} {α : Type} (p : α → Prop) (L : α → TL) (HH : α → List Asrt) (K1 : J c l H ((Code.seq (Code.region id ops md) z).wp P (Exit.then (Mid c p L HH) Q))) (K2 : ∀ x, p x → J c (L x) (HH x) (y.wp P Q)) : J c l H ((Code.seq (Code.seq (Code.region id ops md) z) y).wp P Q) :=
  J.seq (J.mk fun a w s => Code.wp_mono (fun e a' w' q => by
    cases e with
    | normal => obtain ⟨x, hp, hx⟩ := q; exact (K2 x hp).out a' w' hx
    | exit id => exact q
    | goto l => exact q
    | ret => exact q
    | panic ch => exact q
    | outgrown => exact q) (K1.out a w s))
theorem J.capR {ao : Option Addr} {n m cap E sz : Nat} {C : List Value} (hm : In (row (.slice ao n cap) E sz m C) H) (K : n ≤ cap → J c l H G) : J c l H G := J.mk fun a w s => (K (s.2.2.rd_row hm).2.1).out a w s
theorem Rd.offG {w : World} {ao : Option Addr} {C D : List Value} (h : Rd w ao C) {i k m : Nat} (hm : m = 0 → k = 0) (e : (C.drop i).take k = D) : Rd w (offA ao i m) D := by
  subst e
  unfold offA
  split
  · rename_i h0
    rw [hm h0, List.take_zero]
    exact Rd.nil _ _
  · cases ao with
    | none =>
      rw [h.1 rfl]
      simp only [List.drop_nil, List.take_nil]
      exact Rd.nil _ _
    | some a => exact Rd.some_ ((h.2 a rfl).sub i k)
theorem RH.offG {w0 : World} {own : List Nat} {ao : Option Addr} {C D : List Value} (h : RH w0 own H (fun w => Rd w ao C)) {i k m : Nat} (hm : m = 0 → k = 0) (e : (C.drop i).take k = D) : RH w0 own H (fun w => Rd w (offA ao i m) D) := fun w s => (h w s).offG hm e
end
end Go.Proofs.YtljbedladifgmaaGreat.Eng
namespace Go.Proofs.YtljbedladifgmaaGreat.Run
open Go Go.RowKit Eng
set_option linter.unusedVariables false
set_option maxRecDepth 100000
set_option linter.unusedSimpArgs false
open Wide Purse Tx Sha Ss Esc Vau Lck Do Prep Ful Doo Tri App Inn Low Gene Alv Kee Txl Cht Chn Chm Chw Chi Chx Civ Ali Sty Nx Deal Mss Ots Hash Bytes
set_option maxHeartbeats 4000000
theorem subOk_h {k : CS} {t : Tx} (h1 : chk t = 0) (h2 : k.P.length < 128) : subOk k t = !hasT k.P t := by
  unfold subOk
  rw [h1]
  simp [h2]
theorem incOk_A {k : CS} {i : Int} (h : 0 < k.P.length) : incOk k i = (incA k i).ok := incOk_ap h rfl
def kdF (x : Int) : Int := (x.tmod 4 + 4).tmod 4
theorem kd_eq (x : Int) : (x.tmod 4 + 4).tmod 4 = kdF x := rfl
theorem tm4_b (x : Int) : -4 < x.tmod 4 ∧ x.tmod 4 < 4 := by
  have h1 := Int.tmod_lt_of_pos x (b := 4) (by decide)
  have h2 := Int.lt_tmod_of_pos x (b := 4) (by decide)
  omega
theorem txc_take0 {P : List Tx} {k : Nat} (h : k ≤ P.length) : ((txc P).drop (0 * 25)).take (k * 25) = txc (P.take k) := by
  rw [Nat.zero_mul, List.drop_zero, txc_take h]
theorem txc_from {P : List Tx} {k : Nat} (h : k ≤ P.length) : ((txc P).drop (k * 25)).take ((P.length - k) * 25) = txc (P.drop k) := by
  rw [txc_drop h, List.take_of_length_le (by rw [txc_length, List.length_drop]; exact Nat.le_refl _)]
theorem tx_one (t : Tx) : t.cells.length = 1 * 25 := rfl
theorem ev_one (e : Ev) : e.cells.length = 1 * 27 := rfl
theorem ev_g0 (e : Ev) : e.cells[0]? = some (.int .i64 e.tm) := rfl
theorem ev_g1 (e : Ev) : e.cells[1]? = some (.int .i64 e.co) := rfl
theorem ev_g2 (e : Ev) : (e.cells.drop 2).take 25 = e.tx.cells := rfl
/-- The ledger behind what is included. -/
noncomputable def kI (k : CS) (i : Int) : CS := ⟨(incA k i).s, (incA k i).L, gone k.P (atI i k.P.length), k.E ++ [⟨(incA k i).s.time, (incA k i).e, incT k i⟩]⟩
theorem ev_reads_len (e : Ev) : e.cells.length = 27 := rfl
theorem runs (side time : Int) (ao : Option Addr) (cap : Nat) (T : List Ev) (acc : Int) (w : World) (hw : Rd w ao (evc T) ∧ EsIn T ∧ T.length ≤ maxLen) : CSpec Tryz.prog 7 [.int .i64 side, .int .i64 time, .slice ao T.length cap, .int .i64 acc] [] w (Gives (.bool true)) := by
  obtain ⟨hr, hT, hm⟩ := hw
  have hm9 : T.length ≤ 9223372036854775807 := by unfold maxLen at hm; omega
  have hao : 0 < T.length → ao.isSome = true := evs_some hr
  refine spec_own0 Tryz.func7 rfl Tryz.ntmps7 rfl (l0 := [(0, .int .i64 side), (1, .int .i64 time), (2, .slice ao T.length cap), (3, .int .i64 acc)]) rfl ?_
  repeat' first
    | ((with_reducible apply J.storeFull); exact rfl; exact rfl; (repeat (first | with_reducible exact Upd.here | with_reducible apply Upd.there)); (with_reducible exact SS.len _ _); (focus (first | (with_reducible exact SS.len _ _) | kernel_rfl)); with_reducible exact SS.ones _ _ _ _)
    | ((with_reducible apply J.givesW (alive13)); exact rfl; exact rfl)
    | ((with_reducible apply J.newE (new_ _ _)); exact rfl; exact rfl; intro b9)
    | ((with_reducible apply J.givesW (gen_ _ _)); exact rfl; exact rfl)
    | refine J.one ?_
    | refine J.loudS ?_
    | (refine J.loudQ ?_; intro _ _)
    | (refine J.loudB ?_; intro _)
    | (with_reducible apply J.list)
    | ((with_reducible apply J.draw (id := 32) [0, 0, 0, 6, 14, 31, 63, 127, 127, 127, 0, 1279, 3583, 8191] (.q 0 (.p 1 (.p 2 (.p 3 (.q 4 (.x 5 (.p 6 (.p 7 (.p 8 (.p 9 (.x 10 (.x 11 (.p 12 (.p 13 .nil)) .none) .none))))) (.x 10 (.x 5 (.p 6 (.p 7 (.p 8 (.p 9 (.x 11 (.p 12 (.p 13 .nil)) .none))))) .none) .none))))))) (by kernel_rfl) ?_ (by kernel_rfl) ?_); (repeat (with_reducible first | exact PanicFree.body | exact PanicFree.np | exact PanicFree.lvS | apply PanicFree.then_ | apply PanicFree.blk)))
    | ((with_reducible apply J.draw (id := 36) [0, 0, 2, 0, 0, 0, 48, 112, 254, 510, 1023, 2047] (.p 0 (.p 1 (.q 2 (.p 3 (.p 4 (.p 5 (.p 6 (.q 7 (.p 8 (.x 9 (.x 10 (.p 11 .nil) .none) .none)))))))))) (by kernel_rfl) ?_ (by kernel_rfl) ?_); (repeat (with_reducible first | exact PanicFree.body | exact PanicFree.np | exact PanicFree.lvS | apply PanicFree.then_ | apply PanicFree.blk)))
    | ((with_reducible apply J.draw (id := 37) [0, 0, 0, 6, 15, 0, 0, 64, 224, 511, 1023] (.p 1 (.p 2 (.p 3 (.p 5 (.p 6 (.p 7 (.p 8 (.x 0 (.x 4 (.x 9 (.p 10 .nil) .none) .none) .none)))))))) (by kernel_rfl) ?_ (by kernel_rfl) ?_); (repeat (with_reducible first | exact PanicFree.body | exact PanicFree.np | exact PanicFree.lvS | apply PanicFree.then_ | apply PanicFree.blk)))
    | ((with_reducible apply J.draw (id := 44) [0, 1, 0, 7, 15, 31, 63, 127, 63, 319, 1023, 2047, 4095, 8191, 16383, 8191, 40959, 131071, 262143, 524287, 1048575, 2097151, 1048575, 5242879, 16777215, 33554431, 67108863, 134217727, 134217727, 536870911, 134217727, 134217727, 134217727, 8589934591, 17179869183, 34359738367] (.p 0 (.q 2 (.x 1 (.x 3 (.p 4 (.p 5 (.p 6 (.p 8 (.q 9 (.x 7 (.p 10 (.p 11 (.p 12 (.p 13 (.p 14 (.p 15 (.p 16 (.p 17 (.p 18 (.p 19 (.p 20 (.p 21 (.p 22 (.p 23 (.p 24 (.p 25 (.p 26 (.p 27 (.p 28 (.q 30 (.p 31 (.p 32 (.x 29 (.x 33 (.p 34 (.p 35 .nil)) .none) .none))))))))))))))))))))))) .none)))))) .none) .none))) (by kernel_rfl) ?_ (by kernel_rfl) ?_); (repeat (with_reducible first | exact PanicFree.body | exact PanicFree.np | exact PanicFree.lvS | apply PanicFree.then_ | apply PanicFree.blk)))
    | ((with_reducible apply J.draw (id := 49) [0, 0, 3, 7, 0, 0, 48, 112, 255] (.p 0 (.p 1 (.p 2 (.q 3 (.p 4 (.p 5 (.p 6 (.q 7 (.p 8 .nil))))))))) (by kernel_rfl) ?_ (by kernel_rfl) ?_); (repeat (with_reducible first | exact PanicFree.body | exact PanicFree.np | exact PanicFree.lvS | apply PanicFree.then_ | apply PanicFree.blk)))
    | ((with_reducible apply J.draw (id := 54) [0, 0, 3, 7, 0, 0, 48, 112, 255] (.p 0 (.p 1 (.p 2 (.q 3 (.p 4 (.p 5 (.p 6 (.q 7 (.p 8 .nil))))))))) (by kernel_rfl) ?_ (by kernel_rfl) ?_); (repeat (with_reducible first | exact PanicFree.body | exact PanicFree.np | exact PanicFree.lvS | apply PanicFree.then_ | apply PanicFree.blk)))
    | ((with_reducible apply J.pl2); exact rfl; (first | exact Gd.none | ((with_reducible apply Gd.on); exact rfl; exact rfl)); (repeat (first | (with_reducible exact PendF.nil) | ((with_reducible apply PendF.keep); exact rfl) | ((with_reducible apply PendF.gone); exact rfl))))
    | ((with_reducible apply J.pl2_off); exact rfl; ((with_reducible apply Gd.off); exact rfl; exact rfl; exact rfl); exact rfl; (repeat (first | (with_reducible exact PendF.nil) | ((with_reducible apply PendF.keep); exact rfl) | ((with_reducible apply PendF.gone); exact rfl))))
    | ((with_reducible apply J.pl2_off_none); exact rfl; ((with_reducible apply Gd.off); exact rfl; exact rfl; exact rfl); (repeat (first | (with_reducible exact PendF.nil) | ((with_reducible apply PendF.keep); exact rfl) | ((with_reducible apply PendF.gone); exact rfl))))
    | ((with_reducible first | apply J.psplit0 | apply J.psplit1 | apply J.psplit2); exact rfl; exact rfl; exact rfl)
    | (with_reducible exact J.pl_none)
    | ((with_reducible apply J.gsplit); exact rfl; exact rfl)
    | ((with_reducible first | apply J.cond | apply JC.cond); exact rfl)
    | (intro h; exfalso; (first | (simp at h; done) | omega))
    | (intro h; (try simp only [decide_eq_true_eq, decide_eq_false_iff_not, beq_iff_eq, beq_eq_false_iff_ne, Bool.not_eq_true', Bool.not_eq_false', bne_iff_ne, bne_eq_false_iff_eq, ne_eq, ge_iff_le, gt_iff_lt] at h))
    | (with_reducible apply J.gave')
    | ((with_reducible apply J.kept'); rotate_left; (repeat (first | (with_reducible exact Outs.nil) | ((with_reducible apply Outs.cons); (repeat (first | with_reducible exact Out.here | with_reducible apply Out.there))))))
  all_goals
    rename_i b10
    obtain ⟨k0, e0⟩ : ∃ k0, k0 = CS.new side time := ⟨_, rfl⟩
    have hc0 : CI k0 0 := e0 ▸ CI.new side time
    have hE0 : k0.E = [] := e0 ▸ rfl
    have hP0 : k0.P = [] := e0 ▸ rfl
    have hL0 : k0.L = [] := e0 ▸ rfl
    have hs0 : k0.s = genS side time := e0 ▸ rfl
    apply J.reB (b := b10) (C' := k0.s.cells (.slice none k0.L.length 0))
    · (repeat (first | with_reducible exact Upd.here | with_reducible apply Upd.there))
    · rw [hs0, hL0]; rfl
    refine J.reCh (b := b9) (k' := k0) (by (repeat (first | with_reducible exact Upd.here | with_reducible apply Upd.there))) e0.symm ?_
    refine J.nilRow 58 3 ?_
    apply J.reR (E := 58) (v := .slice none 0 0) (n := 0) (C := []) (v' := .slice none k0.L.length 0) (n' := k0.L.length) (C' := lcs k0.L)
    · (repeat (first | with_reducible exact Upd.here | with_reducible apply Upd.there))
    · rw [hL0]; rfl
    · rw [hL0]; rfl
    · rw [hL0]; rfl
    refine J.nilRow 50 25 ?_
    apply J.reR (E := 50) (v := .slice none 0 0) (n := 0) (C := []) (v' := .slice none k0.P.length 0) (n' := k0.P.length) (C' := txc k0.P)
    · (repeat (first | with_reducible exact Upd.here | with_reducible apply Upd.there))
    · rw [hP0]; rfl
    · rw [hP0]; rfl
    · rw [hP0]; rfl
    refine J.nilRow 72 27 ?_
    apply J.reR (E := 72) (v := .slice none 0 0) (n := 0) (C := []) (v' := .slice none k0.E.length 0) (n' := k0.E.length) (C' := evc k0.E)
    · (repeat (first | with_reducible exact Upd.here | with_reducible apply Upd.there))
    · rw [hE0]; rfl
    · rw [hE0]; rfl
    · rw [hE0]; rfl
    apply J.loopI (σ := Nat × CS × Q2 × Q2 × Q2) (I := fun x => x.1 ≤ T.length ∧ x.1 ≤ 40 ∧ CI x.2.1 x.1) (L := fun x => [(2, .slice ao T.length cap), (3, .int .i64 acc), (9, .pointer (some ⟨b9, 0, none⟩)), (10, .pointer (some ⟨b10, 0, none⟩)), (11, .slice x.2.2.2.1.1 x.2.1.P.length x.2.2.2.1.2), (12, .slice x.2.2.2.2.1 x.2.1.E.length x.2.2.2.2.2), (13, .int .i64 (x.1 : Int))]) (HH := fun x => [chn b9 x.2.1, blk b10 (x.2.1.s.cells (.slice x.2.2.1.1 x.2.1.L.length x.2.2.1.2)) 34, row (.slice x.2.2.1.1 x.2.1.L.length x.2.2.1.2) 58 3 x.2.1.L.length (lcs x.2.1.L), row (.slice x.2.2.2.1.1 x.2.1.P.length x.2.2.2.1.2) 50 25 x.2.1.P.length (txc x.2.1.P), row (.slice x.2.2.2.2.1 x.2.1.E.length x.2.2.2.2.2) 72 27 x.2.1.E.length (evc x.2.1.E)]) (m := fun x => T.length - x.1) (s0 := (0, k0, (none, 0), (none, 0), (none, 0)))
    · ((try dsimp only); (exact ⟨Nat.zero_le _, Nat.zero_le _, hc0⟩))
    · ((try dsimp only); repeat (first | exact sub.nil _ | (refine sub.consE rfl ?_ ?_; (first | with_reducible rfl | ((focus (first | (rw [hP0]; rfl) | (rw [hE0]; rfl) | (rw [hL0]; rfl)))) | rfl))))
    · ((try dsimp only); (repeat (first | (with_reducible exact Outs.nil) | ((with_reducible apply Outs.cons); (repeat (first | with_reducible exact Out.here | with_reducible apply Out.there))))))
    rintro ⟨i, k, qs, qp, qe⟩ ⟨hi, hi4, hc⟩
    try dsimp only at *
    obtain ⟨o, heo⟩ : ∃ o, T.getD i ev0 = o := ⟨_, rfl⟩
    have heI : EvIn o := heo ▸ hT.get i
    have hkP := hc.P
    have hkE := hc.E
    have hkL := hc.L
    (with_reducible apply J.capR (ao := qp.1) (n := k.P.length) (cap := qp.2) (by (repeat (first | with_reducible exact In.here | with_reducible apply In.there))); intro hcp)
    (with_reducible apply J.someR (ao := qp.1) (n := k.P.length) (E := 50) (C := txc k.P) (sz := 25) (by (repeat (first | with_reducible exact In.here | with_reducible apply In.there))) (by decide); intro hpo)
    repeat' first
      | ((with_reducible apply J.cutS (id := 11) (α := CS × Q2 × Q2 × Q2) (p := fun x => CI x.1 (i + 1)) (L := fun x => [(2, .slice ao T.length cap), (3, .int .i64 acc), (9, .pointer (some ⟨b9, 0, none⟩)), (10, .pointer (some ⟨b10, 0, none⟩)), (11, .slice x.2.2.1.1 x.1.P.length x.2.2.1.2), (12, .slice x.2.2.2.1 x.1.E.length x.2.2.2.2), (13, .int .i64 (i : Int))]) (HH := fun x => [chn b9 x.1, blk b10 (x.1.s.cells (.slice x.2.1.1 x.1.L.length x.2.1.2)) 34, row (.slice x.2.1.1 x.1.L.length x.2.1.2) 58 3 x.1.L.length (lcs x.1.L), row (.slice x.2.2.1.1 x.1.P.length x.2.2.1.2) 50 25 x.1.P.length (txc x.1.P), row (.slice x.2.2.2.1 x.1.E.length x.2.2.2.2) 72 27 x.1.E.length (evc x.1.E)])); rotate_left; rintro ⟨k2, qs2, qp2, qe2⟩ hc2; (change CI k2 (i + 1) at hc2); obtain ⟨m, hmx⟩ := nextV_ex hc2.f acc; (try dsimp only))
      | (refine J.qv ?_; (with_reducible apply exq); focus (first
        | ((with_reducible apply Qv.indexSrcs (k := i)); exact rfl; exact rfl; (focus omega); (focus omega); exact hao (by omega))
        | ((with_reducible apply Qv.indexSrcs (k := atI o.co k.P.length)); exact rfl; exact rfl; exact Int.toNat_natCast _; (have h5 := atI_lt o.co k.P.length (by omega); constructor <;> omega); exact hpo (by omega))
        | ((with_reducible apply Qv.sl (p := 0) (r := atI o.co k.P.length)); exact rfl; exact Bd.none; (exact Bd.some rfl rfl); omega; (have := atI_lt o.co k.P.length (by omega); omega))
        | ((with_reducible apply Qv.sl (p := atI o.co k.P.length + 1) (r := k.P.length)); exact rfl; (exact Bd.some rfl rfl); exact Bd.none; (have := atI_lt o.co k.P.length (by omega); omega); omega)
        | ((with_reducible apply Qv.buildS (T := 72)); exact rfl; (refine bf_ev ⟨(incA k o.co).s.time, (incA k o.co).e, incT k o.co⟩ ?_ rfl rfl rfl; kernel_rfl))
        | ((with_reducible apply Qv.rem); exact rfl; exact rfl; decide; exact kd_eq o.tm)
        | ((with_reducible apply Qv.rem); exact rfl; exact rfl; omega; exact atI_eq o.co k.P.length (by omega))
        | ((with_reducible apply Qv.rem); exact rfl; exact rfl; omega; exact rfl)
        | ((with_reducible apply Qv.add); exact rfl; exact rfl; exact wr64 (by have h8 := tm4_b o.tm; omega) (by have h8 := tm4_b o.tm; omega) rfl)
        | ((with_reducible apply Qv.add); exact rfl; exact rfl; exact wr64 (by have := hc.P; have h5 := tmn_b o.co k.P.length (by omega); omega) (by have := hc.P; have h5 := tmn_b o.co k.P.length (by omega); omega) rfl)
        | ((with_reducible apply Qv.add); exact rfl; exact rfl; exact wr64 (by have := hc.P; have h5 := atI_lt o.co k.P.length (by omega); omega) (by have := hc.P; have h5 := atI_lt o.co k.P.length (by omega); omega) (show (atI o.co k.P.length : Int) + 1 = _ from rfl))))
      | (refine J.qr ?_; (with_reducible apply exq); focus (first
        | ((with_reducible apply Qr.rdN (C := evc T) (j := i * 27) (cs := o.cells)); exact rfl; exact RH.old hr; exact heo ▸ evc_at (by omega); exact ev_len _)
        | ((with_reducible apply Qr.rdN (C := txc k.P) (j := atI o.co k.P.length * 25) (cs := (incT k o.co).cells)); exact rfl; exact RH.row (by (repeat (first | with_reducible exact In.here | with_reducible apply In.there))); exact txc_at (atI_lt _ _ (by omega)); exact tx_len _)
        | ((with_reducible apply Qr.load1); exact rfl; (focus ((repeat (first | with_reducible exact In.here | with_reducible apply In.there)); done)); (with_reducible first | exact ev_g0 _ | exact ev_g1 _))
        | ((with_reducible apply Qr.loadN); exact rfl; (focus ((repeat (first | with_reducible exact In.here | with_reducible apply In.there)); done)); (with_reducible exact ev_g2 _); with_reducible exact tx_len _)
        | ((with_reducible apply Qr.loadFull); exact rfl; (focus ((repeat (first | with_reducible exact In.here | with_reducible apply In.there)); done)); (with_reducible first | exact ev_len _ | exact tx_len _ | exact SS.len _ _))
        | ((with_reducible apply Qr.ldTime); exact rfl; (focus ((repeat (first | with_reducible exact In.here | with_reducible apply In.there)); done)))))
      | (refine J.qo ?_; refine ⟨?_, ?_⟩; focus (first
        | ((with_reducible apply Qr.rdN (C := evc T) (j := i * 27) (cs := o.cells)); exact rfl; exact RH.old hr; exact heo ▸ evc_at (by omega); exact ev_len _)
        | ((with_reducible apply Qr.rdN (C := txc k.P) (j := atI o.co k.P.length * 25) (cs := (incT k o.co).cells)); exact rfl; exact RH.row (by (repeat (first | with_reducible exact In.here | with_reducible apply In.there))); exact txc_at (atI_lt _ _ (by omega)); exact tx_len _)
        | ((with_reducible apply Qr.load1); exact rfl; (focus ((repeat (first | with_reducible exact In.here | with_reducible apply In.there)); done)); (with_reducible first | exact ev_g0 _ | exact ev_g1 _))
        | ((with_reducible apply Qr.loadN); exact rfl; (focus ((repeat (first | with_reducible exact In.here | with_reducible apply In.there)); done)); (with_reducible exact ev_g2 _); with_reducible exact tx_len _)
        | ((with_reducible apply Qr.loadFull); exact rfl; (focus ((repeat (first | with_reducible exact In.here | with_reducible apply In.there)); done)); (with_reducible first | exact ev_len _ | exact tx_len _ | exact SS.len _ _))
        | ((with_reducible apply Qr.ldTime); exact rfl; (focus ((repeat (first | with_reducible exact In.here | with_reducible apply In.there)); done)))))
      | ((with_reducible apply J.storeFull); exact rfl; exact rfl; (repeat (first | with_reducible exact Upd.here | with_reducible apply Upd.there)); (with_reducible first | exact ev_len _ | exact tx_len _ | exact SS.len _ _); (focus (first | (with_reducible exact SS.len _ _) | kernel_rfl)); (first | with_reducible exact SS.ones _ _ _ _ | rfl))
      | ((with_reducible apply J.build1); exact rfl; exact rfl; (with_reducible first | exact tx_len _ | exact ev_len _); kernel_rfl; exact rfl; exact rfl; intro _)
      | ((with_reducible apply J.buildRow0); exact rfl; intro _)
      | ((with_reducible apply J.givesP (check _)); exact rfl; exact rfl; (exact heI.tx.i.i))
      | ((with_reducible apply J.givesR (has_ _ _ k.P o.tx)); exact rfl; exact rfl; (focus (exact RH.and (RH.row (by (repeat (first | with_reducible exact In.here | with_reducible apply In.there)))) (RH.of ⟨hc.p, heI.tx, by have := hc.P; unfold maxLen; omega⟩))))
      | ((with_reducible apply J.chE (fun w h => submit_ _ k o.tx w h)); exact rfl; exact rfl; (repeat (first | (with_reducible exact Outs.nil) | ((with_reducible apply Outs.cons); (repeat (first | with_reducible exact Out.here | with_reducible apply Out.there))))); exact RH.of ⟨hc.cb (by omega), heI.tx⟩)
      | ((with_reducible apply J.chE (fun w h => include_ _ k o.co w h)); exact rfl; exact rfl; (repeat (first | (with_reducible exact Outs.nil) | ((with_reducible apply Outs.cons); (repeat (first | with_reducible exact Out.here | with_reducible apply Out.there))))); exact RH.of (hc.cb (by omega)))
      | ((with_reducible apply J.chE (fun w h => crise_ _ k o.co w h)); exact rfl; exact rfl; (repeat (first | (with_reducible exact Outs.nil) | ((with_reducible apply Outs.cons); (repeat (first | with_reducible exact Out.here | with_reducible apply Out.there))))); exact RH.of (hc.cb (by omega)))
      | ((with_reducible apply J.stV (rise_ k.s o.co _ _ k.L)); exact rfl; exact rfl; (exact RH.and (RH.row (by (repeat (first | with_reducible exact In.here | with_reducible apply In.there)))) (RH.of ⟨hc.s, by have := hc.L; unfold maxLen; omega, by have := hc.L; omega⟩)); intro q9 hq9)
      | ((with_reducible apply J.apE (apply_c k.s _ _ k.L (incT k o.co) (incA k o.co) rfl)); exact rfl; exact rfl; (exact RH.and (RH.row (by (repeat (first | with_reducible exact In.here | with_reducible apply In.there)))) (RH.of ⟨hc.s, (hc.tx o.co).i, by have := hc.L; unfold maxLen; omega, by have := hc.L; omega⟩)); intro q9 hq9)
      | ((with_reducible apply J.appendR); exact rfl; exact rfl; (repeat (first | with_reducible exact Out.here | with_reducible apply Out.there)); exact rfl; exact RH.offG (D := txc (k.P.take (atI o.co k.P.length))) (k := atI o.co k.P.length * 25) (RH.row (by (repeat (first | with_reducible exact In.here | with_reducible apply In.there)))) (by have := atI_lt o.co k.P.length (by omega); omega) (by have := atI_lt o.co k.P.length (by omega); exact txc_take0 (by omega)); (rw [txc_length]; have := atI_lt o.co k.P.length (by omega); simp; try omega); exact txc_ones _; exact rfl; exact rfl; (have := hc.P; have := atI_lt o.co k.P.length (by omega); unfold maxLen; omega); (have := hc.P; have := atI_lt o.co k.P.length (by omega); omega); intro q7 hq7)
      | ((with_reducible apply J.appendR); exact rfl; exact rfl; (repeat (first | with_reducible exact Out.here | with_reducible apply Out.there)); exact rfl; exact RH.offG (D := txc (k.P.drop (atI o.co k.P.length + 1))) (k := (k.P.length - (atI o.co k.P.length + 1)) * 25) (RH.row (by (repeat (first | with_reducible exact In.here | with_reducible apply In.there)))) (by have := atI_lt o.co k.P.length (by omega); omega) (by have := atI_lt o.co k.P.length (by omega); exact txc_from (by omega)); (rw [txc_length]; have := atI_lt o.co k.P.length (by omega); simp; try omega); exact txc_ones _; exact rfl; exact rfl; (have := hc.P; have := atI_lt o.co k.P.length (by omega); unfold maxLen; omega); (have := hc.P; have := atI_lt o.co k.P.length (by omega); omega); intro q6 hq6)
      | ((with_reducible apply J.appendR); exact rfl; exact rfl; (repeat (first | with_reducible exact Out.here | with_reducible apply Out.there)); exact rfl; exact RH.blk0 (by (repeat (first | with_reducible exact In.here | with_reducible apply In.there))); (with_reducible first | exact tx_one _ | exact ev_one _); exact rfl; exact rfl; exact rfl; (have := hc.P; have := hc.E; unfold maxLen; omega); (have := hc.P; have := hc.E; omega); intro q8 hq8)
      | ((with_reducible apply J.freshR (pool_ _ k2)); exact rfl; exact rfl; (exact RH.and (RH.chn (by (repeat (first | with_reducible exact In.here | with_reducible apply In.there)))) (RH.of (by have := hc2.P; omega))); intro u9 hu9)
      | ((with_reducible apply J.freshR (pool_ _ k)); exact rfl; exact rfl; (exact RH.and (RH.chn (by (repeat (first | with_reducible exact In.here | with_reducible apply In.there)))) (RH.of (by have := hc.P; omega))); intro u9 hu9)
      | ((with_reducible apply J.freshR (evs0 _ k2)); exact rfl; exact rfl; (exact RH.and (RH.chn (by (repeat (first | with_reducible exact In.here | with_reducible apply In.there)))) (RH.of (by have := hc2.E; omega))); intro u8 hu8)
      | ((with_reducible apply J.freshR (evs0 _ k)); exact rfl; exact rfl; (exact RH.and (RH.chn (by (repeat (first | with_reducible exact In.here | with_reducible apply In.there)))) (RH.of (by have := hc.E; omega))); intro u8 hu8)
      | ((with_reducible apply J.stV (state_ b9 k2)); exact rfl; exact rfl; (exact RH.and (RH.chn (by (repeat (first | with_reducible exact In.here | with_reducible apply In.there)))) (RH.of (hc2.cb (by omega)))); intro u7 hu7)
      | ((with_reducible apply J.givesR (time_ b9 k2)); exact rfl; exact rfl; (focus (exact RH.and (RH.chn (by (repeat (first | with_reducible exact In.here | with_reducible apply In.there)))) (RH.of trivial))))
      | ((with_reducible apply J.givesR (Sam3.same_ k2.s _ _ _ _ k2.L)); exact rfl; exact rfl; (focus (exact RH.and (RH.and (RH.row (by (repeat (first | with_reducible exact In.here | with_reducible apply In.there)))) (RH.row (by (repeat (first | with_reducible exact In.here | with_reducible apply In.there))))) (RH.of ⟨hc2.i, hc2.l, by have := hc2.L; unfold maxLen; omega⟩))))
      | ((with_reducible apply J.givesR (next_ b9 k2 acc m)); exact rfl; exact rfl; (focus (exact RH.and (RH.chn (by (repeat (first | with_reducible exact In.here | with_reducible apply In.there)))) (RH.of ⟨hc2.cb (by omega), hc2.f, hc2.i.no, hmx⟩))))
      | ((with_reducible apply J.givesR (nx13 k2.s _ _ _ _ _ k2.P acc m)); exact rfl; exact rfl; (focus (exact RH.and (RH.row (by (repeat (first | with_reducible exact In.here | with_reducible apply In.there)))) (RH.of ⟨hc2.p, hc2.f, by have := hc2.P; omega, hc2.i.no, hmx⟩))))
      | refine J.one ?_
      | refine J.loudS ?_
      | (refine J.loudQ ?_; intro _ _)
      | (refine J.loudB ?_; intro _)
      | (with_reducible apply J.list)
      | ((with_reducible apply J.draw (id := 32) [0, 0, 0, 6, 14, 31, 63, 127, 127, 127, 0, 1279, 3583, 8191] (.q 0 (.p 1 (.p 2 (.p 3 (.q 4 (.x 5 (.p 6 (.p 7 (.p 8 (.p 9 (.x 10 (.x 11 (.p 12 (.p 13 .nil)) .none) .none))))) (.x 10 (.x 5 (.p 6 (.p 7 (.p 8 (.p 9 (.x 11 (.p 12 (.p 13 .nil)) .none))))) .none) .none))))))) (by kernel_rfl) ?_ (by kernel_rfl) ?_); (repeat (with_reducible first | exact PanicFree.body | exact PanicFree.np | exact PanicFree.lvS | apply PanicFree.then_ | apply PanicFree.blk)))
      | ((with_reducible apply J.draw (id := 36) [0, 0, 2, 0, 0, 0, 48, 112, 254, 510, 1023, 2047] (.p 0 (.p 1 (.q 2 (.p 3 (.p 4 (.p 5 (.p 6 (.q 7 (.p 8 (.x 9 (.x 10 (.p 11 .nil) .none) .none)))))))))) (by kernel_rfl) ?_ (by kernel_rfl) ?_); (repeat (with_reducible first | exact PanicFree.body | exact PanicFree.np | exact PanicFree.lvS | apply PanicFree.then_ | apply PanicFree.blk)))
      | ((with_reducible apply J.draw (id := 37) [0, 0, 0, 6, 15, 0, 0, 64, 224, 511, 1023] (.p 1 (.p 2 (.p 3 (.p 5 (.p 6 (.p 7 (.p 8 (.x 0 (.x 4 (.x 9 (.p 10 .nil) .none) .none) .none)))))))) (by kernel_rfl) ?_ (by kernel_rfl) ?_); (repeat (with_reducible first | exact PanicFree.body | exact PanicFree.np | exact PanicFree.lvS | apply PanicFree.then_ | apply PanicFree.blk)))
      | ((with_reducible apply J.draw (id := 44) [0, 1, 0, 7, 15, 31, 63, 127, 63, 319, 1023, 2047, 4095, 8191, 16383, 8191, 40959, 131071, 262143, 524287, 1048575, 2097151, 1048575, 5242879, 16777215, 33554431, 67108863, 134217727, 134217727, 536870911, 134217727, 134217727, 134217727, 8589934591, 17179869183, 34359738367] (.p 0 (.q 2 (.x 1 (.x 3 (.p 4 (.p 5 (.p 6 (.p 8 (.q 9 (.x 7 (.p 10 (.p 11 (.p 12 (.p 13 (.p 14 (.p 15 (.p 16 (.p 17 (.p 18 (.p 19 (.p 20 (.p 21 (.p 22 (.p 23 (.p 24 (.p 25 (.p 26 (.p 27 (.p 28 (.q 30 (.p 31 (.p 32 (.x 29 (.x 33 (.p 34 (.p 35 .nil)) .none) .none))))))))))))))))))))))) .none)))))) .none) .none))) (by kernel_rfl) ?_ (by kernel_rfl) ?_); (repeat (with_reducible first | exact PanicFree.body | exact PanicFree.np | exact PanicFree.lvS | apply PanicFree.then_ | apply PanicFree.blk)))
      | ((with_reducible apply J.draw (id := 49) [0, 0, 3, 7, 0, 0, 48, 112, 255] (.p 0 (.p 1 (.p 2 (.q 3 (.p 4 (.p 5 (.p 6 (.q 7 (.p 8 .nil))))))))) (by kernel_rfl) ?_ (by kernel_rfl) ?_); (repeat (with_reducible first | exact PanicFree.body | exact PanicFree.np | exact PanicFree.lvS | apply PanicFree.then_ | apply PanicFree.blk)))
      | ((with_reducible apply J.draw (id := 54) [0, 0, 3, 7, 0, 0, 48, 112, 255] (.p 0 (.p 1 (.p 2 (.q 3 (.p 4 (.p 5 (.p 6 (.q 7 (.p 8 .nil))))))))) (by kernel_rfl) ?_ (by kernel_rfl) ?_); (repeat (with_reducible first | exact PanicFree.body | exact PanicFree.np | exact PanicFree.lvS | apply PanicFree.then_ | apply PanicFree.blk)))
      | ((with_reducible apply J.pl2); exact rfl; (first | exact Gd.none | ((with_reducible apply Gd.on); exact rfl; exact rfl)); (repeat (first | (with_reducible exact PendF.nil) | ((with_reducible apply PendF.keep); exact rfl) | ((with_reducible apply PendF.gone); exact rfl))))
      | ((with_reducible apply J.pl2_off); exact rfl; ((with_reducible apply Gd.off); exact rfl; exact rfl; exact rfl); exact rfl; (repeat (first | (with_reducible exact PendF.nil) | ((with_reducible apply PendF.keep); exact rfl) | ((with_reducible apply PendF.gone); exact rfl))))
      | ((with_reducible apply J.pl2_off_none); exact rfl; ((with_reducible apply Gd.off); exact rfl; exact rfl; exact rfl); (repeat (first | (with_reducible exact PendF.nil) | ((with_reducible apply PendF.keep); exact rfl) | ((with_reducible apply PendF.gone); exact rfl))))
      | ((with_reducible first | apply J.psplit0 | apply J.psplit1 | apply J.psplit2); exact rfl; exact rfl; exact rfl)
      | (with_reducible exact J.pl_none)
      | ((with_reducible apply J.gsplit); exact rfl; exact rfl)
      | ((with_reducible first | apply J.cond | apply JC.cond); exact rfl)
      | (intro h; exfalso; (first | (simp at h; done) | (rw [subOk_1 (by assumption)] at h; simp at h; done) | (rw [subOk_2 (by omega)] at h; simp at h; done) | (rw [subOk_h (by assumption) (by omega)] at h; simp at h; done) | (rw [incOk_0 (by omega)] at h; simp at h; done) | (rw [incOk_A (by omega)] at h; simp at h; done) | (simp at h; omega) | omega))
      | (intro h; (try simp only [decide_eq_true_eq, decide_eq_false_iff_not, beq_iff_eq, beq_eq_false_iff_ne, Bool.not_eq_true', Bool.not_eq_false', bne_iff_ne, bne_eq_false_iff_eq, ne_eq, ge_iff_le, gt_iff_lt] at h))
      | (with_reducible apply J.gave')
      | ((with_reducible apply J.kept'); rotate_left; (repeat (first | (with_reducible exact Outs.nil) | ((with_reducible apply Outs.cons); (repeat (first | with_reducible exact Out.here | with_reducible apply Out.there))))))
    · have hk2P := hc2.P
      have hk2E := hc2.E
      (with_reducible apply J.someR (ao := u9.1) (n := k2.P.length) (E := 50) (C := txc k2.P) (sz := 25) (by (repeat (first | with_reducible exact In.here | with_reducible apply In.there))) (by decide); intro s1)
      (with_reducible apply J.someR (ao := u8.1) (n := k2.E.length) (E := 72) (C := evc k2.E) (sz := 27) (by (repeat (first | with_reducible exact In.here | with_reducible apply In.there))) (by decide); intro s2)
      (with_reducible apply J.someR (ao := qp2.1) (n := k2.P.length) (E := 50) (C := txc k2.P) (sz := 25) (by (repeat (first | with_reducible exact In.here | with_reducible apply In.there))) (by decide); intro s3)
      (with_reducible apply J.someR (ao := qe2.1) (n := k2.E.length) (E := 72) (C := evc k2.E) (sz := 27) (by (repeat (first | with_reducible exact In.here | with_reducible apply In.there))) (by decide); intro s4)
      apply J.loopI (σ := Nat) (I := fun n => n ≤ k2.P.length) (L := fun n => [(2, .slice ao T.length cap), (3, .int .i64 acc), (9, .pointer (some ⟨b9, 0, none⟩)), (10, .pointer (some ⟨b10, 0, none⟩)), (11, .slice qp2.1 k2.P.length qp2.2), (12, .slice qe2.1 k2.E.length qe2.2), (13, .int .i64 (i : Int)), (26, .slice u9.1 k2.P.length u9.2), (27, .slice u8.1 k2.E.length u8.2), (28, .int .i64 (n : Int))]) (HH := fun n => [chn b9 k2, blk b10 (k2.s.cells (.slice qs2.1 k2.L.length qs2.2)) 34, row (.slice qs2.1 k2.L.length qs2.2) 58 3 k2.L.length (lcs k2.L), row (.slice qp2.1 k2.P.length qp2.2) 50 25 k2.P.length (txc k2.P), row (.slice qe2.1 k2.E.length qe2.2) 72 27 k2.E.length (evc k2.E), row (.slice u9.1 k2.P.length u9.2) 50 25 k2.P.length (txc k2.P), row (.slice u8.1 k2.E.length u8.2) 72 27 k2.E.length (evc k2.E)]) (m := fun n => k2.P.length - n) (s0 := 0)
      · ((try dsimp only); (exact Nat.zero_le _))
      · ((try dsimp only); repeat (first | exact sub.nil _ | (refine sub.consE rfl ?_ ?_; (first | with_reducible rfl | (fail) | rfl))))
      · ((try dsimp only); (repeat (first | (with_reducible exact Outs.nil) | ((with_reducible apply Outs.cons); (repeat (first | with_reducible exact Out.here | with_reducible apply Out.there))))))
      rintro n hn
      try dsimp only at hn ⊢
      repeat' first
        | (refine J.qv ?_; (with_reducible apply exq); focus (first
          | ((with_reducible apply Qv.indexSrcs (k := n)); exact rfl; exact rfl; (focus omega); (focus omega); (first | exact s1 (by omega) | exact s2 (by omega) | exact s3 (by omega) | exact s4 (by omega)))
          | ((with_reducible apply Qv.neTx); exact rfl; exact rfl; exact hc2.p.get _)
          | ((with_reducible apply Qv.neEv); exact rfl; exact rfl; exact hc2.e.get _)))
        | (refine J.qr ?_; (with_reducible apply exq); focus (first
          | ((with_reducible apply Qr.rdN (C := txc k2.P) (j := n * 25) (cs := (k2.P.getD n tx0).cells)); exact rfl; exact RH.row (by (repeat (first | with_reducible exact In.here | with_reducible apply In.there))); exact txc_at (by omega); exact tx_len _)
          | ((with_reducible apply Qr.rdN (C := evc k2.E) (j := n * 27) (cs := (k2.E.getD n ev0).cells)); exact rfl; exact RH.row (by (repeat (first | with_reducible exact In.here | with_reducible apply In.there))); exact evc_at (by omega); exact ev_len _)))
        | (refine J.qo ?_; refine ⟨?_, ?_⟩; focus (first
          | ((with_reducible apply Qr.rdN (C := txc k2.P) (j := n * 25) (cs := (k2.P.getD n tx0).cells)); exact rfl; exact RH.row (by (repeat (first | with_reducible exact In.here | with_reducible apply In.there))); exact txc_at (by omega); exact tx_len _)
          | ((with_reducible apply Qr.rdN (C := evc k2.E) (j := n * 27) (cs := (k2.E.getD n ev0).cells)); exact rfl; exact RH.row (by (repeat (first | with_reducible exact In.here | with_reducible apply In.there))); exact evc_at (by omega); exact ev_len _)))
        | refine J.one ?_
        | refine J.loudS ?_
        | (refine J.loudQ ?_; intro _ _)
        | (refine J.loudB ?_; intro _)
        | (with_reducible apply J.list)
        | ((with_reducible apply J.draw (id := 32) [0, 0, 0, 6, 14, 31, 63, 127, 127, 127, 0, 1279, 3583, 8191] (.q 0 (.p 1 (.p 2 (.p 3 (.q 4 (.x 5 (.p 6 (.p 7 (.p 8 (.p 9 (.x 10 (.x 11 (.p 12 (.p 13 .nil)) .none) .none))))) (.x 10 (.x 5 (.p 6 (.p 7 (.p 8 (.p 9 (.x 11 (.p 12 (.p 13 .nil)) .none))))) .none) .none))))))) (by kernel_rfl) ?_ (by kernel_rfl) ?_); (repeat (with_reducible first | exact PanicFree.body | exact PanicFree.np | exact PanicFree.lvS | apply PanicFree.then_ | apply PanicFree.blk)))
        | ((with_reducible apply J.draw (id := 36) [0, 0, 2, 0, 0, 0, 48, 112, 254, 510, 1023, 2047] (.p 0 (.p 1 (.q 2 (.p 3 (.p 4 (.p 5 (.p 6 (.q 7 (.p 8 (.x 9 (.x 10 (.p 11 .nil) .none) .none)))))))))) (by kernel_rfl) ?_ (by kernel_rfl) ?_); (repeat (with_reducible first | exact PanicFree.body | exact PanicFree.np | exact PanicFree.lvS | apply PanicFree.then_ | apply PanicFree.blk)))
        | ((with_reducible apply J.draw (id := 37) [0, 0, 0, 6, 15, 0, 0, 64, 224, 511, 1023] (.p 1 (.p 2 (.p 3 (.p 5 (.p 6 (.p 7 (.p 8 (.x 0 (.x 4 (.x 9 (.p 10 .nil) .none) .none) .none)))))))) (by kernel_rfl) ?_ (by kernel_rfl) ?_); (repeat (with_reducible first | exact PanicFree.body | exact PanicFree.np | exact PanicFree.lvS | apply PanicFree.then_ | apply PanicFree.blk)))
        | ((with_reducible apply J.draw (id := 44) [0, 1, 0, 7, 15, 31, 63, 127, 63, 319, 1023, 2047, 4095, 8191, 16383, 8191, 40959, 131071, 262143, 524287, 1048575, 2097151, 1048575, 5242879, 16777215, 33554431, 67108863, 134217727, 134217727, 536870911, 134217727, 134217727, 134217727, 8589934591, 17179869183, 34359738367] (.p 0 (.q 2 (.x 1 (.x 3 (.p 4 (.p 5 (.p 6 (.p 8 (.q 9 (.x 7 (.p 10 (.p 11 (.p 12 (.p 13 (.p 14 (.p 15 (.p 16 (.p 17 (.p 18 (.p 19 (.p 20 (.p 21 (.p 22 (.p 23 (.p 24 (.p 25 (.p 26 (.p 27 (.p 28 (.q 30 (.p 31 (.p 32 (.x 29 (.x 33 (.p 34 (.p 35 .nil)) .none) .none))))))))))))))))))))))) .none)))))) .none) .none))) (by kernel_rfl) ?_ (by kernel_rfl) ?_); (repeat (with_reducible first | exact PanicFree.body | exact PanicFree.np | exact PanicFree.lvS | apply PanicFree.then_ | apply PanicFree.blk)))
        | ((with_reducible apply J.draw (id := 49) [0, 0, 3, 7, 0, 0, 48, 112, 255] (.p 0 (.p 1 (.p 2 (.q 3 (.p 4 (.p 5 (.p 6 (.q 7 (.p 8 .nil))))))))) (by kernel_rfl) ?_ (by kernel_rfl) ?_); (repeat (with_reducible first | exact PanicFree.body | exact PanicFree.np | exact PanicFree.lvS | apply PanicFree.then_ | apply PanicFree.blk)))
        | ((with_reducible apply J.draw (id := 54) [0, 0, 3, 7, 0, 0, 48, 112, 255] (.p 0 (.p 1 (.p 2 (.q 3 (.p 4 (.p 5 (.p 6 (.q 7 (.p 8 .nil))))))))) (by kernel_rfl) ?_ (by kernel_rfl) ?_); (repeat (with_reducible first | exact PanicFree.body | exact PanicFree.np | exact PanicFree.lvS | apply PanicFree.then_ | apply PanicFree.blk)))
        | ((with_reducible apply J.pl2); exact rfl; (first | exact Gd.none | ((with_reducible apply Gd.on); exact rfl; exact rfl)); (repeat (first | (with_reducible exact PendF.nil) | ((with_reducible apply PendF.keep); exact rfl) | ((with_reducible apply PendF.gone); exact rfl))))
        | ((with_reducible apply J.pl2_off); exact rfl; ((with_reducible apply Gd.off); exact rfl; exact rfl; exact rfl); exact rfl; (repeat (first | (with_reducible exact PendF.nil) | ((with_reducible apply PendF.keep); exact rfl) | ((with_reducible apply PendF.gone); exact rfl))))
        | ((with_reducible apply J.pl2_off_none); exact rfl; ((with_reducible apply Gd.off); exact rfl; exact rfl; exact rfl); (repeat (first | (with_reducible exact PendF.nil) | ((with_reducible apply PendF.keep); exact rfl) | ((with_reducible apply PendF.gone); exact rfl))))
        | ((with_reducible first | apply J.psplit0 | apply J.psplit1 | apply J.psplit2); exact rfl; exact rfl; exact rfl)
        | (with_reducible exact J.pl_none)
        | ((with_reducible apply J.gsplit); exact rfl; exact rfl)
        | ((with_reducible first | apply J.cond | apply JC.cond); exact rfl)
        | (intro h; exfalso; (first | (simp at h; done) | (simp at h; omega) | omega))
        | (intro h; (try simp only [decide_eq_true_eq, decide_eq_false_iff_not, beq_iff_eq, beq_eq_false_iff_ne, Bool.not_eq_true', Bool.not_eq_false', bne_iff_ne, bne_eq_false_iff_eq, ne_eq, ge_iff_le, gt_iff_lt] at h))
        | (with_reducible apply J.gave')
        | ((with_reducible apply J.kept'); rotate_left; (repeat (first | (with_reducible exact Outs.nil) | ((with_reducible apply Outs.cons); (repeat (first | with_reducible exact Out.here | with_reducible apply Out.there))))))
      all_goals first
        | (apply J.againI (s := n) (s' := (n + 1)); (focus (omega)); (focus ((try dsimp only); omega)); (focus (((try dsimp only); repeat (first | exact sub.nil _ | (refine sub.consE rfl ?_ ?_; (first | with_reducible rfl | ((focus (congr 1; omega))) | rfl)))))); ((try dsimp only); (repeat (first | (with_reducible exact Outs.nil) | ((with_reducible apply Outs.cons); (repeat (first | with_reducible exact Out.here | with_reducible apply Out.there)))))))
        | (apply J.loopI (σ := Nat) (I := fun n => n ≤ k2.E.length) (L := fun n => [(2, .slice ao T.length cap), (3, .int .i64 acc), (9, .pointer (some ⟨b9, 0, none⟩)), (10, .pointer (some ⟨b10, 0, none⟩)), (11, .slice qp2.1 k2.P.length qp2.2), (12, .slice qe2.1 k2.E.length qe2.2), (13, .int .i64 (i : Int)), (26, .slice u9.1 k2.P.length u9.2), (27, .slice u8.1 k2.E.length u8.2), (29, .int .i64 (n : Int))]) (HH := fun n => [chn b9 k2, blk b10 (k2.s.cells (.slice qs2.1 k2.L.length qs2.2)) 34, row (.slice qs2.1 k2.L.length qs2.2) 58 3 k2.L.length (lcs k2.L), row (.slice qp2.1 k2.P.length qp2.2) 50 25 k2.P.length (txc k2.P), row (.slice qe2.1 k2.E.length qe2.2) 72 27 k2.E.length (evc k2.E), row (.slice u9.1 k2.P.length u9.2) 50 25 k2.P.length (txc k2.P), row (.slice u8.1 k2.E.length u8.2) 72 27 k2.E.length (evc k2.E)]) (m := fun n => k2.E.length - n) (s0 := 0)
           · ((try dsimp only); (exact Nat.zero_le _))
           · ((try dsimp only); repeat (first | exact sub.nil _ | (refine sub.consE rfl ?_ ?_; (first | with_reducible rfl | (fail) | rfl))))
           · ((try dsimp only); (repeat (first | (with_reducible exact Outs.nil) | ((with_reducible apply Outs.cons); (repeat (first | with_reducible exact Out.here | with_reducible apply Out.there))))))
           rintro n hn
           try dsimp only at hn ⊢
           repeat' first
             | (refine J.qv ?_; (with_reducible apply exq); focus (first
               | ((with_reducible apply Qv.indexSrcs (k := n)); exact rfl; exact rfl; (focus omega); (focus omega); (first | exact s1 (by omega) | exact s2 (by omega) | exact s3 (by omega) | exact s4 (by omega)))
               | ((with_reducible apply Qv.neTx); exact rfl; exact rfl; exact hc2.p.get _)
               | ((with_reducible apply Qv.neEv); exact rfl; exact rfl; exact hc2.e.get _)))
             | (refine J.qr ?_; (with_reducible apply exq); focus (first
               | ((with_reducible apply Qr.rdN (C := txc k2.P) (j := n * 25) (cs := (k2.P.getD n tx0).cells)); exact rfl; exact RH.row (by (repeat (first | with_reducible exact In.here | with_reducible apply In.there))); exact txc_at (by omega); exact tx_len _)
               | ((with_reducible apply Qr.rdN (C := evc k2.E) (j := n * 27) (cs := (k2.E.getD n ev0).cells)); exact rfl; exact RH.row (by (repeat (first | with_reducible exact In.here | with_reducible apply In.there))); exact evc_at (by omega); exact ev_len _)))
             | (refine J.qo ?_; refine ⟨?_, ?_⟩; focus (first
               | ((with_reducible apply Qr.rdN (C := txc k2.P) (j := n * 25) (cs := (k2.P.getD n tx0).cells)); exact rfl; exact RH.row (by (repeat (first | with_reducible exact In.here | with_reducible apply In.there))); exact txc_at (by omega); exact tx_len _)
               | ((with_reducible apply Qr.rdN (C := evc k2.E) (j := n * 27) (cs := (k2.E.getD n ev0).cells)); exact rfl; exact RH.row (by (repeat (first | with_reducible exact In.here | with_reducible apply In.there))); exact evc_at (by omega); exact ev_len _)))
             | refine J.one ?_
             | refine J.loudS ?_
             | (refine J.loudQ ?_; intro _ _)
             | (refine J.loudB ?_; intro _)
             | (with_reducible apply J.list)
             | ((with_reducible apply J.draw (id := 32) [0, 0, 0, 6, 14, 31, 63, 127, 127, 127, 0, 1279, 3583, 8191] (.q 0 (.p 1 (.p 2 (.p 3 (.q 4 (.x 5 (.p 6 (.p 7 (.p 8 (.p 9 (.x 10 (.x 11 (.p 12 (.p 13 .nil)) .none) .none))))) (.x 10 (.x 5 (.p 6 (.p 7 (.p 8 (.p 9 (.x 11 (.p 12 (.p 13 .nil)) .none))))) .none) .none))))))) (by kernel_rfl) ?_ (by kernel_rfl) ?_); (repeat (with_reducible first | exact PanicFree.body | exact PanicFree.np | exact PanicFree.lvS | apply PanicFree.then_ | apply PanicFree.blk)))
             | ((with_reducible apply J.draw (id := 36) [0, 0, 2, 0, 0, 0, 48, 112, 254, 510, 1023, 2047] (.p 0 (.p 1 (.q 2 (.p 3 (.p 4 (.p 5 (.p 6 (.q 7 (.p 8 (.x 9 (.x 10 (.p 11 .nil) .none) .none)))))))))) (by kernel_rfl) ?_ (by kernel_rfl) ?_); (repeat (with_reducible first | exact PanicFree.body | exact PanicFree.np | exact PanicFree.lvS | apply PanicFree.then_ | apply PanicFree.blk)))
             | ((with_reducible apply J.draw (id := 37) [0, 0, 0, 6, 15, 0, 0, 64, 224, 511, 1023] (.p 1 (.p 2 (.p 3 (.p 5 (.p 6 (.p 7 (.p 8 (.x 0 (.x 4 (.x 9 (.p 10 .nil) .none) .none) .none)))))))) (by kernel_rfl) ?_ (by kernel_rfl) ?_); (repeat (with_reducible first | exact PanicFree.body | exact PanicFree.np | exact PanicFree.lvS | apply PanicFree.then_ | apply PanicFree.blk)))
             | ((with_reducible apply J.draw (id := 44) [0, 1, 0, 7, 15, 31, 63, 127, 63, 319, 1023, 2047, 4095, 8191, 16383, 8191, 40959, 131071, 262143, 524287, 1048575, 2097151, 1048575, 5242879, 16777215, 33554431, 67108863, 134217727, 134217727, 536870911, 134217727, 134217727, 134217727, 8589934591, 17179869183, 34359738367] (.p 0 (.q 2 (.x 1 (.x 3 (.p 4 (.p 5 (.p 6 (.p 8 (.q 9 (.x 7 (.p 10 (.p 11 (.p 12 (.p 13 (.p 14 (.p 15 (.p 16 (.p 17 (.p 18 (.p 19 (.p 20 (.p 21 (.p 22 (.p 23 (.p 24 (.p 25 (.p 26 (.p 27 (.p 28 (.q 30 (.p 31 (.p 32 (.x 29 (.x 33 (.p 34 (.p 35 .nil)) .none) .none))))))))))))))))))))))) .none)))))) .none) .none))) (by kernel_rfl) ?_ (by kernel_rfl) ?_); (repeat (with_reducible first | exact PanicFree.body | exact PanicFree.np | exact PanicFree.lvS | apply PanicFree.then_ | apply PanicFree.blk)))
             | ((with_reducible apply J.draw (id := 49) [0, 0, 3, 7, 0, 0, 48, 112, 255] (.p 0 (.p 1 (.p 2 (.q 3 (.p 4 (.p 5 (.p 6 (.q 7 (.p 8 .nil))))))))) (by kernel_rfl) ?_ (by kernel_rfl) ?_); (repeat (with_reducible first | exact PanicFree.body | exact PanicFree.np | exact PanicFree.lvS | apply PanicFree.then_ | apply PanicFree.blk)))
             | ((with_reducible apply J.draw (id := 54) [0, 0, 3, 7, 0, 0, 48, 112, 255] (.p 0 (.p 1 (.p 2 (.q 3 (.p 4 (.p 5 (.p 6 (.q 7 (.p 8 .nil))))))))) (by kernel_rfl) ?_ (by kernel_rfl) ?_); (repeat (with_reducible first | exact PanicFree.body | exact PanicFree.np | exact PanicFree.lvS | apply PanicFree.then_ | apply PanicFree.blk)))
             | ((with_reducible apply J.pl2); exact rfl; (first | exact Gd.none | ((with_reducible apply Gd.on); exact rfl; exact rfl)); (repeat (first | (with_reducible exact PendF.nil) | ((with_reducible apply PendF.keep); exact rfl) | ((with_reducible apply PendF.gone); exact rfl))))
             | ((with_reducible apply J.pl2_off); exact rfl; ((with_reducible apply Gd.off); exact rfl; exact rfl; exact rfl); exact rfl; (repeat (first | (with_reducible exact PendF.nil) | ((with_reducible apply PendF.keep); exact rfl) | ((with_reducible apply PendF.gone); exact rfl))))
             | ((with_reducible apply J.pl2_off_none); exact rfl; ((with_reducible apply Gd.off); exact rfl; exact rfl; exact rfl); (repeat (first | (with_reducible exact PendF.nil) | ((with_reducible apply PendF.keep); exact rfl) | ((with_reducible apply PendF.gone); exact rfl))))
             | ((with_reducible first | apply J.psplit0 | apply J.psplit1 | apply J.psplit2); exact rfl; exact rfl; exact rfl)
             | (with_reducible exact J.pl_none)
             | ((with_reducible apply J.gsplit); exact rfl; exact rfl)
             | ((with_reducible first | apply J.cond | apply JC.cond); exact rfl)
             | (intro h; exfalso; (first | (simp at h; done) | (simp at h; omega) | omega))
             | (intro h; (try simp only [decide_eq_true_eq, decide_eq_false_iff_not, beq_iff_eq, beq_eq_false_iff_ne, Bool.not_eq_true', Bool.not_eq_false', bne_iff_ne, bne_eq_false_iff_eq, ne_eq, ge_iff_le, gt_iff_lt] at h))
             | (with_reducible apply J.gave')
             | ((with_reducible apply J.kept'); rotate_left; (repeat (first | (with_reducible exact Outs.nil) | ((with_reducible apply Outs.cons); (repeat (first | with_reducible exact Out.here | with_reducible apply Out.there))))))
           all_goals first
             | (apply J.againI (s := n) (s' := (n + 1)); (focus (omega)); (focus ((try dsimp only); omega)); (focus (((try dsimp only); repeat (first | exact sub.nil _ | (refine sub.consE rfl ?_ ?_; (first | with_reducible rfl | ((focus (congr 1; omega))) | rfl)))))); ((try dsimp only); (repeat (first | (with_reducible exact Outs.nil) | ((with_reducible apply Outs.cons); (repeat (first | with_reducible exact Out.here | with_reducible apply Out.there)))))))
             | (apply J.againI (s := (i, k, qs, qp, qe)) (s' := (i + 1, k2, qs2, qp2, qe2)); (focus (((try dsimp only) <;> omega))); (focus ((try dsimp only); (exact ⟨by omega, by omega, hc2⟩))); (focus (((try dsimp only); repeat (first | exact sub.nil _ | (refine sub.consE rfl ?_ ?_; (first | with_reducible rfl | ((focus (congr 1; omega))) | rfl)))))); ((try dsimp only); (repeat (first | (with_reducible exact Outs.nil) | ((with_reducible apply Outs.cons); (repeat (first | with_reducible exact Out.here | with_reducible apply Out.there)))))))
             | (trace_state; fail))
        | (trace_state; fail)
    all_goals first
      | rfl
      | ((refine J.reCh (b := b9) (k' := k) (by (repeat (first | with_reducible exact Upd.here | with_reducible apply Upd.there))) (subC_f (subOk_1 (by assumption))) ?_)
         ((with_reducible apply J.meet ((k, qs, qp, qe))); (case hs => ((try dsimp only); repeat (first | exact sub.nil _ | (refine sub.consE rfl ?_ ?_; (first | with_reducible rfl | (fail) | rfl))))); (case ho => ((try dsimp only); (repeat (first | (with_reducible exact Outs.nil) | ((with_reducible apply Outs.cons); (repeat (first | with_reducible exact Out.here | with_reducible apply Out.there))))); done)); (case hp => exact hc.more (Nat.le_succ _))))
      | ((refine J.reCh (b := b9) (k' := k) (by (repeat (first | with_reducible exact Upd.here | with_reducible apply Upd.there))) (subC_f (subOk_2 (by omega))) ?_)
         ((with_reducible apply J.meet ((k, qs, qp, qe))); (case hs => ((try dsimp only); repeat (first | exact sub.nil _ | (refine sub.consE rfl ?_ ?_; (first | with_reducible rfl | (fail) | rfl))))); (case ho => ((try dsimp only); (repeat (first | (with_reducible exact Outs.nil) | ((with_reducible apply Outs.cons); (repeat (first | with_reducible exact Out.here | with_reducible apply Out.there))))); done)); (case hp => exact hc.more (Nat.le_succ _))))
      | ((refine J.reCh (b := b9) (k' := k) (by (repeat (first | with_reducible exact Upd.here | with_reducible apply Upd.there))) (subC_f (subOk_3 (by simpa using (by assumption : (!hasT k.P o.tx) = false)))) ?_)
         ((with_reducible apply J.meet ((k, qs, qp, qe))); (case hs => ((try dsimp only); repeat (first | exact sub.nil _ | (refine sub.consE rfl ?_ ?_; (first | with_reducible rfl | (fail) | rfl))))); (case ho => ((try dsimp only); (repeat (first | (with_reducible exact Outs.nil) | ((with_reducible apply Outs.cons); (repeat (first | with_reducible exact Out.here | with_reducible apply Out.there))))); done)); (case hp => exact hc.more (Nat.le_succ _))))
      | ((refine J.reCh (b := b9) (k' := k) (by (repeat (first | with_reducible exact Upd.here | with_reducible apply Upd.there))) (subC_f (subOk_3 (by assumption))) ?_)
         ((with_reducible apply J.meet ((k, qs, qp, qe))); (case hs => ((try dsimp only); repeat (first | exact sub.nil _ | (refine sub.consE rfl ?_ ?_; (first | with_reducible rfl | (fail) | rfl))))); (case ho => ((try dsimp only); (repeat (first | (with_reducible exact Outs.nil) | ((with_reducible apply Outs.cons); (repeat (first | with_reducible exact Out.here | with_reducible apply Out.there))))); done)); (case hp => exact hc.more (Nat.le_succ _))))
      | ((refine J.reCh (b := b9) (k' := k) (by (repeat (first | with_reducible exact Upd.here | with_reducible apply Upd.there))) (incC_f (incOk_0 (by omega))) ?_)
         ((with_reducible apply J.meet ((k, qs, qp, qe))); (case hs => ((try dsimp only); repeat (first | exact sub.nil _ | (refine sub.consE rfl ?_ ?_; (first | with_reducible rfl | (fail) | rfl))))); (case ho => ((try dsimp only); (repeat (first | (with_reducible exact Outs.nil) | ((with_reducible apply Outs.cons); (repeat (first | with_reducible exact Out.here | with_reducible apply Out.there))))); done)); (case hp => exact hc.more (Nat.le_succ _))))
      | ((refine J.reCh (b := b9) (k' := k) (by (repeat (first | with_reducible exact Upd.here | with_reducible apply Upd.there))) (incC_f ((incOk_A (by omega)).trans (by assumption))) ?_)
         ((with_reducible apply J.meet ((k, qs, qp, qe))); (case hs => ((try dsimp only); repeat (first | exact sub.nil _ | (refine sub.consE rfl ?_ ?_; (first | with_reducible rfl | (fail) | rfl))))); (case ho => ((try dsimp only); (repeat (first | (with_reducible exact Outs.nil) | ((with_reducible apply Outs.cons); (repeat (first | with_reducible exact Out.here | with_reducible apply Out.there))))); done)); (case hp => exact hc.more (Nat.le_succ _))))
      | (have e9 : subOk k o.tx = true := subOk_t (by assumption) (by omega) (by assumption)
         (refine J.reCh (b := b9) (k' := k.wP (k.P ++ [o.tx])) (by (repeat (first | with_reducible exact Upd.here | with_reducible apply Upd.there))) (subC_t e9) ?_)
         (refine J.reR (E := 50) (v := .slice q8.1 (k.P.length + 1) q8.2) (n := k.P.length + 1) (C := txc k.P ++ o.tx.cells) (v' := .slice q8.1 (k.P ++ [o.tx]).length q8.2) (n' := (k.P ++ [o.tx]).length) (C' := txc (k.P ++ [o.tx])) (by (repeat (first | with_reducible exact Upd.here | with_reducible apply Upd.there))) (by rw [List.length_append]; rfl) (by rw [List.length_append]; rfl) (txc_add _ _) ?_)
         ((with_reducible apply J.meet ((k.wP (k.P ++ [o.tx]), qs, q8, qe))); (case hs => ((try dsimp only); repeat (first | exact sub.nil _ | (refine sub.consE rfl ?_ ?_; (first | with_reducible rfl | ((focus (congr 1; simp))) | rfl))))); (case ho => ((try dsimp only); (repeat (first | (with_reducible exact Outs.nil) | ((with_reducible apply Outs.cons); (repeat (first | with_reducible exact Out.here | with_reducible apply Out.there))))); done)); (case hp => exact subC_t e9 ▸ hc.sub heI.tx)))
      | (have e9 : subOk k o.tx = true := subOk_t (by assumption) (by omega) (by simpa using (by assumption : (!hasT k.P o.tx) = true))
         (refine J.reCh (b := b9) (k' := k.wP (k.P ++ [o.tx])) (by (repeat (first | with_reducible exact Upd.here | with_reducible apply Upd.there))) (subC_t e9) ?_)
         (refine J.reR (E := 50) (v := .slice q8.1 (k.P.length + 1) q8.2) (n := k.P.length + 1) (C := txc k.P ++ o.tx.cells) (v' := .slice q8.1 (k.P ++ [o.tx]).length q8.2) (n' := (k.P ++ [o.tx]).length) (C' := txc (k.P ++ [o.tx])) (by (repeat (first | with_reducible exact Upd.here | with_reducible apply Upd.there))) (by rw [List.length_append]; rfl) (by rw [List.length_append]; rfl) (txc_add _ _) ?_)
         ((with_reducible apply J.meet ((k.wP (k.P ++ [o.tx]), qs, q8, qe))); (case hs => ((try dsimp only); repeat (first | exact sub.nil _ | (refine sub.consE rfl ?_ ?_; (first | with_reducible rfl | ((focus (congr 1; simp))) | rfl))))); (case ho => ((try dsimp only); (repeat (first | (with_reducible exact Outs.nil) | ((with_reducible apply Outs.cons); (repeat (first | with_reducible exact Out.here | with_reducible apply Out.there))))); done)); (case hp => exact subC_t e9 ▸ hc.sub heI.tx)))
      | (have hat := atI_lt o.co k.P.length (by omega)
         have e9 : incOk k o.co = true := (incOk_A (by omega)).trans (by assumption)
         (refine J.reCh (b := b9) (k' := ⟨(incA k o.co).s, (incA k o.co).L, gone k.P (atI o.co k.P.length), k.E ++ [(⟨(incA k o.co).s.time, (incA k o.co).e, incT k o.co⟩ : Ev)]⟩) (by (repeat (first | with_reducible exact Upd.here | with_reducible apply Upd.there))) (incC_t e9) ?_)
         (refine J.reR (E := 50) (v := .slice q6.1 (0 + (atI o.co k.P.length - 0) + (k.P.length - (atI o.co k.P.length + 1))) q6.2) (n := 0 + (atI o.co k.P.length - 0) + (k.P.length - (atI o.co k.P.length + 1))) (C := [] ++ txc (k.P.take (atI o.co k.P.length)) ++ txc (k.P.drop (atI o.co k.P.length + 1))) (v' := .slice q6.1 (gone k.P (atI o.co k.P.length)).length q6.2) (n' := (gone k.P (atI o.co k.P.length)).length) (C' := txc (gone k.P (atI o.co k.P.length))) (by (repeat (first | with_reducible exact Upd.here | with_reducible apply Upd.there))) (by rw [gone_length hat]; congr 1; omega) (by rw [gone_length hat]; omega) (by rw [List.nil_append, txc_join]; rfl) ?_)
         (refine J.reR (E := 72) (v := .slice q8.1 (k.E.length + 1) q8.2) (n := k.E.length + 1) (C := evc k.E ++ Ev.cells (⟨(incA k o.co).s.time, (incA k o.co).e, incT k o.co⟩ : Ev)) (v' := .slice q8.1 (k.E ++ [(⟨(incA k o.co).s.time, (incA k o.co).e, incT k o.co⟩ : Ev)]).length q8.2) (n' := (k.E ++ [(⟨(incA k o.co).s.time, (incA k o.co).e, incT k o.co⟩ : Ev)]).length) (C' := evc (k.E ++ [(⟨(incA k o.co).s.time, (incA k o.co).e, incT k o.co⟩ : Ev)])) (by (repeat (first | with_reducible exact Upd.here | with_reducible apply Upd.there))) (by rw [List.length_append]; rfl) (by rw [List.length_append]; rfl) (evc_add _ _) ?_)
         ((with_reducible apply J.meet ((⟨(incA k o.co).s, (incA k o.co).L, gone k.P (atI o.co k.P.length), k.E ++ [(⟨(incA k o.co).s.time, (incA k o.co).e, incT k o.co⟩ : Ev)]⟩, q9, q6, q8))); (case hs => ((try dsimp only); repeat (first | exact sub.nil _ | (refine sub.consE rfl ?_ ?_; (first | with_reducible rfl | ((focus (congr 1; first | (simp; done) | (rw [gone_length hat]; omega)))) | rfl))))); (case ho => ((try dsimp only); (repeat (first | (with_reducible exact Outs.nil) | ((with_reducible apply Outs.cons); (repeat (first | with_reducible exact Out.here | with_reducible apply Out.there))))); done)); (case hp => exact incC_t e9 ▸ hc.inc o.co)))
      | ((with_reducible apply J.meet ((k.wS (riseS k.s o.co) k.L, q9, qp, qe))); (case hs => ((try dsimp only); repeat (first | exact sub.nil _ | (refine sub.consE rfl ?_ ?_; (first | with_reducible rfl | (fail) | rfl))))); (case ho => ((try dsimp only); (repeat (first | (with_reducible exact Outs.nil) | ((with_reducible apply Outs.cons); (repeat (first | with_reducible exact Out.here | with_reducible apply Out.there))))); done)); (case hp => exact (hc.ris o.co).more (Nat.le_succ _)))
      | ((with_reducible apply J.someR (ao := u9.1) (n := k.P.length) (E := 50) (C := txc k.P) (sz := 25) (by (repeat (first | with_reducible exact In.here | with_reducible apply In.there))) (by decide); intro hu9s)
         (with_reducible apply J.someR (ao := u8.1) (n := k.E.length) (E := 72) (C := evc k.E) (sz := 27) (by (repeat (first | with_reducible exact In.here | with_reducible apply In.there))) (by decide); intro hu8s)
         apply J.loopI (σ := Nat × List Value) (I := fun x => x.1 ≤ k.P.length ∧ x.2.length = k.P.length * 25) (L := fun x => [(2, .slice ao T.length cap), (3, .int .i64 acc), (9, .pointer (some ⟨b9, 0, none⟩)), (10, .pointer (some ⟨b10, 0, none⟩)), (11, .slice qp.1 k.P.length qp.2), (12, .slice qe.1 k.E.length qe.2), (13, .int .i64 (i : Int)), (22, .slice u9.1 k.P.length u9.2), (23, .slice u8.1 k.E.length u8.2), (24, .int .i64 (x.1 : Int))]) (HH := fun x => [row (.slice u9.1 k.P.length u9.2) 50 25 k.P.length x.2, row (.slice u8.1 k.E.length u8.2) 72 27 k.E.length (evc k.E), chn b9 k, blk b10 (k.s.cells (.slice qs.1 k.L.length qs.2)) 34, row (.slice qs.1 k.L.length qs.2) 58 3 k.L.length (lcs k.L), row (.slice qp.1 k.P.length qp.2) 50 25 k.P.length (txc k.P), row (.slice qe.1 k.E.length qe.2) 72 27 k.E.length (evc k.E)]) (m := fun x => k.P.length - x.1) (s0 := (0, txc k.P))
         · ((try dsimp only); (exact ⟨Nat.zero_le _, txc_length _⟩))
         · ((try dsimp only); repeat (first | exact sub.nil _ | (refine sub.consE rfl ?_ ?_; (first | with_reducible rfl | (fail) | rfl))))
         · ((try dsimp only); (repeat (first | (with_reducible exact Outs.nil) | ((with_reducible apply Outs.cons); (repeat (first | with_reducible exact Out.here | with_reducible apply Out.there))))))
         rintro ⟨n, C⟩ ⟨hn, hC⟩
         try dsimp only at *
         repeat' first
           | (refine J.qv ?_; (with_reducible apply exq); focus (first
             | ((with_reducible apply Qv.indexSrcs (k := n)); exact rfl; exact rfl; (focus omega); (focus omega); (first | exact hu9s (by omega) | exact hu8s (by omega)))
             | ((with_reducible apply Qv.buildS (T := 50)); exact rfl; (show _ = some (tx0.cells)); kernel_rfl)
             | ((with_reducible apply Qv.buildS (T := 72)); exact rfl; (show _ = some (ev0.cells)); kernel_rfl)))
           | ((with_reducible apply J.cellsR (vs := tx0.cells)); exact rfl; exact rfl; exact tx_len _; decide; rfl; (repeat (first | with_reducible exact Upd.here | with_reducible apply Upd.there)); (rw [hC]; omega); exact rfl)
           | ((with_reducible apply J.cellsR (vs := ev0.cells)); exact rfl; exact rfl; exact ev_len _; decide; rfl; (repeat (first | with_reducible exact Upd.here | with_reducible apply Upd.there)); (rw [hC]; omega); exact rfl)
           | refine J.one ?_
           | refine J.loudS ?_
           | (refine J.loudQ ?_; intro _ _)
           | (refine J.loudB ?_; intro _)
           | (with_reducible apply J.list)
           | ((with_reducible apply J.draw (id := 32) [0, 0, 0, 6, 14, 31, 63, 127, 127, 127, 0, 1279, 3583, 8191] (.q 0 (.p 1 (.p 2 (.p 3 (.q 4 (.x 5 (.p 6 (.p 7 (.p 8 (.p 9 (.x 10 (.x 11 (.p 12 (.p 13 .nil)) .none) .none))))) (.x 10 (.x 5 (.p 6 (.p 7 (.p 8 (.p 9 (.x 11 (.p 12 (.p 13 .nil)) .none))))) .none) .none))))))) (by kernel_rfl) ?_ (by kernel_rfl) ?_); (repeat (with_reducible first | exact PanicFree.body | exact PanicFree.np | exact PanicFree.lvS | apply PanicFree.then_ | apply PanicFree.blk)))
           | ((with_reducible apply J.draw (id := 36) [0, 0, 2, 0, 0, 0, 48, 112, 254, 510, 1023, 2047] (.p 0 (.p 1 (.q 2 (.p 3 (.p 4 (.p 5 (.p 6 (.q 7 (.p 8 (.x 9 (.x 10 (.p 11 .nil) .none) .none)))))))))) (by kernel_rfl) ?_ (by kernel_rfl) ?_); (repeat (with_reducible first | exact PanicFree.body | exact PanicFree.np | exact PanicFree.lvS | apply PanicFree.then_ | apply PanicFree.blk)))
           | ((with_reducible apply J.draw (id := 37) [0, 0, 0, 6, 15, 0, 0, 64, 224, 511, 1023] (.p 1 (.p 2 (.p 3 (.p 5 (.p 6 (.p 7 (.p 8 (.x 0 (.x 4 (.x 9 (.p 10 .nil) .none) .none) .none)))))))) (by kernel_rfl) ?_ (by kernel_rfl) ?_); (repeat (with_reducible first | exact PanicFree.body | exact PanicFree.np | exact PanicFree.lvS | apply PanicFree.then_ | apply PanicFree.blk)))
           | ((with_reducible apply J.draw (id := 44) [0, 1, 0, 7, 15, 31, 63, 127, 63, 319, 1023, 2047, 4095, 8191, 16383, 8191, 40959, 131071, 262143, 524287, 1048575, 2097151, 1048575, 5242879, 16777215, 33554431, 67108863, 134217727, 134217727, 536870911, 134217727, 134217727, 134217727, 8589934591, 17179869183, 34359738367] (.p 0 (.q 2 (.x 1 (.x 3 (.p 4 (.p 5 (.p 6 (.p 8 (.q 9 (.x 7 (.p 10 (.p 11 (.p 12 (.p 13 (.p 14 (.p 15 (.p 16 (.p 17 (.p 18 (.p 19 (.p 20 (.p 21 (.p 22 (.p 23 (.p 24 (.p 25 (.p 26 (.p 27 (.p 28 (.q 30 (.p 31 (.p 32 (.x 29 (.x 33 (.p 34 (.p 35 .nil)) .none) .none))))))))))))))))))))))) .none)))))) .none) .none))) (by kernel_rfl) ?_ (by kernel_rfl) ?_); (repeat (with_reducible first | exact PanicFree.body | exact PanicFree.np | exact PanicFree.lvS | apply PanicFree.then_ | apply PanicFree.blk)))
           | ((with_reducible apply J.draw (id := 49) [0, 0, 3, 7, 0, 0, 48, 112, 255] (.p 0 (.p 1 (.p 2 (.q 3 (.p 4 (.p 5 (.p 6 (.q 7 (.p 8 .nil))))))))) (by kernel_rfl) ?_ (by kernel_rfl) ?_); (repeat (with_reducible first | exact PanicFree.body | exact PanicFree.np | exact PanicFree.lvS | apply PanicFree.then_ | apply PanicFree.blk)))
           | ((with_reducible apply J.draw (id := 54) [0, 0, 3, 7, 0, 0, 48, 112, 255] (.p 0 (.p 1 (.p 2 (.q 3 (.p 4 (.p 5 (.p 6 (.q 7 (.p 8 .nil))))))))) (by kernel_rfl) ?_ (by kernel_rfl) ?_); (repeat (with_reducible first | exact PanicFree.body | exact PanicFree.np | exact PanicFree.lvS | apply PanicFree.then_ | apply PanicFree.blk)))
           | ((with_reducible apply J.pl2); exact rfl; (first | exact Gd.none | ((with_reducible apply Gd.on); exact rfl; exact rfl)); (repeat (first | (with_reducible exact PendF.nil) | ((with_reducible apply PendF.keep); exact rfl) | ((with_reducible apply PendF.gone); exact rfl))))
           | ((with_reducible apply J.pl2_off); exact rfl; ((with_reducible apply Gd.off); exact rfl; exact rfl; exact rfl); exact rfl; (repeat (first | (with_reducible exact PendF.nil) | ((with_reducible apply PendF.keep); exact rfl) | ((with_reducible apply PendF.gone); exact rfl))))
           | ((with_reducible apply J.pl2_off_none); exact rfl; ((with_reducible apply Gd.off); exact rfl; exact rfl; exact rfl); (repeat (first | (with_reducible exact PendF.nil) | ((with_reducible apply PendF.keep); exact rfl) | ((with_reducible apply PendF.gone); exact rfl))))
           | ((with_reducible first | apply J.psplit0 | apply J.psplit1 | apply J.psplit2); exact rfl; exact rfl; exact rfl)
           | (with_reducible exact J.pl_none)
           | ((with_reducible apply J.gsplit); exact rfl; exact rfl)
           | ((with_reducible first | apply J.cond | apply JC.cond); exact rfl)
           | (intro h; exfalso; (first | (simp at h; done) | (simp at h; omega) | omega))
           | (intro h; (try simp only [decide_eq_true_eq, decide_eq_false_iff_not, beq_iff_eq, beq_eq_false_iff_ne, Bool.not_eq_true', Bool.not_eq_false', bne_iff_ne, bne_eq_false_iff_eq, ne_eq, ge_iff_le, gt_iff_lt] at h))
           | (with_reducible apply J.gave')
           | ((with_reducible apply J.kept'); rotate_left; (repeat (first | (with_reducible exact Outs.nil) | ((with_reducible apply Outs.cons); (repeat (first | with_reducible exact Out.here | with_reducible apply Out.there))))))
         all_goals first
           | (apply J.againI (s := (n, C)) (s' := (n + 1, splice C (n * 25) tx0.cells)); (focus (((try dsimp only) <;> omega))); (focus ((try dsimp only); (exact ⟨by omega, by rw [splice_length (by rw [hC, tx_len]; omega), hC]⟩))); (focus (((try dsimp only); repeat (first | exact sub.nil _ | (refine sub.consE rfl ?_ ?_; (first | with_reducible rfl | ((focus (congr 1; omega))) | rfl)))))); ((try dsimp only); (repeat (first | (with_reducible exact Outs.nil) | ((with_reducible apply Outs.cons); (repeat (first | with_reducible exact Out.here | with_reducible apply Out.there)))))))
           | (apply J.loopI (σ := Nat × List Value) (I := fun x => x.1 ≤ k.E.length ∧ x.2.length = k.E.length * 27) (L := fun x => [(2, .slice ao T.length cap), (3, .int .i64 acc), (9, .pointer (some ⟨b9, 0, none⟩)), (10, .pointer (some ⟨b10, 0, none⟩)), (11, .slice qp.1 k.P.length qp.2), (12, .slice qe.1 k.E.length qe.2), (13, .int .i64 (i : Int)), (22, .slice u9.1 k.P.length u9.2), (23, .slice u8.1 k.E.length u8.2), (25, .int .i64 (x.1 : Int))]) (HH := fun x => [row (.slice u8.1 k.E.length u8.2) 72 27 k.E.length x.2, chn b9 k, blk b10 (k.s.cells (.slice qs.1 k.L.length qs.2)) 34, row (.slice qs.1 k.L.length qs.2) 58 3 k.L.length (lcs k.L), row (.slice qp.1 k.P.length qp.2) 50 25 k.P.length (txc k.P), row (.slice qe.1 k.E.length qe.2) 72 27 k.E.length (evc k.E)]) (m := fun x => k.E.length - x.1) (s0 := (0, evc k.E))
              · ((try dsimp only); (exact ⟨Nat.zero_le _, evc_length _⟩))
              · ((try dsimp only); repeat (first | exact sub.nil _ | (refine sub.consE rfl ?_ ?_; (first | with_reducible rfl | (fail) | rfl))))
              · ((try dsimp only); (repeat (first | (with_reducible exact Outs.nil) | ((with_reducible apply Outs.cons); (repeat (first | with_reducible exact Out.here | with_reducible apply Out.there))))))
              rintro ⟨n, C⟩ ⟨hn, hC⟩
              try dsimp only at *
              repeat' first
                | (refine J.qv ?_; (with_reducible apply exq); focus (first
                  | ((with_reducible apply Qv.indexSrcs (k := n)); exact rfl; exact rfl; (focus omega); (focus omega); (first | exact hu9s (by omega) | exact hu8s (by omega)))
                  | ((with_reducible apply Qv.buildS (T := 50)); exact rfl; (show _ = some (tx0.cells)); kernel_rfl)
                  | ((with_reducible apply Qv.buildS (T := 72)); exact rfl; (show _ = some (ev0.cells)); kernel_rfl)))
                | ((with_reducible apply J.cellsR (vs := tx0.cells)); exact rfl; exact rfl; exact tx_len _; decide; rfl; (repeat (first | with_reducible exact Upd.here | with_reducible apply Upd.there)); (rw [hC]; omega); exact rfl)
                | ((with_reducible apply J.cellsR (vs := ev0.cells)); exact rfl; exact rfl; exact ev_len _; decide; rfl; (repeat (first | with_reducible exact Upd.here | with_reducible apply Upd.there)); (rw [hC]; omega); exact rfl)
                | refine J.one ?_
                | refine J.loudS ?_
                | (refine J.loudQ ?_; intro _ _)
                | (refine J.loudB ?_; intro _)
                | (with_reducible apply J.list)
                | ((with_reducible apply J.draw (id := 32) [0, 0, 0, 6, 14, 31, 63, 127, 127, 127, 0, 1279, 3583, 8191] (.q 0 (.p 1 (.p 2 (.p 3 (.q 4 (.x 5 (.p 6 (.p 7 (.p 8 (.p 9 (.x 10 (.x 11 (.p 12 (.p 13 .nil)) .none) .none))))) (.x 10 (.x 5 (.p 6 (.p 7 (.p 8 (.p 9 (.x 11 (.p 12 (.p 13 .nil)) .none))))) .none) .none))))))) (by kernel_rfl) ?_ (by kernel_rfl) ?_); (repeat (with_reducible first | exact PanicFree.body | exact PanicFree.np | exact PanicFree.lvS | apply PanicFree.then_ | apply PanicFree.blk)))
                | ((with_reducible apply J.draw (id := 36) [0, 0, 2, 0, 0, 0, 48, 112, 254, 510, 1023, 2047] (.p 0 (.p 1 (.q 2 (.p 3 (.p 4 (.p 5 (.p 6 (.q 7 (.p 8 (.x 9 (.x 10 (.p 11 .nil) .none) .none)))))))))) (by kernel_rfl) ?_ (by kernel_rfl) ?_); (repeat (with_reducible first | exact PanicFree.body | exact PanicFree.np | exact PanicFree.lvS | apply PanicFree.then_ | apply PanicFree.blk)))
                | ((with_reducible apply J.draw (id := 37) [0, 0, 0, 6, 15, 0, 0, 64, 224, 511, 1023] (.p 1 (.p 2 (.p 3 (.p 5 (.p 6 (.p 7 (.p 8 (.x 0 (.x 4 (.x 9 (.p 10 .nil) .none) .none) .none)))))))) (by kernel_rfl) ?_ (by kernel_rfl) ?_); (repeat (with_reducible first | exact PanicFree.body | exact PanicFree.np | exact PanicFree.lvS | apply PanicFree.then_ | apply PanicFree.blk)))
                | ((with_reducible apply J.draw (id := 44) [0, 1, 0, 7, 15, 31, 63, 127, 63, 319, 1023, 2047, 4095, 8191, 16383, 8191, 40959, 131071, 262143, 524287, 1048575, 2097151, 1048575, 5242879, 16777215, 33554431, 67108863, 134217727, 134217727, 536870911, 134217727, 134217727, 134217727, 8589934591, 17179869183, 34359738367] (.p 0 (.q 2 (.x 1 (.x 3 (.p 4 (.p 5 (.p 6 (.p 8 (.q 9 (.x 7 (.p 10 (.p 11 (.p 12 (.p 13 (.p 14 (.p 15 (.p 16 (.p 17 (.p 18 (.p 19 (.p 20 (.p 21 (.p 22 (.p 23 (.p 24 (.p 25 (.p 26 (.p 27 (.p 28 (.q 30 (.p 31 (.p 32 (.x 29 (.x 33 (.p 34 (.p 35 .nil)) .none) .none))))))))))))))))))))))) .none)))))) .none) .none))) (by kernel_rfl) ?_ (by kernel_rfl) ?_); (repeat (with_reducible first | exact PanicFree.body | exact PanicFree.np | exact PanicFree.lvS | apply PanicFree.then_ | apply PanicFree.blk)))
                | ((with_reducible apply J.draw (id := 49) [0, 0, 3, 7, 0, 0, 48, 112, 255] (.p 0 (.p 1 (.p 2 (.q 3 (.p 4 (.p 5 (.p 6 (.q 7 (.p 8 .nil))))))))) (by kernel_rfl) ?_ (by kernel_rfl) ?_); (repeat (with_reducible first | exact PanicFree.body | exact PanicFree.np | exact PanicFree.lvS | apply PanicFree.then_ | apply PanicFree.blk)))
                | ((with_reducible apply J.draw (id := 54) [0, 0, 3, 7, 0, 0, 48, 112, 255] (.p 0 (.p 1 (.p 2 (.q 3 (.p 4 (.p 5 (.p 6 (.q 7 (.p 8 .nil))))))))) (by kernel_rfl) ?_ (by kernel_rfl) ?_); (repeat (with_reducible first | exact PanicFree.body | exact PanicFree.np | exact PanicFree.lvS | apply PanicFree.then_ | apply PanicFree.blk)))
                | ((with_reducible apply J.pl2); exact rfl; (first | exact Gd.none | ((with_reducible apply Gd.on); exact rfl; exact rfl)); (repeat (first | (with_reducible exact PendF.nil) | ((with_reducible apply PendF.keep); exact rfl) | ((with_reducible apply PendF.gone); exact rfl))))
                | ((with_reducible apply J.pl2_off); exact rfl; ((with_reducible apply Gd.off); exact rfl; exact rfl; exact rfl); exact rfl; (repeat (first | (with_reducible exact PendF.nil) | ((with_reducible apply PendF.keep); exact rfl) | ((with_reducible apply PendF.gone); exact rfl))))
                | ((with_reducible apply J.pl2_off_none); exact rfl; ((with_reducible apply Gd.off); exact rfl; exact rfl; exact rfl); (repeat (first | (with_reducible exact PendF.nil) | ((with_reducible apply PendF.keep); exact rfl) | ((with_reducible apply PendF.gone); exact rfl))))
                | ((with_reducible first | apply J.psplit0 | apply J.psplit1 | apply J.psplit2); exact rfl; exact rfl; exact rfl)
                | (with_reducible exact J.pl_none)
                | ((with_reducible apply J.gsplit); exact rfl; exact rfl)
                | ((with_reducible first | apply J.cond | apply JC.cond); exact rfl)
                | (intro h; exfalso; (first | (simp at h; done) | (simp at h; omega) | omega))
                | (intro h; (try simp only [decide_eq_true_eq, decide_eq_false_iff_not, beq_iff_eq, beq_eq_false_iff_ne, Bool.not_eq_true', Bool.not_eq_false', bne_iff_ne, bne_eq_false_iff_eq, ne_eq, ge_iff_le, gt_iff_lt] at h))
                | (with_reducible apply J.gave')
                | ((with_reducible apply J.kept'); rotate_left; (repeat (first | (with_reducible exact Outs.nil) | ((with_reducible apply Outs.cons); (repeat (first | with_reducible exact Out.here | with_reducible apply Out.there))))))
              all_goals first
                | (apply J.againI (s := (n, C)) (s' := (n + 1, splice C (n * 27) ev0.cells)); (focus (((try dsimp only) <;> omega))); (focus ((try dsimp only); (exact ⟨by omega, by rw [splice_length (by rw [hC, ev_len]; omega), hC]⟩))); (focus (((try dsimp only); repeat (first | exact sub.nil _ | (refine sub.consE rfl ?_ ?_; (first | with_reducible rfl | ((focus (congr 1; omega))) | rfl)))))); ((try dsimp only); (repeat (first | (with_reducible exact Outs.nil) | ((with_reducible apply Outs.cons); (repeat (first | with_reducible exact Out.here | with_reducible apply Out.there)))))))
                | ((with_reducible apply J.meet ((k, qs, qp, qe))); (case hs => ((try dsimp only); repeat (first | exact sub.nil _ | (refine sub.consE rfl ?_ ?_; (first | with_reducible rfl | (fail) | rfl))))); (case ho => ((try dsimp only); (repeat (first | (with_reducible exact Outs.nil) | ((with_reducible apply Outs.cons); (repeat (first | with_reducible exact Out.here | with_reducible apply Out.there))))); done)); (case hp => exact hc.more (Nat.le_succ _)))
                | (trace_state; fail))
           | (trace_state; fail))
      | (trace_state; fail)
theorem ChainRuns {r : Reach} {b0 : Nat} {H : Type} {enc : TypeId × Value → H} {spare : Nat → Bool} {held : Bool} {d : DataW H} {p : List MemPlace} (side time : Int) (v : Value) (acc : Int) (W : World) (g1 : (Lit.int .i64 side).wf = true) (g2 : (Lit.int .i64 time).wf = true) (o : Value.okWide Tryz.prog W r b0 74 v) (t : DataW.Trod enc Tryz.prog W 0 spare held 74 v d p) (g3 : (Lit.int .i64 acc).wf = true) :
    Calls Tryz.prog 7 #[.int .i64 side, .int .i64 time, v, .int .i64 acc] W fun e w' => e = .returned (.bool true) ∧ Below W.heap.size W w' := by
  obtain ⟨ao, T, cap, rfl, h1, h2, h3, h4⟩ := reads_ops (in_slice (L := evsh) (k := 6) (e := 77) rfl o t (by kernel_rfl))
  exact (runs side time ao cap T acc W ⟨h4, h3, by omega⟩).below
end Go.Proofs.YtljbedladifgmaaGreat.Run
