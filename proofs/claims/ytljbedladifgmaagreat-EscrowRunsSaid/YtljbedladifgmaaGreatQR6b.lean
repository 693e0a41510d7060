/-
  The reference: keys, digests, payloads; which transactions may be. No conditions.
-/
import Derived.Test.YtljbedladifgmaaGreatQR6
namespace Go.Proofs.YtljbedladifgmaaGreat.R6b
open Go Go.RowKit Eng
set_option linter.unusedVariables false
set_option maxRecDepth 100000
set_option linter.unusedSimpArgs false
open Sha Iter Hash Bytes Hsum Wide Tx Field Deal Rsum Rovr Ref R6
set_option maxHeartbeats 2000000
theorem rputinv (ao : Option Addr) (n cap : Nat) (a : List UInt8) (us : Int) (rt : List UInt8) (ro se re to : Int) (id : List UInt8) (w : World) (hw : Rd w ao (bcs a) ∧ n = a.length ∧ invE us rt ro se re to id = 0 ∧ a.length ≤ 4000) : CSpec Tryz.prog 66 [.agg [.slice ao n cap, .int .i64 0].toArray, .agg (invc us rt ro se re to id).toArray] [] w (RetW (a ++ invB us rt ro se re to id)) := by
  obtain ⟨hr, rfl, hi, hl⟩ := hw
  obtain ⟨u0, u1, r0, r1, s0, s1, e0, e1, t0, t1, rl, i0, i1⟩ := inv_ok hi
  refine spec_own0 Tryz.func66 rfl Tryz.ntmps66 rfl (l0 := [(0, .agg [.slice ao a.length cap, .int .i64 0].toArray), (1, .agg (invc us rt ro se re to id).toArray)]) rfl ?_
  repeat' first
    | ((with_reducible apply J.wR (rtext _ _ _ a _)); exact rfl; exact rfl; (focus (exact RH.and (RH.old hr) (RH.of ⟨rfl, (by first | omega | decide | (simp; done) | (simp; omega)), (by first | omega | (simp only [List.length_append, tx_length, num_length, wb_length, List.length_cons, List.length_nil]; omega))⟩))); intro _ _)
    | ((with_reducible apply J.wR (rtext _ _ _ _ _)); exact rfl; exact rfl; (focus (exact RH.and (RH.row (by (first | exact in_au | fail))) (RH.of ⟨rfl, (by first | omega | decide | (simp; done) | (simp; omega)), (by first | omega | (simp only [List.length_append, tx_length, num_length, wb_length, List.length_cons, List.length_nil]; omega))⟩))); intro _ _)
    | ((with_reducible apply J.wR (rnum6 _ _ _ _ _)); exact rfl; exact rfl; (focus (exact RH.and (RH.row (by (first | exact in_au | fail))) (RH.of ⟨rfl, by omega, by omega, (by first | omega | (simp only [List.length_append, tx_length, num_length, wb_length, List.length_cons, List.length_nil]; omega))⟩))); intro _ _)
    | refine J.one ?_
    | refine J.loudS ?_
    | (refine J.loudQ ?_; intro _ _)
    | (refine J.loudB ?_; intro _)
    | (with_reducible apply J.list)
    | ((with_reducible apply J.draw (id := 1) [0, 1, 0, 4, 15, 0, 32, 127, 255] (.q 0 (.p 2 (.q 3 (.p 5 (.q 6 (.x 1 (.x 4 (.x 7 (.x 8 .nil .none) .none) .none) .none)))))) (by kernel_rfl) ?_ (by kernel_rfl) ?_); (repeat (with_reducible first | exact PanicFree.body | exact PanicFree.np | exact PanicFree.lvS | apply PanicFree.then_ | apply PanicFree.blk)))
    | ((with_reducible apply J.draw (id := 2) [0, 0, 2, 7, 0, 16, 63, 0, 128, 511, 0, 1024, 4095, 8191] (.q 0 (.p 1 (.q 2 (.p 4 (.q 5 (.p 7 (.q 8 (.p 10 (.q 11 (.x 3 (.x 6 (.x 9 (.x 12 (.x 13 .nil .none) .none) .none) .none) .none)))))))))) (by kernel_rfl) ?_ (by kernel_rfl) ?_); (repeat (with_reducible first | exact PanicFree.body | exact PanicFree.np | exact PanicFree.lvS | apply PanicFree.then_ | apply PanicFree.blk)))
    | ((with_reducible apply J.pl2); exact rfl; (first | exact Gd.none | ((with_reducible apply Gd.on); exact rfl; exact rfl)); (first | exact pend_au | fail))
    | ((with_reducible apply J.pl2_off); exact rfl; ((with_reducible apply Gd.off); exact rfl; exact rfl; exact rfl); exact rfl; (first | exact pend_au | fail))
    | ((with_reducible apply J.pl2_off_none); exact rfl; ((with_reducible apply Gd.off); exact rfl; exact rfl; exact rfl); (first | exact pend_au | fail))
    | ((with_reducible first | apply J.psplit0 | apply J.psplit1 | apply J.psplit2); exact rfl; exact rfl; exact rfl)
    | (with_reducible exact J.pl_none)
    | ((with_reducible apply J.gsplit); exact rfl; exact rfl)
    | ((with_reducible first | apply J.cond | apply JC.cond); exact rfl)
    | (intro h; exfalso; fail)
    | (intro h; (try simp only [decide_eq_true_eq, decide_eq_false_iff_not, beq_iff_eq, beq_eq_false_iff_ne, Bool.not_eq_true', Bool.not_eq_false', bne_iff_ne, bne_eq_false_iff_eq, ne_eq, ge_iff_le, gt_iff_lt] at h))
    | (with_reducible apply J.gave')
    | ((with_reducible apply J.kept'); rotate_left; (first | exact outs_au | fail))
  all_goals (((with_reducible apply J.endW); (first | exact outs_au | fail); (focus ((first | rfl | (unfold invB; simp only [List.append_assoc]; done)))); (focus ((first | rfl | (unfold invB; simp only [List.append_assoc]; done)))); exact rfl))
theorem rputvar (ao : Option Addr) (n cap : Nat) (a : List UInt8) (va ex : Int) (w : World) (hw : Rd w ao (bcs a) ∧ n = a.length ∧ Wd va ∧ 0 ≤ ex ∧ ex ≤ 1099511627776 ∧ a.length ≤ 4000) : CSpec Tryz.prog 118 [.agg [.slice ao n cap, .int .i64 0].toArray, .agg (varc va ex).toArray] [] w (RetW (a ++ varB va ex)) := by
  obtain ⟨hr, rfl, hv, x0, x1, hl⟩ := hw
  refine spec_own0 Tryz.func118 rfl Tryz.ntmps118 rfl (l0 := [(0, .agg [.slice ao a.length cap, .int .i64 0].toArray), (1, .agg (varc va ex).toArray)]) rfl ?_
  repeat' first
    | ((with_reducible apply J.wR (rwid _ _ _ a _)); exact rfl; exact rfl; (focus (exact RH.and (RH.old hr) (RH.of ⟨rfl, (by assumption), (by first | omega | (simp only [List.length_append, tx_length, num_length, wb_length, List.length_cons, List.length_nil]; omega))⟩))); intro _ _)
    | ((with_reducible apply J.wR (rwid _ _ _ _ _)); exact rfl; exact rfl; (focus (exact RH.and (RH.row (by (first | exact in_au | fail))) (RH.of ⟨rfl, (by assumption), (by first | omega | (simp only [List.length_append, tx_length, num_length, wb_length, List.length_cons, List.length_nil]; omega))⟩))); intro _ _)
    | ((with_reducible apply J.wR (rnum6 _ _ _ _ _)); exact rfl; exact rfl; (focus (exact RH.and (RH.row (by (first | exact in_au | fail))) (RH.of ⟨rfl, by omega, by omega, (by first | omega | (simp only [List.length_append, tx_length, num_length, wb_length, List.length_cons, List.length_nil]; omega))⟩))); intro _ _)
    | refine J.one ?_
    | refine J.loudS ?_
    | (refine J.loudQ ?_; intro _ _)
    | (refine J.loudB ?_; intro _)
    | (with_reducible apply J.list)
    | ((with_reducible apply J.draw (id := 1) [0, 0, 2, 7, 0, 16, 63, 127] (.q 0 (.p 1 (.q 2 (.p 4 (.q 5 (.x 3 (.x 6 (.x 7 .nil .none) .none) .none)))))) (by kernel_rfl) ?_ (by kernel_rfl) ?_); (repeat (with_reducible first | exact PanicFree.body | exact PanicFree.np | exact PanicFree.lvS | apply PanicFree.then_ | apply PanicFree.blk)))
    | ((with_reducible apply J.pl2); exact rfl; (first | exact Gd.none | ((with_reducible apply Gd.on); exact rfl; exact rfl)); (first | exact pend_au | fail))
    | ((with_reducible apply J.pl2_off); exact rfl; ((with_reducible apply Gd.off); exact rfl; exact rfl; exact rfl); exact rfl; (first | exact pend_au | fail))
    | ((with_reducible apply J.pl2_off_none); exact rfl; ((with_reducible apply Gd.off); exact rfl; exact rfl; exact rfl); (first | exact pend_au | fail))
    | ((with_reducible first | apply J.psplit0 | apply J.psplit1 | apply J.psplit2); exact rfl; exact rfl; exact rfl)
    | (with_reducible exact J.pl_none)
    | ((with_reducible apply J.gsplit); exact rfl; exact rfl)
    | ((with_reducible first | apply J.cond | apply JC.cond); exact rfl)
    | (intro h; exfalso; fail)
    | (intro h; (try simp only [decide_eq_true_eq, decide_eq_false_iff_not, beq_iff_eq, beq_eq_false_iff_ne, Bool.not_eq_true', Bool.not_eq_false', bne_iff_ne, bne_eq_false_iff_eq, ne_eq, ge_iff_le, gt_iff_lt] at h))
    | (with_reducible apply J.gave')
    | ((with_reducible apply J.kept'); rotate_left; (first | exact outs_au | fail))
  all_goals (((with_reducible apply J.endW); (first | exact outs_au | fail); (focus ((first | rfl | (unfold varB; simp only [List.append_assoc]; done)))); (focus ((first | rfl | (unfold varB; simp only [List.append_assoc]; done)))); exact rfl))
theorem rkey (us : Int) (rt : List UInt8) (ro se re to : Int) (id : List UInt8) (w : World) (hw : True) : CSpec Tryz.prog 23 [.agg (invc us rt ro se re to id).toArray] [] w (Gives (str (keyF us rt ro se re to id))) := by
  have hok := fun hi : invE us rt ro se re to id = 0 => inv_ok hi
  refine spec_own0 Tryz.func23 rfl Tryz.ntmps23 rfl (l0 := [(0, .agg (invc us rt ro se re to id).toArray)]) rfl ?_
  repeat' first
    | (refine J.qr ?_; (with_reducible apply exq); focus (first
      | ((with_reducible apply Qr.toStr); exact rfl; (with_reducible apply RH.row; (first | exact in_au | fail)); exact (sha_length _).symm)))
    | ((with_reducible apply J.givesR (rinv _ _ _ _ _ _ _)); exact rfl; exact rfl; focus (exact RH.true_))
    | ((with_reducible apply J.wR (rputinv none 0 0 [] _ _ _ _ _ _ _)); exact rfl; exact rfl; (focus (exact RH.and RH.nil (RH.of ⟨rfl, by assumption, by decide⟩))); intro _ _)
    | ((with_reducible apply J.freshR (rsum _ _ _ _)); exact rfl; exact rfl; (focus (exact RH.and (RH.row (by (first | exact in_au | fail))) (RH.of ⟨rfl, (by have h9 := hok (by assumption); simp [invB_length]; omega)⟩))); intro _ _)
    | refine J.one ?_
    | refine J.loudS ?_
    | (refine J.loudQ ?_; intro _ _)
    | (refine J.loudB ?_; intro _)
    | (with_reducible apply J.list)
    | ((with_reducible apply J.gsplit); exact rfl; exact rfl)
    | ((with_reducible first | apply J.cond | apply JC.cond); exact rfl)
    | (intro h; exfalso; fail)
    | (intro h; (try simp only [decide_eq_true_eq, decide_eq_false_iff_not, beq_iff_eq, beq_eq_false_iff_ne, Bool.not_eq_true', Bool.not_eq_false', bne_iff_ne, bne_eq_false_iff_eq, ne_eq, ge_iff_le, gt_iff_lt] at h))
    | (with_reducible apply J.gave')
    | ((with_reducible apply J.kept'); rotate_left; (first | exact outs_au | fail))
  all_goals
    first
    | (simp only [retv]; unfold keyF; rw [if_neg (by assumption)]; done)
    | (simp only [retv]; unfold keyF; rw [if_pos (by assumption)]; simp; done)
    | (trace_state; fail)
theorem rdigest (us : Int) (rt : List UInt8) (ro se re to : Int) (id : List UInt8) (va ex : Int) (w : World) (hw : Wd va) : CSpec Tryz.prog 90 [.agg (invc us rt ro se re to id).toArray, .agg (varc va ex).toArray] [] w (Gives (str (digF us rt ro se re to id va ex))) := by
  have hok := fun hi : invE us rt ro se re to id = 0 => inv_ok hi
  have hv := fun hi : sndE va ex = 0 => var_ok hi
  have hk : (keyF us rt ro se re to id).length = if invE us rt ro se re to id = 0 then 32 else 0 := keyF_length _ _ _ _ _ _ _
  have hl : (keyF us rt ro se re to id).length ≤ 32 := by rw [hk]; split <;> omega
  refine spec_own0 Tryz.func90 rfl Tryz.ntmps90 rfl (l0 := [(0, .agg (invc us rt ro se re to id).toArray), (1, .agg (varc va ex).toArray)]) rfl ?_
  repeat' first
    | (refine J.qr ?_; (with_reducible apply exq); focus (first
      | ((with_reducible apply Qr.toStr); exact rfl; (with_reducible apply RH.row; (first | exact in_au | fail)); exact (sha_length _).symm)))
    | (refine J.qo ?_; refine ⟨?_, ?_⟩; focus (first
      | ((with_reducible apply Qr.toStr); exact rfl; (with_reducible apply RH.row; (first | exact in_au | fail)); exact (sha_length _).symm)))
    | ((with_reducible apply J.givesR (rinv _ _ _ _ _ _ _)); exact rfl; exact rfl; focus (exact RH.true_))
    | ((with_reducible apply J.givesR (rvar _ _)); exact rfl; exact rfl; focus (exact RH.of hw))
    | ((with_reducible apply J.givesR (rkey _ _ _ _ _ _ _)); exact rfl; exact rfl; focus (exact RH.true_))
    | ((with_reducible apply J.wR (rtext none 0 0 [] _)); exact rfl; exact rfl; (focus (exact RH.and RH.nil (RH.of ⟨rfl, by omega, by simp; omega⟩))); intro _ _)
    | ((with_reducible apply J.wR (rputvar _ _ _ _ _ _)); exact rfl; exact rfl; (focus (have hv2 := hv (by assumption); exact RH.and (RH.row (by (first | exact in_au | fail))) (RH.of ⟨rfl, hw, hv2.2.1, hv2.2.2, by simp [tx_length]; omega⟩))); intro _ _)
    | ((with_reducible apply J.freshR (rsum _ _ _ _)); exact rfl; exact rfl; (focus (exact RH.and (RH.row (by (first | exact in_au | fail))) (RH.of ⟨rfl, (by simp [tx_length, varB_length]; omega)⟩))); intro _ _)
    | refine J.one ?_
    | refine J.loudS ?_
    | (refine J.loudQ ?_; intro _ _)
    | (refine J.loudB ?_; intro _)
    | (with_reducible apply J.list)
    | ((with_reducible apply J.draw (id := 3) [0, 0, 2, 7, 0, 31, 63, 127, 255, 511] (.p 0 (.q 1 (.q 4 (.x 2 (.x 3 (.x 5 (.p 6 (.x 7 (.q 8 (.p 9 .nil)) .none)) .none) .none) .none)))) (by kernel_rfl) ?_ (by kernel_rfl) ?_); (repeat (with_reducible first | exact PanicFree.body | exact PanicFree.np | exact PanicFree.lvS | apply PanicFree.then_ | apply PanicFree.blk)))
    | ((with_reducible apply J.pl2); exact rfl; (first | exact Gd.none | ((with_reducible apply Gd.on); exact rfl; exact rfl)); (first | exact pend_au | fail))
    | ((with_reducible apply J.pl2_off); exact rfl; ((with_reducible apply Gd.off); exact rfl; exact rfl; exact rfl); exact rfl; (first | exact pend_au | fail))
    | ((with_reducible apply J.pl2_off_none); exact rfl; ((with_reducible apply Gd.off); exact rfl; exact rfl; exact rfl); (first | exact pend_au | fail))
    | ((with_reducible first | apply J.psplit0 | apply J.psplit1 | apply J.psplit2); exact rfl; exact rfl; exact rfl)
    | (with_reducible exact J.pl_none)
    | ((with_reducible apply J.gsplit); exact rfl; exact rfl)
    | ((with_reducible first | apply J.cond | apply JC.cond); exact rfl)
    | (intro h; exfalso; fail)
    | (intro h; (try simp only [decide_eq_true_eq, decide_eq_false_iff_not, beq_iff_eq, beq_eq_false_iff_ne, Bool.not_eq_true', Bool.not_eq_false', bne_iff_ne, bne_eq_false_iff_eq, ne_eq, ge_iff_le, gt_iff_lt] at h))
    | (with_reducible apply J.gave')
    | ((with_reducible apply J.kept'); rotate_left; (first | exact outs_au | fail))
  all_goals
    first
    | (simp only [retv]; unfold digF; rw [if_neg (by intro hc; exact absurd hc.1 (by assumption))]; done)
    | (simp only [retv]; unfold digF; rw [if_neg (by intro hc; exact absurd hc.2 (by assumption))]; done)
    | (simp only [retv]; unfold digF; rw [if_pos ⟨by assumption, by assumption⟩]; simp [digB]; done)
    | (trace_state; fail)
theorem rpayload (act : Int) (k : List UInt8) (fee : Int) (w : World) (hw : Wd fee) : CSpec Tryz.prog 120 [.int .i64 act, str k, .agg (wv fee).toArray] [] w (Fresh 5 1 (payF act k fee).length (bcs (payF act k fee)) []) := by
  refine spec_own0 Tryz.func120 rfl Tryz.ntmps120 rfl (l0 := [(0, .int .i64 act), (1, str k), (2, .agg (wv fee).toArray)]) rfl ?_
  repeat' first
    | (refine J.qv ?_; (with_reducible apply exq); focus (first
      | ((with_reducible apply Qv.lenS8); exact rfl)))
    | (refine J.qr ?_; (with_reducible apply exq); focus (first
      | ((with_reducible apply Qr.loadFull); exact rfl; (focus ((first | exact in_au | fail); done)); (with_reducible exact wv_length _))))
    | (refine J.qo ?_; refine ⟨?_, ?_⟩; focus (first
      | ((with_reducible apply Qr.loadFull); exact rfl; (focus ((first | exact in_au | fail); done)); (with_reducible exact wv_length _))))
    | ((with_reducible apply J.wR (rtext none 0 0 [] _)); exact rfl; exact rfl; (focus (exact RH.and RH.nil (RH.of ⟨rfl, by first | decide | omega, by first | decide | omega⟩))); intro _ _)
    | ((with_reducible apply J.wR (rtext _ _ _ _ _)); exact rfl; exact rfl; (focus (exact RH.and (RH.row (by (first | exact in_au | fail))) (RH.of ⟨rfl, (by first | omega | decide | (simp; done) | (simp; omega)), (by first | omega | (simp only [List.length_append, tx_length, num_length, wb_length, List.length_cons, List.length_nil]; omega))⟩))); intro _ _)
    | ((with_reducible apply J.wR (rnum6 _ _ _ _ _)); exact rfl; exact rfl; (focus (exact RH.and (RH.row (by (first | exact in_au | fail))) (RH.of ⟨rfl, by omega, by omega, (by first | omega | (simp only [List.length_append, tx_length, num_length, wb_length, List.length_cons, List.length_nil]; omega))⟩))); intro _ _)
    | ((with_reducible apply J.wR (rwid _ _ _ _ _)); exact rfl; exact rfl; (focus (exact RH.and (RH.row (by (first | exact in_au | fail))) (RH.of ⟨rfl, (by assumption), (by first | omega | (simp only [List.length_append, tx_length, num_length, wb_length, List.length_cons, List.length_nil]; omega))⟩))); intro _ _)
    | refine J.one ?_
    | refine J.loudS ?_
    | (refine J.loudQ ?_; intro _ _)
    | (refine J.loudB ?_; intro _)
    | (with_reducible apply J.list)
    | ((with_reducible apply J.draw (id := 3) [0, 1, 0, 7, 0, 31, 0, 127, 255, 511] (.p 0 (.p 2 (.p 4 (.q 6 (.x 1 (.x 3 (.x 5 (.x 7 (.p 8 (.p 9 .nil)) .none) .none) .none) .none))))) (by kernel_rfl) ?_ (by kernel_rfl) ?_); (repeat (with_reducible first | exact PanicFree.body | exact PanicFree.np | exact PanicFree.lvS | apply PanicFree.then_ | apply PanicFree.blk)))
    | ((with_reducible apply J.pl2); exact rfl; (first | exact Gd.none | ((with_reducible apply Gd.on); exact rfl; exact rfl)); (first | exact pend_au | fail))
    | ((with_reducible apply J.pl2_off); exact rfl; ((with_reducible apply Gd.off); exact rfl; exact rfl; exact rfl); exact rfl; (first | exact pend_au | fail))
    | ((with_reducible apply J.pl2_off_none); exact rfl; ((with_reducible apply Gd.off); exact rfl; exact rfl; exact rfl); (first | exact pend_au | fail))
    | ((with_reducible first | apply J.psplit0 | apply J.psplit1 | apply J.psplit2); exact rfl; exact rfl; exact rfl)
    | (with_reducible exact J.pl_none)
    | ((with_reducible apply J.gsplit); exact rfl; exact rfl)
    | ((with_reducible first | apply J.cond | apply JC.cond); exact rfl)
    | (intro h; exfalso; fail)
    | (intro h; (try simp only [decide_eq_true_eq, decide_eq_false_iff_not, beq_iff_eq, beq_eq_false_iff_ne, Bool.not_eq_true', Bool.not_eq_false', bne_iff_ne, bne_eq_false_iff_eq, ne_eq, ge_iff_le, gt_iff_lt] at h))
    | (with_reducible apply J.gave')
    | ((with_reducible apply J.kept'); rotate_left; (first | exact outs_au | fail))
  all_goals
    first
    | (have e : payF act k fee = [] := by unfold payF; exact if_neg (by rw [inB_iff]; omega)
       rw [e]
       refine J.nilRow 5 1 ?_
       (with_reducible apply J.freshRow)
       (repeat (first | with_reducible exact Out.here | with_reducible apply Out.there))
       all_goals rfl)
    | (have e : payF act k fee = payB act k fee := by unfold payF; exact if_pos (by rw [inB_iff]; omega)
       rw [e]
       (with_reducible apply J.freshRow)
       (repeat (first | with_reducible exact Out.here | with_reducible apply Out.there))
       exact rfl
       exact rfl
       rfl)
    | (trace_state; fail)
theorem chk_1 {t : Tx} (h : t.ki < 1 ∨ 6 < t.ki) : Value.int .i64 12 = .int .i64 (chk t) := by
  have e : inB t.ki 1 6 = false := by rw [Bool.eq_false_iff]; intro h2; rw [inB_iff] at h2; omega
  unfold chk
  rw [if_pos e]
theorem chk_k {t : Tx} (h : 1 ≤ t.ki ∧ t.ki ≤ 6) : ¬ inB t.ki 1 6 = false := by rw [inB_iff.2 h]; decide
theorem chk_2 {t : Tx} (h : 1 ≤ t.ki ∧ t.ki ≤ 6) (h2 : ¬(0 ≤ t.fr ∧ t.fr ≤ 7 ∧ 0 ≤ t.no ∧ t.no ≤ 1099511627776 ∧ 0 ≤ t.at_ ∧ t.at_ ≤ 1)) : Value.int .i64 4 = .int .i64 (chk t) := by
  unfold chk
  rw [if_neg (chk_k h), if_pos]
  simp only [← Bool.not_eq_true, inB_iff]
  omega
theorem chk_n {t : Tx} (h : 1 ≤ t.ki ∧ t.ki ≤ 6) (h2 : 0 ≤ t.fr ∧ t.fr ≤ 7 ∧ 0 ≤ t.no ∧ t.no ≤ 1099511627776 ∧ 0 ≤ t.at_ ∧ t.at_ ≤ 1) : chk t = (if t.ki < 4 then rtE t else if invE t.us t.rt t.ro t.se t.re t.to t.id ≠ 0 then invE t.us t.rt t.ro t.se t.re t.to t.id else if sndE t.va t.ex ≠ 0 then sndE t.va t.ex else if 1024 < t.sg.length then 5 else 0) := by
  unfold chk
  rw [if_neg (chk_k h), if_neg]
  simp only [← Bool.not_eq_true, inB_iff]
  omega
theorem rtE_a {t : Tx} (h : t.am = 0) : rtE t = 36 := by unfold rtE; rw [if_pos h]
theorem rtE_b {t : Tx} (h : t.am ≠ 0) (h2 : t.ki = 1 ∧ (t.to < 0 ∨ 7 < t.to) ∨ t.ki = 2 ∧ (t.ro < 2 ∨ 3 < t.ro)) : rtE t = 39 := by
  unfold rtE
  rw [if_neg h]
  rcases h2 with ⟨h3, h4⟩ | ⟨h3, h4⟩
  · rw [if_pos]
    refine ⟨h3, ?_⟩
    simp only [← Bool.not_eq_true, inB_iff]
    omega
  · rw [if_neg (by omega), if_pos]
    refine ⟨h3, ?_⟩
    simp only [← Bool.not_eq_true, inB_iff]
    omega
theorem rtE_c {t : Tx} (h : t.am ≠ 0) (h2 : (t.ki = 1 → 0 ≤ t.to ∧ t.to ≤ 7) ∧ (t.ki = 2 → 2 ≤ t.ro ∧ t.ro ≤ 3)) : rtE t = 0 := by
  unfold rtE
  rw [if_neg h, if_neg, if_neg]
  · rintro ⟨h3, h4⟩
    rw [inB_iff.2 (h2.2 h3)] at h4
    cases h4
  · rintro ⟨h3, h4⟩
    rw [inB_iff.2 (h2.1 h3)] at h4
    cases h4
theorem inv_39 {us ro se re to : Int} {rt id : List UInt8} (h : invE us rt ro se re to id ≠ 0) : invE us rt ro se re to id = 39 := by
  unfold invE at *
  split at h
  · exact absurd rfl h
  · rename_i h1; rw [if_neg h1]
theorem snd_36 {va ex : Int} (h : sndE va ex ≠ 0) : sndE va ex = 36 := by
  unfold sndE at *
  split at h
  · exact absurd rfl h
  · rename_i h1; rw [if_neg h1]
section
variable {t : Tx} (h : 1 ≤ t.ki ∧ t.ki ≤ 6) (h2 : 0 ≤ t.fr ∧ t.fr ≤ 7 ∧ 0 ≤ t.no ∧ t.no ≤ 1099511627776 ∧ 0 ≤ t.at_ ∧ t.at_ ≤ 1)
include h h2
theorem chk_3 (h3 : t.ki < 4) (h4 : t.am = 0) : Value.int .i64 36 = .int .i64 (chk t) := by rw [chk_n h h2, if_pos h3, rtE_a h4]
theorem chk_4 (h3 : t.ki < 4) (h4 : t.am ≠ 0) (h5 : t.ki = 1 ∧ (t.to < 0 ∨ 7 < t.to) ∨ t.ki = 2 ∧ (t.ro < 2 ∨ 3 < t.ro)) : Value.int .i64 39 = .int .i64 (chk t) := by rw [chk_n h h2, if_pos h3, rtE_b h4 h5]
theorem chk_5 (h3 : t.ki < 4) (h4 : t.am ≠ 0) (h5 : (t.ki = 1 → 0 ≤ t.to ∧ t.to ≤ 7) ∧ (t.ki = 2 → 2 ≤ t.ro ∧ t.ro ≤ 3)) : Value.int .i64 0 = .int .i64 (chk t) := by rw [chk_n h h2, if_pos h3, rtE_c h4 h5]
theorem chk_6 (h3 : ¬ t.ki < 4) (h4 : invE t.us t.rt t.ro t.se t.re t.to t.id ≠ 0) : Value.int .i64 39 = .int .i64 (chk t) := by rw [chk_n h h2, if_neg h3, if_pos h4, inv_39 h4]
theorem chk_7 (h3 : ¬ t.ki < 4) (h4 : invE t.us t.rt t.ro t.se t.re t.to t.id = 0) (h5 : sndE t.va t.ex ≠ 0) : Value.int .i64 36 = .int .i64 (chk t) := by rw [chk_n h h2, if_neg h3, if_neg (by simp [h4]), if_pos h5, snd_36 h5]
theorem chk_8 (h3 : ¬ t.ki < 4) (h4 : invE t.us t.rt t.ro t.se t.re t.to t.id = 0) (h5 : sndE t.va t.ex = 0) (h6 : 1024 < t.sg.length) : Value.int .i64 5 = .int .i64 (chk t) := by rw [chk_n h h2, if_neg h3, if_neg (by simp [h4]), if_neg (by simp [h5]), if_pos h6]
theorem chk_9 (h3 : ¬ t.ki < 4) (h4 : invE t.us t.rt t.ro t.se t.re t.to t.id = 0) (h5 : sndE t.va t.ex = 0) (h6 : ¬ 1024 < t.sg.length) : Value.int .i64 0 = .int .i64 (chk t) := by rw [chk_n h h2, if_neg h3, if_neg (by simp [h4]), if_neg (by simp [h5]), if_neg h6]
end
theorem rtx (t : Tx) (w : World) (hw : t.In) : CSpec Tryz.prog 50 [.agg t.cells.toArray] [] w (Gives (.int .i64 (chk t))) := by
  have ht := hw
  refine spec_own0 Tryz.func50 rfl Tryz.ntmps50 rfl (l0 := [(0, .agg t.cells.toArray)]) rfl ?_
  repeat' first
    | (refine J.qv ?_; (with_reducible apply exq); focus (first
      | ((with_reducible apply Qv.buildW); exact rfl; exact rfl; (first | with_reducible assumption | (unfold Wo; omega) | (simp only [Wd, Wo] at *; omega)))
      | ((with_reducible apply Qv.buildW0); exact rfl; exact rfl)
      | ((with_reducible apply Qv.eqlA); exact rfl; exact rfl; (kernel_rfl); (refine weq _ _ (And.intro ?_ ?_) <;> (first | with_reducible assumption | exact ht.am | exact ht.va | (unfold Wd; omega))))
      | ((with_reducible apply Qv.lenS8); exact rfl)))
    | (refine J.qr ?_; (with_reducible apply exq); focus (first
      | ((with_reducible apply Qr.loadFull); exact rfl; (focus ((first | exact in_au | fail); done)); (with_reducible exact wv_length _))))
    | ((with_reducible apply J.givesR (rinv _ _ _ _ _ _ _)); exact rfl; exact rfl; focus (exact RH.true_))
    | ((with_reducible apply J.givesR (rvar _ _)); exact rfl; exact rfl; focus (exact RH.of ht.va))
    | refine J.one ?_
    | refine J.loudS ?_
    | (refine J.loudQ ?_; intro _ _)
    | (refine J.loudB ?_; intro _)
    | (with_reducible apply J.list)
    | ((with_reducible apply J.gsplit); exact rfl; exact rfl)
    | ((with_reducible first | apply J.cond | apply JC.cond); exact rfl)
    | (intro h; exfalso; (first | (simp at h; done) | omega))
    | (intro h; (try simp only [decide_eq_true_eq, decide_eq_false_iff_not, beq_iff_eq, beq_eq_false_iff_ne, Bool.not_eq_true', Bool.not_eq_false', bne_iff_ne, bne_eq_false_iff_eq, ne_eq, ge_iff_le, gt_iff_lt] at h))
    | (with_reducible apply J.gave')
    | ((with_reducible apply J.kept'); rotate_left; (first | exact outs_au | fail))
  all_goals
    first
    | (exfalso; omega)
    | exact chk_1 (by omega)
    | exact chk_2 (by omega) (by omega)
    | exact chk_3 (by omega) (by omega) (by omega) (by assumption)
    | exact chk_4 (by omega) (by omega) (by omega) (by assumption) (by omega)
    | exact chk_5 (by omega) (by omega) (by omega) (by assumption) (by omega)
    | exact chk_6 (by omega) (by omega) (by omega) (by assumption)
    | exact chk_7 (by omega) (by omega) (by omega) (by assumption) (by assumption)
    | exact chk_8 (by omega) (by omega) (by omega) (by assumption) (by assumption) (by omega)
    | exact chk_9 (by omega) (by omega) (by omega) (by assumption) (by assumption) (by omega)
    | (trace_state; fail)
end Go.Proofs.YtljbedladifgmaaGreat.R6b
