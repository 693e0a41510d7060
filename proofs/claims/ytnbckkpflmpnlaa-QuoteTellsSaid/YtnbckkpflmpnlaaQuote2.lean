/-
  The law QuoteTells. No conditions.
-/
import Derived.Test.YtnbckkpflmpnlaaQuote
namespace Go.Proofs.Ytnbckkpflmpnlaa.Quote2
open Go Go.RowKit Eng
set_option linter.unusedVariables false
set_option maxRecDepth 100000
set_option linter.unusedSimpArgs false
open Wide Ref Cmp WMul MulR WDiv Quote
set_option maxHeartbeats 4000000
theorem qt_f (a p v x r : Int) (ha : Wd a) (hv : Wd v) (hl : Wd x) (hr : -9223372036854775808 ≤ r ∧ r ≤ 9223372036854775807) (hD : ¬ a * cp p < 115792089237316195423570985008687907853269984665640564039457584007913129639936) (w : World) : CSpec Try.prog 22 [.agg (wv a).toArray, .int .i64 p, .agg (wv v).toArray, .agg (wv x).toArray, .int .i64 r] [] w (Gives (.bool true)) := by
  have hc := cp_bd p
  have hs := spv_bd p ha
  have hF : fitsM a p = false := decide_eq_false hD
  have hO : offok a p = false := by unfold offok; rw [decide_eq_false hD]; rfl
  have hV : ofv a p = 0 := by unfold ofv; rw [hO]; rfl
  have hS : spv a p = 0 := if_neg hD
  refine spec_of Try.func22 rfl Try.ntmps22 rfl (l0 := [(0, .agg (wv a).toArray), (1, .int .i64 p), (2, .agg (wv v).toArray), (3, .agg (wv x).toArray), (4, .int .i64 r)]) rfl ?_
  intro fp
  repeat' first
    | (with_reducible apply J.seq)
    | (with_reducible apply J.region_lit)
    | (with_reducible apply J.ops_nil)
    | (with_reducible apply J.app_cons)
    | (with_reducible apply J.app_nil)
    | (with_reducible apply J.then_)
    | (with_reducible apply J.blk_)
    | (with_reducible apply J.skip)
    | (with_reducible apply J.block)
    | ((with_reducible apply J.q0); exact rfl; focus (first
      | ((with_reducible apply Qv.buildW); exact rfl; exact rfl; (first | with_reducible assumption | (unfold Wo; omega) | (simp only [Wd, Wo] at *; omega)))
      | ((with_reducible apply Qv.buildW0); exact rfl; exact rfl)
      | ((with_reducible apply Qv.eqlA); exact rfl; exact rfl; (kernel_rfl); (refine weq _ _ (And.intro ?_ ?_) <;> (first | exact ha | exact hv | exact ofv_wd _ ha | exact spv_wd _ ha | exact wmul_wd ha hc.1 | exact wmul_wd (spv_wd _ ha) (by omega) | exact wadd_wd hl ha | exact wsub_wd (wmul_wd ha hc.1) (wmul_wd (spv_wd _ ha) (by omega)) | exact wsub_wd ha (spv_wd _ ha) | (unfold Wd; omega))))
      | ((with_reducible apply Qv.neqA); exact rfl; exact rfl; (kernel_rfl); (refine weq _ _ (And.intro ?_ ?_) <;> (first | exact ha | exact hv | exact ofv_wd _ ha | exact spv_wd _ ha | exact wmul_wd ha hc.1 | exact wmul_wd (spv_wd _ ha) (by omega) | exact wadd_wd hl ha | exact wsub_wd (wmul_wd ha hc.1) (wmul_wd (spv_wd _ ha) (by omega)) | exact wsub_wd ha (spv_wd _ ha) | (unfold Wd; omega))))
      | ((with_reducible apply Qv.conv); exact rfl; exact cp_wr p)
      | ((with_reducible apply Qv.pure); exact rfl)
      | ((with_reducible apply Qv.fieldAddr); exact rfl; (focus ((try simp only [nl, Nat.reduceAdd, Nat.reduceMul, Int.reduceToNat]); try exact rfl)))
      | ((with_reducible first | apply Qv.indexArr | apply Qv.indexBlk | apply Qv.indexN); exact rfl; exact rfl; (first | decide | omega | (constructor <;> omega)); (focus ((try simp only [nl, Nat.reduceAdd, Nat.reduceMul, Int.reduceToNat]); try exact rfl)))
      | ((with_reducible apply Qv.field1); exact rfl; exact rfl)
      | ((with_reducible apply Qv.fieldN); exact rfl; (focus ((try simp only [nl, Nat.reduceAdd, Nat.reduceMul, Int.reduceToNat]); try exact rfl)))
      | ((with_reducible apply Qv.index1); exact rfl; exact rfl; (first | decide | omega | (constructor <;> omega)); exact rfl)
      | ((with_reducible first | apply Qv.add | apply Qv.sub | apply Qv.mul); exact rfl; exact rfl; (first | exact wr64 (by omega) (by omega) (by (try simp only [Int.reduceAdd, Int.reduceSub, Int.reduceMul]); exact rfl) | exact wru64 (by omega) (by omega) (by (try simp only [Int.reduceAdd, Int.reduceSub, Int.reduceMul]); exact rfl) | exact rfl))
      | ((with_reducible apply Qv.conv); exact rfl; (first | exact wr64 (by omega) (by omega) (by (try simp only [Int.reduceAdd, Int.reduceSub, Int.reduceMul]); exact rfl) | exact wru64 (by omega) (by omega) (by (try simp only [Int.reduceAdd, Int.reduceSub, Int.reduceMul]); exact rfl) | exact rfl))
      | ((with_reducible first | apply Qv.eqlB | apply Qv.neqB); exact rfl; exact rfl)
      | ((with_reducible first | apply Qv.buildA | apply Qv.buildS); exact rfl; (simp only [bfill, nl, Nat.reduceAdd, Nat.reduceMul, Int.reduceToNat]; exact rfl))
      | ((with_reducible apply Qv.quoP); exact rfl; exact rfl; (first | decide | omega); (omega); (first | exact wr64 (by omega) (by omega) rfl | exact wru64 (by omega) (by omega) rfl))
      | ((with_reducible apply Qv.remP); exact rfl; exact rfl; (first | decide | omega); omega)
      | ((with_reducible apply Qv.rem); exact rfl; exact rfl; (first | decide | omega); exact rfl)
      | ((with_reducible apply Qv.quo); exact rfl; exact rfl; (first | decide | omega); (first | exact wr64 (by omega) (by omega) (by (try simp only [Int.reduceAdd, Int.reduceSub, Int.reduceMul]); exact rfl) | exact wru64 (by omega) (by omega) (by (try simp only [Int.reduceAdd, Int.reduceSub, Int.reduceMul]); exact rfl) | exact rfl))
      | ((with_reducible apply Qv.shl); exact rfl; exact rfl; (first | decide | omega); (first | (first | exact wr64 (by omega) (by omega) (by (try simp only [Int.reduceAdd, Int.reduceSub, Int.reduceMul]); exact rfl) | exact wru64 (by omega) (by omega) (by (try simp only [Int.reduceAdd, Int.reduceSub, Int.reduceMul]); exact rfl) | exact rfl) | exact rfl))
      | ((with_reducible apply Qv.shr); exact rfl; exact rfl; (first | decide | omega); exact rfl)
      | ((with_reducible apply Qv.lenS); exact rfl)
      | ((with_reducible apply Qv.lenStr); exact rfl)
      | ((with_reducible apply Qv.capS); exact rfl)
      | ((with_reducible apply Qv.max); exact rfl; exact rfl)
      | ((with_reducible apply Qv.min); exact rfl; exact rfl)))
    | ((with_reducible apply J.q1); exact rfl; focus (first
      | ((with_reducible apply Qr.load1); exact rfl; (repeat (first | with_reducible exact In.here | with_reducible apply In.there)); exact rfl)
      | ((with_reducible apply Qr.loadN); exact rfl; (repeat (first | with_reducible exact In.here | with_reducible apply In.there)); (focus ((try simp only [nl, Nat.reduceAdd, Nat.reduceMul, Int.reduceToNat]); try exact rfl)); (focus (first | (simp only [nl, Nat.reduceAdd, Nat.reduceMul, Int.reduceToNat]; done) | exact rfl)))
      | ((with_reducible apply Qr.row1); exact rfl; (repeat (first | with_reducible exact In.here | with_reducible apply In.there)); exact rfl)
      | ((with_reducible apply Qr.rowN); exact rfl; (repeat (first | with_reducible exact In.here | with_reducible apply In.there)); (focus ((try simp only [nl, Nat.reduceAdd, Nat.reduceMul, Int.reduceToNat]); try exact rfl)); exact rfl)
      | ((with_reducible apply Qr.lenRow); exact rfl; (repeat (first | with_reducible exact In.here | with_reducible apply In.there)))))
    | ((with_reducible apply J.guard_on); exact rfl; exact rfl)
    | ((with_reducible apply J.guard_off); exact rfl; exact rfl; exact rfl; exact rfl)
    | ((with_reducible apply J.guard_off_none); exact rfl; exact rfl; exact rfl)
    | ((with_reducible apply J.gsplit); exact rfl; exact rfl)
    | ((with_reducible apply J.list); focus (first
      | ((with_reducible apply J.allocW); exact rfl; exact rfl; intro _)
      | ((with_reducible apply J.givesW (alive18)); exact rfl; exact rfl)
      | ((with_reducible apply J.givesP (mul_r _ (cp p))); exact rfl; exact rfl; (refine ⟨ha, ?_⟩; unfold Wo; omega))
      | ((with_reducible apply J.givesP (mul_r (spv a p) 10000)); exact rfl; exact rfl; (refine ⟨spv_wd p ha, ?_⟩; unfold Wo; omega))
      | ((with_reducible apply J.givesP (spread _ _)); exact rfl; exact rfl; (exact ha))
      | ((with_reducible apply J.givesP (offer _ _)); exact rfl; exact rfl; (exact ha))
      | ((with_reducible apply J.givesP (add_r _ _)); exact rfl; exact rfl; (exact ⟨hl, ha⟩))
      | ((with_reducible apply J.givesP (covers _ _ _)); exact rfl; exact rfl; (exact ⟨hv, hl, ha⟩))
      | ((with_reducible apply J.givesP (Ref.cmp _ _)); exact rfl; exact rfl; (refine ⟨?_, ?_⟩ <;> (first | exact ha | exact hv | exact ofv_wd _ ha | exact spv_wd _ ha | exact wmul_wd ha hc.1 | exact wmul_wd (spv_wd _ ha) (by omega) | exact wadd_wd hl ha | exact wsub_wd (wmul_wd ha hc.1) (wmul_wd (spv_wd _ ha) (by omega)) | exact wsub_wd ha (spv_wd _ ha) | (unfold Wd; omega))))
      | ((with_reducible apply J.givesP (points _)); exact rfl; exact rfl; (exact hr))
      | ((with_reducible apply J.givesP (sub_r _ _)); exact rfl; exact rfl; (refine ⟨?_, ?_⟩ <;> (first | exact ha | exact hv | exact ofv_wd _ ha | exact spv_wd _ ha | exact wmul_wd ha hc.1 | exact wmul_wd (spv_wd _ ha) (by omega) | exact wadd_wd hl ha | exact wsub_wd (wmul_wd ha hc.1) (wmul_wd (spv_wd _ ha) (by omega)) | exact wsub_wd ha (spv_wd _ ha) | (unfold Wd; omega))))
      | ((with_reducible apply J.buildSlice); exact rfl; exact rfl; exact rfl; exact rfl; exact rfl; (simp only [bfill, rep, List.replicate_succ, List.replicate_zero, List.flatten_cons, List.flatten_nil, nl, Nat.reduceAdd, Nat.reduceMul, Int.reduceToNat]; exact rfl); intro _)
      | ((with_reducible apply J.buildSlice0); exact rfl; intro _)
      | ((with_reducible apply J.append); exact rfl; exact rfl; (repeat (first | with_reducible exact Out.here | with_reducible apply Out.there)); exact rfl; (repeat (first | with_reducible exact In.here | with_reducible apply In.there)); (focus ((try simp only [nl, Nat.reduceAdd, Nat.reduceMul, Int.reduceToNat]); try exact rfl)); exact rfl; exact rfl; exact rfl; exact rfl; exact rfl; (first | decide | (simp only [maxLen]; omega) | omega); (first | decide | (simp only [maxLen]; omega) | omega); intro _)
      | ((with_reducible apply J.appendNil); exact rfl; exact rfl; exact rfl; (repeat (first | with_reducible exact In.here | with_reducible apply In.there)); (focus ((try simp only [nl, Nat.reduceAdd, Nat.reduceMul, Int.reduceToNat]); try exact rfl)); exact rfl; exact rfl; exact rfl; exact rfl; exact rfl; (first | decide | (simp only [maxLen]; omega) | omega); (first | decide | (simp only [maxLen]; omega) | omega); intro _)
      | ((with_reducible apply J.boxN); exact rfl; exact rfl; intro _)
      | ((with_reducible apply J.box1); exact rfl; exact rfl; exact rfl; intro _)
      | ((with_reducible apply J.alloc); exact rfl; intro _)
      | ((with_reducible apply J.storeN); exact rfl; exact rfl; (repeat (first | with_reducible exact Upd.here | with_reducible apply Upd.there)); (focus ((try simp only [nl, Nat.reduceAdd, Nat.reduceMul, Int.reduceToNat]); try exact rfl)); (focus (first | (simp only [nl, Nat.reduceAdd, Nat.reduceMul, Int.reduceToNat]; done) | exact rfl)); (focus (first | (simp only [nl, Nat.reduceAdd, Nat.reduceMul, Int.reduceToNat]; done) | (simp only [nl, Nat.reduceAdd, Nat.reduceMul, Int.reduceToNat]; omega) | decide)); (first | (with_reducible exact wvs_ones _ _) | exact rfl))
      | ((with_reducible apply J.store1); exact rfl; exact rfl; exact rfl; (repeat (first | with_reducible exact Upd.here | with_reducible apply Upd.there)); (focus ((try simp only [nl, Nat.reduceAdd, Nat.reduceMul, Int.reduceToNat]); try exact rfl)); (first | decide | (simp only [nl, Nat.reduceAdd, Nat.reduceMul, Int.reduceToNat]; omega)))))
    | ((with_reducible apply J.cond_true); exact rfl)
    | ((with_reducible apply J.cond_false); exact rfl)
    | ((with_reducible apply J.cond); exact rfl)
    | (intro h; exfalso; (first | (simp at h; done) | (simp [hF] at h; done) | (simp [hF] at h; omega) | (simp_all [wcmp_le, wcmp_ge, wadd]; done) | (simp_all [wcmp_le, wcmp_ge, wadd]; omega) | omega))
    | (intro h; (try simp only [decide_eq_true_eq, decide_eq_false_iff_not, beq_iff_eq, beq_eq_false_iff_ne, Bool.not_eq_true', Bool.not_eq_false', bne_iff_ne, bne_eq_false_iff_eq, ne_eq, ge_iff_le, gt_iff_lt] at h))
    | (with_reducible apply J.cret)
    | ((with_reducible apply J.ret); exact rfl; exact rfl; (repeat (first | (with_reducible exact Res.nil) | ((with_reducible apply Res.tmp); exact rfl) | ((with_reducible apply Res.cell1); exact rfl; (repeat (first | with_reducible exact In.here | with_reducible apply In.there)); exact rfl) | ((with_reducible apply Res.cellN); exact rfl; (repeat (first | with_reducible exact In.here | with_reducible apply In.there)); (focus ((try simp only [nl, Nat.reduceAdd, Nat.reduceMul, Int.reduceToNat]); try exact rfl)); (focus (first | (simp only [nl, Nat.reduceAdd, Nat.reduceMul, Int.reduceToNat]; done) | exact rfl))))); exact rfl)
    | ((with_reducible apply J.ret_normal); exact rfl; exact rfl; (repeat (first | (with_reducible exact Res.nil) | ((with_reducible apply Res.tmp); exact rfl) | ((with_reducible apply Res.cell1); exact rfl; (repeat (first | with_reducible exact In.here | with_reducible apply In.there)); exact rfl) | ((with_reducible apply Res.cellN); exact rfl; (repeat (first | with_reducible exact In.here | with_reducible apply In.there)); (focus ((try simp only [nl, Nat.reduceAdd, Nat.reduceMul, Int.reduceToNat]); try exact rfl)); (focus (first | (simp only [nl, Nat.reduceAdd, Nat.reduceMul, Int.reduceToNat]; done) | exact rfl))))); exact rfl)
    | (with_reducible apply J.gave')
    | ((with_reducible apply J.kept'); rotate_left; (repeat (first | (with_reducible exact Outs.nil) | ((with_reducible apply Outs.cons); (repeat (first | with_reducible exact Out.here | with_reducible apply Out.there))))))
    | (with_reducible apply J.exit)
    | (with_reducible apply J.then_ret)
    | (with_reducible apply J.then_exit)
    | (with_reducible apply J.then_panic)
    | (with_reducible apply J.blk_ret)
    | (with_reducible apply J.blk_panic)
    | (with_reducible apply J.blk_exit)
    | ((with_reducible apply J.blk_past); exact rfl)
  all_goals ((first | (simp [retv, hF, hO, hV, hS]; done) | (exfalso; simp_all; omega) | (trace_state; fail)))
theorem qt_t (a p v x r : Int) (ha : Wd a) (hv : Wd v) (hl : Wd x) (hr : -9223372036854775808 ≤ r ∧ r ≤ 9223372036854775807) (hD : a * cp p < 115792089237316195423570985008687907853269984665640564039457584007913129639936) (w : World) : CSpec Try.prog 22 [.agg (wv a).toArray, .int .i64 p, .agg (wv v).toArray, .agg (wv x).toArray, .int .i64 r] [] w (Gives (.bool true)) := by
  have hc := cp_bd p
  have hs := spv_bd p ha
  have hF : fitsM a p = true := decide_eq_true hD
  have hp0 : 0 ≤ a * cp p := Int.mul_nonneg ha.1 hc.1
  have e1 : wmul a (cp p) = a * cp p := if_pos hD
  have eS : spv a p = a * cp p / 10000 := if_pos hD
  have hb : spv a p * 10000 ≤ a * cp p ∧ a * cp p - spv a p * 10000 < 10000 := by rw [eS]; omega
  have h4 : spv a p * 10000 < 115792089237316195423570985008687907853269984665640564039457584007913129639936 := by omega
  have e2 : wmul (spv a p) 10000 = spv a p * 10000 := if_pos h4
  have e3 : decide (spv a p * 10000 < 115792089237316195423570985008687907853269984665640564039457584007913129639936) = true := decide_eq_true h4
  have e4 : wsub (a * cp p) (spv a p * 10000) = a * cp p - spv a p * 10000 := wsub_le hb.1
  have e5 : decide (spv a p * 10000 ≤ a * cp p) = true := decide_eq_true hb.1
  have e6 : wsub a (spv a p) = a - spv a p := wsub_le hs.2
  have hO : offok a p = !decide (a - spv a p = 0) := by unfold offok; rw [decide_eq_true hD]; rfl
  have hV : ofv a p = a - spv a p := by
    unfold ofv
    rw [hO]
    by_cases z : a - spv a p = 0
    · rw [z]; rfl
    · rw [decide_eq_false z]; rfl
  refine spec_of Try.func22 rfl Try.ntmps22 rfl (l0 := [(0, .agg (wv a).toArray), (1, .int .i64 p), (2, .agg (wv v).toArray), (3, .agg (wv x).toArray), (4, .int .i64 r)]) rfl ?_
  intro fp
  repeat' first
    | (with_reducible apply J.seq)
    | (with_reducible apply J.region_lit)
    | (with_reducible apply J.ops_nil)
    | (with_reducible apply J.app_cons)
    | (with_reducible apply J.app_nil)
    | (with_reducible apply J.then_)
    | (with_reducible apply J.blk_)
    | (with_reducible apply J.skip)
    | (with_reducible apply J.block)
    | ((with_reducible apply J.q0); exact rfl; focus (first
      | ((with_reducible apply Qv.buildW); exact rfl; exact rfl; (first | with_reducible assumption | (unfold Wo; omega) | (simp only [Wd, Wo] at *; omega)))
      | ((with_reducible apply Qv.buildW0); exact rfl; exact rfl)
      | ((with_reducible apply Qv.eqlA); exact rfl; exact rfl; (kernel_rfl); (refine weq _ _ (And.intro ?_ ?_) <;> (first | exact ha | exact hv | exact ofv_wd _ ha | exact spv_wd _ ha | exact wmul_wd ha hc.1 | exact wmul_wd (spv_wd _ ha) (by omega) | exact wadd_wd hl ha | exact wsub_wd (wmul_wd ha hc.1) (wmul_wd (spv_wd _ ha) (by omega)) | exact wsub_wd ha (spv_wd _ ha) | (unfold Wd; omega))))
      | ((with_reducible apply Qv.neqA); exact rfl; exact rfl; (kernel_rfl); (refine weq _ _ (And.intro ?_ ?_) <;> (first | exact ha | exact hv | exact ofv_wd _ ha | exact spv_wd _ ha | exact wmul_wd ha hc.1 | exact wmul_wd (spv_wd _ ha) (by omega) | exact wadd_wd hl ha | exact wsub_wd (wmul_wd ha hc.1) (wmul_wd (spv_wd _ ha) (by omega)) | exact wsub_wd ha (spv_wd _ ha) | (unfold Wd; omega))))
      | ((with_reducible apply Qv.conv); exact rfl; exact cp_wr p)
      | ((with_reducible apply Qv.pure); exact rfl)
      | ((with_reducible apply Qv.fieldAddr); exact rfl; (focus ((try simp only [nl, Nat.reduceAdd, Nat.reduceMul, Int.reduceToNat]); try exact rfl)))
      | ((with_reducible first | apply Qv.indexArr | apply Qv.indexBlk | apply Qv.indexN); exact rfl; exact rfl; (first | decide | omega | (constructor <;> omega)); (focus ((try simp only [nl, Nat.reduceAdd, Nat.reduceMul, Int.reduceToNat]); try exact rfl)))
      | ((with_reducible apply Qv.field1); exact rfl; exact rfl)
      | ((with_reducible apply Qv.fieldN); exact rfl; (focus ((try simp only [nl, Nat.reduceAdd, Nat.reduceMul, Int.reduceToNat]); try exact rfl)))
      | ((with_reducible apply Qv.index1); exact rfl; exact rfl; (first | decide | omega | (constructor <;> omega)); exact rfl)
      | ((with_reducible first | apply Qv.add | apply Qv.sub | apply Qv.mul); exact rfl; exact rfl; (first | exact wr64 (by omega) (by omega) (by (try simp only [Int.reduceAdd, Int.reduceSub, Int.reduceMul]); exact rfl) | exact wru64 (by omega) (by omega) (by (try simp only [Int.reduceAdd, Int.reduceSub, Int.reduceMul]); exact rfl) | exact rfl))
      | ((with_reducible apply Qv.conv); exact rfl; (first | exact wr64 (by omega) (by omega) (by (try simp only [Int.reduceAdd, Int.reduceSub, Int.reduceMul]); exact rfl) | exact wru64 (by omega) (by omega) (by (try simp only [Int.reduceAdd, Int.reduceSub, Int.reduceMul]); exact rfl) | exact rfl))
      | ((with_reducible first | apply Qv.eqlB | apply Qv.neqB); exact rfl; exact rfl)
      | ((with_reducible first | apply Qv.buildA | apply Qv.buildS); exact rfl; (simp only [bfill, nl, Nat.reduceAdd, Nat.reduceMul, Int.reduceToNat]; exact rfl))
      | ((with_reducible apply Qv.quoP); exact rfl; exact rfl; (first | decide | omega); (omega); (first | exact wr64 (by omega) (by omega) rfl | exact wru64 (by omega) (by omega) rfl))
      | ((with_reducible apply Qv.remP); exact rfl; exact rfl; (first | decide | omega); omega)
      | ((with_reducible apply Qv.rem); exact rfl; exact rfl; (first | decide | omega); exact rfl)
      | ((with_reducible apply Qv.quo); exact rfl; exact rfl; (first | decide | omega); (first | exact wr64 (by omega) (by omega) (by (try simp only [Int.reduceAdd, Int.reduceSub, Int.reduceMul]); exact rfl) | exact wru64 (by omega) (by omega) (by (try simp only [Int.reduceAdd, Int.reduceSub, Int.reduceMul]); exact rfl) | exact rfl))
      | ((with_reducible apply Qv.shl); exact rfl; exact rfl; (first | decide | omega); (first | (first | exact wr64 (by omega) (by omega) (by (try simp only [Int.reduceAdd, Int.reduceSub, Int.reduceMul]); exact rfl) | exact wru64 (by omega) (by omega) (by (try simp only [Int.reduceAdd, Int.reduceSub, Int.reduceMul]); exact rfl) | exact rfl) | exact rfl))
      | ((with_reducible apply Qv.shr); exact rfl; exact rfl; (first | decide | omega); exact rfl)
      | ((with_reducible apply Qv.lenS); exact rfl)
      | ((with_reducible apply Qv.lenStr); exact rfl)
      | ((with_reducible apply Qv.capS); exact rfl)
      | ((with_reducible apply Qv.max); exact rfl; exact rfl)
      | ((with_reducible apply Qv.min); exact rfl; exact rfl)))
    | ((with_reducible apply J.q1); exact rfl; focus (first
      | ((with_reducible apply Qr.load1); exact rfl; (repeat (first | with_reducible exact In.here | with_reducible apply In.there)); exact rfl)
      | ((with_reducible apply Qr.loadN); exact rfl; (repeat (first | with_reducible exact In.here | with_reducible apply In.there)); (focus ((try simp only [nl, Nat.reduceAdd, Nat.reduceMul, Int.reduceToNat]); try exact rfl)); (focus (first | (simp only [nl, Nat.reduceAdd, Nat.reduceMul, Int.reduceToNat]; done) | exact rfl)))
      | ((with_reducible apply Qr.row1); exact rfl; (repeat (first | with_reducible exact In.here | with_reducible apply In.there)); exact rfl)
      | ((with_reducible apply Qr.rowN); exact rfl; (repeat (first | with_reducible exact In.here | with_reducible apply In.there)); (focus ((try simp only [nl, Nat.reduceAdd, Nat.reduceMul, Int.reduceToNat]); try exact rfl)); exact rfl)
      | ((with_reducible apply Qr.lenRow); exact rfl; (repeat (first | with_reducible exact In.here | with_reducible apply In.there)))))
    | ((with_reducible apply J.guard_on); exact rfl; exact rfl)
    | ((with_reducible apply J.guard_off); exact rfl; exact rfl; exact rfl; exact rfl)
    | ((with_reducible apply J.guard_off_none); exact rfl; exact rfl; exact rfl)
    | ((with_reducible apply J.gsplit); exact rfl; exact rfl)
    | ((with_reducible apply J.list); focus (first
      | ((with_reducible apply J.allocW); exact rfl; exact rfl; intro _)
      | ((with_reducible apply J.givesW (alive18)); exact rfl; exact rfl)
      | ((with_reducible apply J.givesP (mul_r _ (cp p))); exact rfl; exact rfl; (refine ⟨ha, ?_⟩; unfold Wo; omega))
      | ((with_reducible apply J.givesP (mul_r (spv a p) 10000)); exact rfl; exact rfl; (refine ⟨spv_wd p ha, ?_⟩; unfold Wo; omega))
      | ((with_reducible apply J.givesP (spread _ _)); exact rfl; exact rfl; (exact ha))
      | ((with_reducible apply J.givesP (offer _ _)); exact rfl; exact rfl; (exact ha))
      | ((with_reducible apply J.givesP (add_r _ _)); exact rfl; exact rfl; (exact ⟨hl, ha⟩))
      | ((with_reducible apply J.givesP (covers _ _ _)); exact rfl; exact rfl; (exact ⟨hv, hl, ha⟩))
      | ((with_reducible apply J.givesP (Ref.cmp _ _)); exact rfl; exact rfl; (refine ⟨?_, ?_⟩ <;> (first | exact ha | exact hv | exact ofv_wd _ ha | exact spv_wd _ ha | exact wmul_wd ha hc.1 | exact wmul_wd (spv_wd _ ha) (by omega) | exact wadd_wd hl ha | exact wsub_wd (wmul_wd ha hc.1) (wmul_wd (spv_wd _ ha) (by omega)) | exact wsub_wd ha (spv_wd _ ha) | (unfold Wd; omega))))
      | ((with_reducible apply J.givesP (points _)); exact rfl; exact rfl; (exact hr))
      | ((with_reducible apply J.givesP (sub_r _ _)); exact rfl; exact rfl; (refine ⟨?_, ?_⟩ <;> (first | exact ha | exact hv | exact ofv_wd _ ha | exact spv_wd _ ha | exact wmul_wd ha hc.1 | exact wmul_wd (spv_wd _ ha) (by omega) | exact wadd_wd hl ha | exact wsub_wd (wmul_wd ha hc.1) (wmul_wd (spv_wd _ ha) (by omega)) | exact wsub_wd ha (spv_wd _ ha) | (unfold Wd; omega))))
      | ((with_reducible apply J.buildSlice); exact rfl; exact rfl; exact rfl; exact rfl; exact rfl; (simp only [bfill, rep, List.replicate_succ, List.replicate_zero, List.flatten_cons, List.flatten_nil, nl, Nat.reduceAdd, Nat.reduceMul, Int.reduceToNat]; exact rfl); intro _)
      | ((with_reducible apply J.buildSlice0); exact rfl; intro _)
      | ((with_reducible apply J.append); exact rfl; exact rfl; (repeat (first | with_reducible exact Out.here | with_reducible apply Out.there)); exact rfl; (repeat (first | with_reducible exact In.here | with_reducible apply In.there)); (focus ((try simp only [nl, Nat.reduceAdd, Nat.reduceMul, Int.reduceToNat]); try exact rfl)); exact rfl; exact rfl; exact rfl; exact rfl; exact rfl; (first | decide | (simp only [maxLen]; omega) | omega); (first | decide | (simp only [maxLen]; omega) | omega); intro _)
      | ((with_reducible apply J.appendNil); exact rfl; exact rfl; exact rfl; (repeat (first | with_reducible exact In.here | with_reducible apply In.there)); (focus ((try simp only [nl, Nat.reduceAdd, Nat.reduceMul, Int.reduceToNat]); try exact rfl)); exact rfl; exact rfl; exact rfl; exact rfl; exact rfl; (first | decide | (simp only [maxLen]; omega) | omega); (first | decide | (simp only [maxLen]; omega) | omega); intro _)
      | ((with_reducible apply J.boxN); exact rfl; exact rfl; intro _)
      | ((with_reducible apply J.box1); exact rfl; exact rfl; exact rfl; intro _)
      | ((with_reducible apply J.alloc); exact rfl; intro _)
      | ((with_reducible apply J.storeN); exact rfl; exact rfl; (repeat (first | with_reducible exact Upd.here | with_reducible apply Upd.there)); (focus ((try simp only [nl, Nat.reduceAdd, Nat.reduceMul, Int.reduceToNat]); try exact rfl)); (focus (first | (simp only [nl, Nat.reduceAdd, Nat.reduceMul, Int.reduceToNat]; done) | exact rfl)); (focus (first | (simp only [nl, Nat.reduceAdd, Nat.reduceMul, Int.reduceToNat]; done) | (simp only [nl, Nat.reduceAdd, Nat.reduceMul, Int.reduceToNat]; omega) | decide)); (first | (with_reducible exact wvs_ones _ _) | exact rfl))
      | ((with_reducible apply J.store1); exact rfl; exact rfl; exact rfl; (repeat (first | with_reducible exact Upd.here | with_reducible apply Upd.there)); (focus ((try simp only [nl, Nat.reduceAdd, Nat.reduceMul, Int.reduceToNat]); try exact rfl)); (first | decide | (simp only [nl, Nat.reduceAdd, Nat.reduceMul, Int.reduceToNat]; omega)))))
    | ((with_reducible apply J.cond_true); exact rfl)
    | ((with_reducible apply J.cond_false); exact rfl)
    | ((with_reducible apply J.cond); exact rfl)
    | (intro h; exfalso; (first | (simp at h; done) | (simp [hF] at h; done) | (simp [hF] at h; omega) | (simp [e1, e2, e3, e4, e5, e6, wcmp_le, wcmp_ge] at h; omega) | (simp [e1, e2, e3, e4, e5, e6] at h; done) | (simp_all [wcmp_le, wcmp_ge, wadd]; done) | (simp_all [wcmp_le, wcmp_ge, wadd]; omega) | omega))
    | (intro h; (try simp only [decide_eq_true_eq, decide_eq_false_iff_not, beq_iff_eq, beq_eq_false_iff_ne, Bool.not_eq_true', Bool.not_eq_false', bne_iff_ne, bne_eq_false_iff_eq, ne_eq, ge_iff_le, gt_iff_lt] at h))
    | (with_reducible apply J.cret)
    | ((with_reducible apply J.ret); exact rfl; exact rfl; (repeat (first | (with_reducible exact Res.nil) | ((with_reducible apply Res.tmp); exact rfl) | ((with_reducible apply Res.cell1); exact rfl; (repeat (first | with_reducible exact In.here | with_reducible apply In.there)); exact rfl) | ((with_reducible apply Res.cellN); exact rfl; (repeat (first | with_reducible exact In.here | with_reducible apply In.there)); (focus ((try simp only [nl, Nat.reduceAdd, Nat.reduceMul, Int.reduceToNat]); try exact rfl)); (focus (first | (simp only [nl, Nat.reduceAdd, Nat.reduceMul, Int.reduceToNat]; done) | exact rfl))))); exact rfl)
    | ((with_reducible apply J.ret_normal); exact rfl; exact rfl; (repeat (first | (with_reducible exact Res.nil) | ((with_reducible apply Res.tmp); exact rfl) | ((with_reducible apply Res.cell1); exact rfl; (repeat (first | with_reducible exact In.here | with_reducible apply In.there)); exact rfl) | ((with_reducible apply Res.cellN); exact rfl; (repeat (first | with_reducible exact In.here | with_reducible apply In.there)); (focus ((try simp only [nl, Nat.reduceAdd, Nat.reduceMul, Int.reduceToNat]); try exact rfl)); (focus (first | (simp only [nl, Nat.reduceAdd, Nat.reduceMul, Int.reduceToNat]; done) | exact rfl))))); exact rfl)
    | (with_reducible apply J.gave')
    | ((with_reducible apply J.kept'); rotate_left; (repeat (first | (with_reducible exact Outs.nil) | ((with_reducible apply Outs.cons); (repeat (first | with_reducible exact Out.here | with_reducible apply Out.there))))))
    | (with_reducible apply J.exit)
    | (with_reducible apply J.then_ret)
    | (with_reducible apply J.then_exit)
    | (with_reducible apply J.then_panic)
    | (with_reducible apply J.blk_ret)
    | (with_reducible apply J.blk_panic)
    | (with_reducible apply J.blk_exit)
    | ((with_reducible apply J.blk_past); exact rfl)
  all_goals ((first | (simp [retv, hF, hO, hV, e6]; done) | (exfalso; simp_all; omega) | (simp_all [retv]; done) | (trace_state; fail)))
theorem QuoteTells {r : Reach} {b0 : Nat} {H : Type} {enc : TypeId × Value → H} {spare : Nat → Bool} {held : Bool} {d d2 d3 : DataW H} {q q2 q3 : List MemPlace} (u : Value) (p : Int) (u2 u3 : Value) (ro : Int) (W : World) (o : Value.okWide Try.prog W r b0 32 u) (t : DataW.Trod enc Try.prog W 0 spare held 32 u d q) (h1 : (Lit.int .i64 p).wf = true) (o2 : Value.okWide Try.prog W r b0 32 u2) (t2 : DataW.Trod enc Try.prog W 0 spare held 32 u2 d2 q2) (o3 : Value.okWide Try.prog W r b0 32 u3) (t3 : DataW.Trod enc Try.prog W 0 spare held 32 u3 d3 q3) (h4 : (Lit.int .i64 ro).wf = true) :
    Calls Try.prog 22 #[u, .int .i64 p, u2, u3, .int .i64 ro] W fun e w' => e = .returned (.bool true) ∧ Below W.heap.size W w' := by
  obtain ⟨c, rfl, rr⟩ := in_agg (L := wsh) (k := 3) o t (by kernel_rfl) (by kernel_rfl)
  obtain ⟨a, ha, rfl⟩ := reads_wv rr
  obtain ⟨c2, rfl, rr2⟩ := in_agg (L := wsh) (k := 3) o2 t2 (by kernel_rfl) (by kernel_rfl)
  obtain ⟨v, hv, rfl⟩ := reads_wv rr2
  obtain ⟨c3, rfl, rr3⟩ := in_agg (L := wsh) (k := 3) o3 t3 (by kernel_rfl) (by kernel_rfl)
  obtain ⟨x, hx, rfl⟩ := reads_wv rr3
  have hr := wfi64 h4
  by_cases hD : a * cp p < 115792089237316195423570985008687907853269984665640564039457584007913129639936
  · exact (qt_t a p v x ro ha hv hx hr hD W).below
  · exact (qt_f a p v x ro ha hv hx hr hD W).below
end Go.Proofs.Ytnbckkpflmpnlaa.Quote2
