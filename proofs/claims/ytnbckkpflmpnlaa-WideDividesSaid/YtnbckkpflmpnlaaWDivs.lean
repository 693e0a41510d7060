/-
  The law WideDivides. No conditions.
-/
import Derived.Test.YtnbckkpflmpnlaaWDiv
namespace Go.Proofs.Ytnbckkpflmpnlaa.WDivs
open Go Go.RowKit Eng
set_option linter.unusedVariables false
set_option maxRecDepth 100000
set_option linter.unusedSimpArgs false
open Wide Ref Cmp WMul MulR WDiv
set_option maxHeartbeats 2000000
theorem wd_0 (a : Int) (ha : Wd a) (w : World) : CSpec Try.prog 16 [.agg (wv a).toArray, .int .u64 0] [] w (Gives (.bool true)) := by
  refine spec_of Try.func16 rfl Try.ntmps16 rfl (l0 := [(0, .agg (wv a).toArray), (1, .int .u64 0)]) rfl ?_
  intro fp
  repeat' first
    | (with_reducible apply J.seq)
    | (with_reducible apply J.region_lit)
    | (with_reducible apply J.ops_nil)
    | (with_reducible apply J.app_cons)
    | (with_reducible apply J.app_nil)
    | (with_reducible apply J.then_)
    | (with_reducible apply J.blk_)
    | (with_reducible apply J.skip)
    | (with_reducible apply J.block)
    | ((with_reducible apply J.q0); exact rfl; focus (first
      | ((with_reducible apply Qv.buildW); exact rfl; exact rfl; (first | with_reducible assumption | (unfold Wo; omega) | (simp only [Wd, Wo] at *; omega)))
      | ((with_reducible apply Qv.buildW0); exact rfl; exact rfl)
      | ((with_reducible apply Qv.eqlA); exact rfl; exact rfl; (kernel_rfl); (refine weq _ _ (And.intro ?_ ?_) <;> (first | exact ha | exact wadd_wd hq1 hr | (unfold Wd; omega))))
      | ((with_reducible apply Qv.pure); exact rfl)
      | ((with_reducible apply Qv.fieldAddr); exact rfl; (focus ((try simp only [nl, Nat.reduceAdd, Nat.reduceMul, Int.reduceToNat]); try exact rfl)))
      | ((with_reducible first | apply Qv.indexArr | apply Qv.indexBlk | apply Qv.indexN); exact rfl; exact rfl; (first | decide | omega | (constructor <;> omega)); (focus ((try simp only [nl, Nat.reduceAdd, Nat.reduceMul, Int.reduceToNat]); try exact rfl)))
      | ((with_reducible apply Qv.field1); exact rfl; exact rfl)
      | ((with_reducible apply Qv.fieldN); exact rfl; (focus ((try simp only [nl, Nat.reduceAdd, Nat.reduceMul, Int.reduceToNat]); try exact rfl)))
      | ((with_reducible apply Qv.index1); exact rfl; exact rfl; (first | decide | omega | (constructor <;> omega)); exact rfl)
      | ((with_reducible first | apply Qv.add | apply Qv.sub | apply Qv.mul); exact rfl; exact rfl; (first | exact wr64 (by omega) (by omega) (by (try simp only [Int.reduceAdd, Int.reduceSub, Int.reduceMul]); exact rfl) | exact wru64 (by omega) (by omega) (by (try simp only [Int.reduceAdd, Int.reduceSub, Int.reduceMul]); exact rfl) | exact rfl))
      | ((with_reducible apply Qv.conv); exact rfl; (first | exact wr64 (by omega) (by omega) (by (try simp only [Int.reduceAdd, Int.reduceSub, Int.reduceMul]); exact rfl) | exact wru64 (by omega) (by omega) (by (try simp only [Int.reduceAdd, Int.reduceSub, Int.reduceMul]); exact rfl) | exact rfl))
      | ((with_reducible first | apply Qv.eqlB | apply Qv.neqB); exact rfl; exact rfl)
      | ((with_reducible first | apply Qv.buildA | apply Qv.buildS); exact rfl; (simp only [bfill, nl, Nat.reduceAdd, Nat.reduceMul, Int.reduceToNat]; exact rfl))
      | ((with_reducible apply Qv.quoP); exact rfl; exact rfl; (first | decide | omega); (omega); (first | exact wr64 (by omega) (by omega) rfl | exact wru64 (by omega) (by omega) rfl))
      | ((with_reducible apply Qv.remP); exact rfl; exact rfl; (first | decide | omega); omega)
      | ((with_reducible apply Qv.rem); exact rfl; exact rfl; (first | decide | omega); exact rfl)
      | ((with_reducible apply Qv.quo); exact rfl; exact rfl; (first | decide | omega); (first | exact wr64 (by omega) (by omega) (by (try simp only [Int.reduceAdd, Int.reduceSub, Int.reduceMul]); exact rfl) | exact wru64 (by omega) (by omega) (by (try simp only [Int.reduceAdd, Int.reduceSub, Int.reduceMul]); exact rfl) | exact rfl))
      | ((with_reducible apply Qv.shl); exact rfl; exact rfl; (first | decide | omega); (first | (first | exact wr64 (by omega) (by omega) (by (try simp only [Int.reduceAdd, Int.reduceSub, Int.reduceMul]); exact rfl) | exact wru64 (by omega) (by omega) (by (try simp only [Int.reduceAdd, Int.reduceSub, Int.reduceMul]); exact rfl) | exact rfl) | exact rfl))
      | ((with_reducible apply Qv.shr); exact rfl; exact rfl; (first | decide | omega); exact rfl)
      | ((with_reducible apply Qv.lenS); exact rfl)
      | ((with_reducible apply Qv.lenStr); exact rfl)
      | ((with_reducible apply Qv.capS); exact rfl)
      | ((with_reducible apply Qv.max); exact rfl; exact rfl)
      | ((with_reducible apply Qv.min); exact rfl; exact rfl)))
    | ((with_reducible apply J.q1); exact rfl; focus (first
      | ((with_reducible apply Qr.load1); exact rfl; (repeat (first | with_reducible exact In.here | with_reducible apply In.there)); exact rfl)
      | ((with_reducible apply Qr.loadN); exact rfl; (repeat (first | with_reducible exact In.here | with_reducible apply In.there)); (focus ((try simp only [nl, Nat.reduceAdd, Nat.reduceMul, Int.reduceToNat]); try exact rfl)); (focus (first | (simp only [nl, Nat.reduceAdd, Nat.reduceMul, Int.reduceToNat]; done) | exact rfl)))
      | ((with_reducible apply Qr.row1); exact rfl; (repeat (first | with_reducible exact In.here | with_reducible apply In.there)); exact rfl)
      | ((with_reducible apply Qr.rowN); exact rfl; (repeat (first | with_reducible exact In.here | with_reducible apply In.there)); (focus ((try simp only [nl, Nat.reduceAdd, Nat.reduceMul, Int.reduceToNat]); try exact rfl)); exact rfl)
      | ((with_reducible apply Qr.lenRow); exact rfl; (repeat (first | with_reducible exact In.here | with_reducible apply In.there)))))
    | ((with_reducible apply J.guard_on); exact rfl; exact rfl)
    | ((with_reducible apply J.guard_off); exact rfl; exact rfl; exact rfl; exact rfl)
    | ((with_reducible apply J.guard_off_none); exact rfl; exact rfl; exact rfl)
    | ((with_reducible apply J.gsplit); exact rfl; exact rfl)
    | ((with_reducible apply J.list); focus (first
      | ((with_reducible apply J.allocW); exact rfl; exact rfl; intro _)
      | ((with_reducible apply J.givesW (Wide.alive)); exact rfl; exact rfl)
      | ((with_reducible apply J.givesW (div_0 _)); exact rfl; exact rfl)
      | ((with_reducible apply J.buildSlice); exact rfl; exact rfl; exact rfl; exact rfl; exact rfl; (simp only [bfill, rep, List.replicate_succ, List.replicate_zero, List.flatten_cons, List.flatten_nil, nl, Nat.reduceAdd, Nat.reduceMul, Int.reduceToNat]; exact rfl); intro _)
      | ((with_reducible apply J.buildSlice0); exact rfl; intro _)
      | ((with_reducible apply J.append); exact rfl; exact rfl; (repeat (first | with_reducible exact Out.here | with_reducible apply Out.there)); exact rfl; (repeat (first | with_reducible exact In.here | with_reducible apply In.there)); (focus ((try simp only [nl, Nat.reduceAdd, Nat.reduceMul, Int.reduceToNat]); try exact rfl)); exact rfl; exact rfl; exact rfl; exact rfl; exact rfl; (first | decide | (simp only [maxLen]; omega) | omega); (first | decide | (simp only [maxLen]; omega) | omega); intro _)
      | ((with_reducible apply J.appendNil); exact rfl; exact rfl; exact rfl; (repeat (first | with_reducible exact In.here | with_reducible apply In.there)); (focus ((try simp only [nl, Nat.reduceAdd, Nat.reduceMul, Int.reduceToNat]); try exact rfl)); exact rfl; exact rfl; exact rfl; exact rfl; exact rfl; (first | decide | (simp only [maxLen]; omega) | omega); (first | decide | (simp only [maxLen]; omega) | omega); intro _)
      | ((with_reducible apply J.boxN); exact rfl; exact rfl; intro _)
      | ((with_reducible apply J.box1); exact rfl; exact rfl; exact rfl; intro _)
      | ((with_reducible apply J.alloc); exact rfl; intro _)
      | ((with_reducible apply J.storeN); exact rfl; exact rfl; (repeat (first | with_reducible exact Upd.here | with_reducible apply Upd.there)); (focus ((try simp only [nl, Nat.reduceAdd, Nat.reduceMul, Int.reduceToNat]); try exact rfl)); (focus (first | (simp only [nl, Nat.reduceAdd, Nat.reduceMul, Int.reduceToNat]; done) | exact rfl)); (focus (first | (simp only [nl, Nat.reduceAdd, Nat.reduceMul, Int.reduceToNat]; done) | (simp only [nl, Nat.reduceAdd, Nat.reduceMul, Int.reduceToNat]; omega) | decide)); (first | (with_reducible exact wvs_ones _ _) | exact rfl))
      | ((with_reducible apply J.store1); exact rfl; exact rfl; exact rfl; (repeat (first | with_reducible exact Upd.here | with_reducible apply Upd.there)); (focus ((try simp only [nl, Nat.reduceAdd, Nat.reduceMul, Int.reduceToNat]); try exact rfl)); (first | decide | (simp only [nl, Nat.reduceAdd, Nat.reduceMul, Int.reduceToNat]; omega)))))
    | ((with_reducible apply J.cond_true); exact rfl)
    | ((with_reducible apply J.cond_false); exact rfl)
    | ((with_reducible apply J.cond); exact rfl)
    | (intro h; exfalso; (first | (simp at h; done) | (simp at h; omega) | omega))
    | (intro h; (try simp only [decide_eq_true_eq, decide_eq_false_iff_not, beq_iff_eq, beq_eq_false_iff_ne, Bool.not_eq_true', Bool.not_eq_false', bne_iff_ne, bne_eq_false_iff_eq, ne_eq, ge_iff_le, gt_iff_lt] at h))
    | (with_reducible apply J.cret)
    | ((with_reducible apply J.ret); exact rfl; exact rfl; (repeat (first | (with_reducible exact Res.nil) | ((with_reducible apply Res.tmp); exact rfl) | ((with_reducible apply Res.cell1); exact rfl; (repeat (first | with_reducible exact In.here | with_reducible apply In.there)); exact rfl) | ((with_reducible apply Res.cellN); exact rfl; (repeat (first | with_reducible exact In.here | with_reducible apply In.there)); (focus ((try simp only [nl, Nat.reduceAdd, Nat.reduceMul, Int.reduceToNat]); try exact rfl)); (focus (first | (simp only [nl, Nat.reduceAdd, Nat.reduceMul, Int.reduceToNat]; done) | exact rfl))))); exact rfl)
    | ((with_reducible apply J.ret_normal); exact rfl; exact rfl; (repeat (first | (with_reducible exact Res.nil) | ((with_reducible apply Res.tmp); exact rfl) | ((with_reducible apply Res.cell1); exact rfl; (repeat (first | with_reducible exact In.here | with_reducible apply In.there)); exact rfl) | ((with_reducible apply Res.cellN); exact rfl; (repeat (first | with_reducible exact In.here | with_reducible apply In.there)); (focus ((try simp only [nl, Nat.reduceAdd, Nat.reduceMul, Int.reduceToNat]); try exact rfl)); (focus (first | (simp only [nl, Nat.reduceAdd, Nat.reduceMul, Int.reduceToNat]; done) | exact rfl))))); exact rfl)
    | (with_reducible apply J.gave')
    | ((with_reducible apply J.kept'); rotate_left; (repeat (first | (with_reducible exact Outs.nil) | ((with_reducible apply Outs.cons); (repeat (first | with_reducible exact Out.here | with_reducible apply Out.there))))))
    | (with_reducible apply J.exit)
    | (with_reducible apply J.then_ret)
    | (with_reducible apply J.then_exit)
    | (with_reducible apply J.then_panic)
    | (with_reducible apply J.blk_ret)
    | (with_reducible apply J.blk_panic)
    | (with_reducible apply J.blk_exit)
    | ((with_reducible apply J.blk_past); exact rfl)
  all_goals ((first | rfl | (trace_state; fail)))
theorem wd_t (a n : Int) (ha : Wd a) (hn : Wo n) (hn0 : 0 < n) (w : World) : CSpec Try.prog 16 [.agg (wv a).toArray, .int .u64 n] [] w (Gives (.bool true)) := by
  have h1 := Int.mul_ediv_add_emod a n
  have h2 := Int.emod_nonneg a (show n ≠ 0 by omega)
  have h3 := Int.emod_lt_of_pos a hn0
  have hq : Wd (a / n) := ⟨Int.ediv_nonneg ha.1 (by omega), Int.lt_of_le_of_lt (Int.ediv_le_self n ha.1) ha.2⟩
  have h4 : a / n * n = n * (a / n) := Int.mul_comm _ _
  have h5 : 0 ≤ a / n * n := Int.mul_nonneg hq.1 (by omega)
  have hr : Wd (a % n) := by unfold Wo at hn; unfold Wd; omega
  have h6 : a / n * n < 115792089237316195423570985008687907853269984665640564039457584007913129639936 := by unfold Wd at ha; omega
  have e1 : wmul (a / n) n = a / n * n := if_pos h6
  have e2 : wadd (a / n * n) (a % n) = a := by rw [wadd_lt (by unfold Wd at ha; omega)]; omega
  have hq1 : Wd (wmul (a / n) n) := by rw [e1]; unfold Wd; omega
  have e3 : a / n * n + a % n < 115792089237316195423570985008687907853269984665640564039457584007913129639936 := by unfold Wd at ha; omega
  refine spec_of Try.func16 rfl Try.ntmps16 rfl (l0 := [(0, .agg (wv a).toArray), (1, .int .u64 n)]) rfl ?_
  intro fp
  repeat' first
    | (with_reducible apply J.seq)
    | (with_reducible apply J.region_lit)
    | (with_reducible apply J.ops_nil)
    | (with_reducible apply J.app_cons)
    | (with_reducible apply J.app_nil)
    | (with_reducible apply J.then_)
    | (with_reducible apply J.blk_)
    | (with_reducible apply J.skip)
    | (with_reducible apply J.block)
    | ((with_reducible apply J.q0); exact rfl; focus (first
      | ((with_reducible apply Qv.buildW); exact rfl; exact rfl; (first | with_reducible assumption | (unfold Wo; omega) | (simp only [Wd, Wo] at *; omega)))
      | ((with_reducible apply Qv.buildW0); exact rfl; exact rfl)
      | ((with_reducible apply Qv.eqlA); exact rfl; exact rfl; (kernel_rfl); (refine weq _ _ (And.intro ?_ ?_) <;> (first | exact ha | exact wadd_wd hq1 hr | (unfold Wd; omega))))
      | ((with_reducible apply Qv.pure); exact rfl)
      | ((with_reducible apply Qv.fieldAddr); exact rfl; (focus ((try simp only [nl, Nat.reduceAdd, Nat.reduceMul, Int.reduceToNat]); try exact rfl)))
      | ((with_reducible first | apply Qv.indexArr | apply Qv.indexBlk | apply Qv.indexN); exact rfl; exact rfl; (first | decide | omega | (constructor <;> omega)); (focus ((try simp only [nl, Nat.reduceAdd, Nat.reduceMul, Int.reduceToNat]); try exact rfl)))
      | ((with_reducible apply Qv.field1); exact rfl; exact rfl)
      | ((with_reducible apply Qv.fieldN); exact rfl; (focus ((try simp only [nl, Nat.reduceAdd, Nat.reduceMul, Int.reduceToNat]); try exact rfl)))
      | ((with_reducible apply Qv.index1); exact rfl; exact rfl; (first | decide | omega | (constructor <;> omega)); exact rfl)
      | ((with_reducible first | apply Qv.add | apply Qv.sub | apply Qv.mul); exact rfl; exact rfl; (first | exact wr64 (by omega) (by omega) (by (try simp only [Int.reduceAdd, Int.reduceSub, Int.reduceMul]); exact rfl) | exact wru64 (by omega) (by omega) (by (try simp only [Int.reduceAdd, Int.reduceSub, Int.reduceMul]); exact rfl) | exact rfl))
      | ((with_reducible apply Qv.conv); exact rfl; (first | exact wr64 (by omega) (by omega) (by (try simp only [Int.reduceAdd, Int.reduceSub, Int.reduceMul]); exact rfl) | exact wru64 (by omega) (by omega) (by (try simp only [Int.reduceAdd, Int.reduceSub, Int.reduceMul]); exact rfl) | exact rfl))
      | ((with_reducible first | apply Qv.eqlB | apply Qv.neqB); exact rfl; exact rfl)
      | ((with_reducible first | apply Qv.buildA | apply Qv.buildS); exact rfl; (simp only [bfill, nl, Nat.reduceAdd, Nat.reduceMul, Int.reduceToNat]; exact rfl))
      | ((with_reducible apply Qv.quoP); exact rfl; exact rfl; (first | decide | omega); (omega); (first | exact wr64 (by omega) (by omega) rfl | exact wru64 (by omega) (by omega) rfl))
      | ((with_reducible apply Qv.remP); exact rfl; exact rfl; (first | decide | omega); omega)
      | ((with_reducible apply Qv.rem); exact rfl; exact rfl; (first | decide | omega); exact rfl)
      | ((with_reducible apply Qv.quo); exact rfl; exact rfl; (first | decide | omega); (first | exact wr64 (by omega) (by omega) (by (try simp only [Int.reduceAdd, Int.reduceSub, Int.reduceMul]); exact rfl) | exact wru64 (by omega) (by omega) (by (try simp only [Int.reduceAdd, Int.reduceSub, Int.reduceMul]); exact rfl) | exact rfl))
      | ((with_reducible apply Qv.shl); exact rfl; exact rfl; (first | decide | omega); (first | (first | exact wr64 (by omega) (by omega) (by (try simp only [Int.reduceAdd, Int.reduceSub, Int.reduceMul]); exact rfl) | exact wru64 (by omega) (by omega) (by (try simp only [Int.reduceAdd, Int.reduceSub, Int.reduceMul]); exact rfl) | exact rfl) | exact rfl))
      | ((with_reducible apply Qv.shr); exact rfl; exact rfl; (first | decide | omega); exact rfl)
      | ((with_reducible apply Qv.lenS); exact rfl)
      | ((with_reducible apply Qv.lenStr); exact rfl)
      | ((with_reducible apply Qv.capS); exact rfl)
      | ((with_reducible apply Qv.max); exact rfl; exact rfl)
      | ((with_reducible apply Qv.min); exact rfl; exact rfl)))
    | ((with_reducible apply J.q1); exact rfl; focus (first
      | ((with_reducible apply Qr.load1); exact rfl; (repeat (first | with_reducible exact In.here | with_reducible apply In.there)); exact rfl)
      | ((with_reducible apply Qr.loadN); exact rfl; (repeat (first | with_reducible exact In.here | with_reducible apply In.there)); (focus ((try simp only [nl, Nat.reduceAdd, Nat.reduceMul, Int.reduceToNat]); try exact rfl)); (focus (first | (simp only [nl, Nat.reduceAdd, Nat.reduceMul, Int.reduceToNat]; done) | exact rfl)))
      | ((with_reducible apply Qr.row1); exact rfl; (repeat (first | with_reducible exact In.here | with_reducible apply In.there)); exact rfl)
      | ((with_reducible apply Qr.rowN); exact rfl; (repeat (first | with_reducible exact In.here | with_reducible apply In.there)); (focus ((try simp only [nl, Nat.reduceAdd, Nat.reduceMul, Int.reduceToNat]); try exact rfl)); exact rfl)
      | ((with_reducible apply Qr.lenRow); exact rfl; (repeat (first | with_reducible exact In.here | with_reducible apply In.there)))))
    | ((with_reducible apply J.guard_on); exact rfl; exact rfl)
    | ((with_reducible apply J.guard_off); exact rfl; exact rfl; exact rfl; exact rfl)
    | ((with_reducible apply J.guard_off_none); exact rfl; exact rfl; exact rfl)
    | ((with_reducible apply J.gsplit); exact rfl; exact rfl)
    | ((with_reducible apply J.list); focus (first
      | ((with_reducible apply J.allocW); exact rfl; exact rfl; intro _)
      | ((with_reducible apply J.givesW (Wide.alive)); exact rfl; exact rfl)
      | ((with_reducible apply J.givesP (div_t _ _)); exact rfl; exact rfl; (first | exact ⟨ha, hn, hn0⟩ | exact ⟨hq, hn⟩ | exact ⟨hq1, hr⟩ | (refine ⟨?_, ?_⟩ <;> (unfold Wd; omega))))
      | ((with_reducible apply J.givesP (mul_r _ _)); exact rfl; exact rfl; (first | exact ⟨ha, hn, hn0⟩ | exact ⟨hq, hn⟩ | exact ⟨hq1, hr⟩ | (refine ⟨?_, ?_⟩ <;> (unfold Wd; omega))))
      | ((with_reducible apply J.givesP (add_r _ _)); exact rfl; exact rfl; (first | exact ⟨ha, hn, hn0⟩ | exact ⟨hq, hn⟩ | exact ⟨hq1, hr⟩ | (refine ⟨?_, ?_⟩ <;> (unfold Wd; omega))))
      | ((with_reducible apply J.buildSlice); exact rfl; exact rfl; exact rfl; exact rfl; exact rfl; (simp only [bfill, rep, List.replicate_succ, List.replicate_zero, List.flatten_cons, List.flatten_nil, nl, Nat.reduceAdd, Nat.reduceMul, Int.reduceToNat]; exact rfl); intro _)
      | ((with_reducible apply J.buildSlice0); exact rfl; intro _)
      | ((with_reducible apply J.append); exact rfl; exact rfl; (repeat (first | with_reducible exact Out.here | with_reducible apply Out.there)); exact rfl; (repeat (first | with_reducible exact In.here | with_reducible apply In.there)); (focus ((try simp only [nl, Nat.reduceAdd, Nat.reduceMul, Int.reduceToNat]); try exact rfl)); exact rfl; exact rfl; exact rfl; exact rfl; exact rfl; (first | decide | (simp only [maxLen]; omega) | omega); (first | decide | (simp only [maxLen]; omega) | omega); intro _)
      | ((with_reducible apply J.appendNil); exact rfl; exact rfl; exact rfl; (repeat (first | with_reducible exact In.here | with_reducible apply In.there)); (focus ((try simp only [nl, Nat.reduceAdd, Nat.reduceMul, Int.reduceToNat]); try exact rfl)); exact rfl; exact rfl; exact rfl; exact rfl; exact rfl; (first | decide | (simp only [maxLen]; omega) | omega); (first | decide | (simp only [maxLen]; omega) | omega); intro _)
      | ((with_reducible apply J.boxN); exact rfl; exact rfl; intro _)
      | ((with_reducible apply J.box1); exact rfl; exact rfl; exact rfl; intro _)
      | ((with_reducible apply J.alloc); exact rfl; intro _)
      | ((with_reducible apply J.storeN); exact rfl; exact rfl; (repeat (first | with_reducible exact Upd.here | with_reducible apply Upd.there)); (focus ((try simp only [nl, Nat.reduceAdd, Nat.reduceMul, Int.reduceToNat]); try exact rfl)); (focus (first | (simp only [nl, Nat.reduceAdd, Nat.reduceMul, Int.reduceToNat]; done) | exact rfl)); (focus (first | (simp only [nl, Nat.reduceAdd, Nat.reduceMul, Int.reduceToNat]; done) | (simp only [nl, Nat.reduceAdd, Nat.reduceMul, Int.reduceToNat]; omega) | decide)); (first | (with_reducible exact wvs_ones _ _) | exact rfl))
      | ((with_reducible apply J.store1); exact rfl; exact rfl; exact rfl; (repeat (first | with_reducible exact Upd.here | with_reducible apply Upd.there)); (focus ((try simp only [nl, Nat.reduceAdd, Nat.reduceMul, Int.reduceToNat]); try exact rfl)); (first | decide | (simp only [nl, Nat.reduceAdd, Nat.reduceMul, Int.reduceToNat]; omega)))))
    | ((with_reducible apply J.cond_true); exact rfl)
    | ((with_reducible apply J.cond_false); exact rfl)
    | ((with_reducible apply J.cond); exact rfl)
    | (intro h; exfalso; (first | (simp at h; done) | (simp [e1, e2] at h; omega) | (simp [e1, e2] at h; done) | (rw [e1] at h; simp at h; omega) | omega))
    | (intro h; (try simp only [decide_eq_true_eq, decide_eq_false_iff_not, beq_iff_eq, beq_eq_false_iff_ne, Bool.not_eq_true', Bool.not_eq_false', bne_iff_ne, bne_eq_false_iff_eq, ne_eq, ge_iff_le, gt_iff_lt] at h))
    | (with_reducible apply J.cret)
    | ((with_reducible apply J.ret); exact rfl; exact rfl; (repeat (first | (with_reducible exact Res.nil) | ((with_reducible apply Res.tmp); exact rfl) | ((with_reducible apply Res.cell1); exact rfl; (repeat (first | with_reducible exact In.here | with_reducible apply In.there)); exact rfl) | ((with_reducible apply Res.cellN); exact rfl; (repeat (first | with_reducible exact In.here | with_reducible apply In.there)); (focus ((try simp only [nl, Nat.reduceAdd, Nat.reduceMul, Int.reduceToNat]); try exact rfl)); (focus (first | (simp only [nl, Nat.reduceAdd, Nat.reduceMul, Int.reduceToNat]; done) | exact rfl))))); exact rfl)
    | ((with_reducible apply J.ret_normal); exact rfl; exact rfl; (repeat (first | (with_reducible exact Res.nil) | ((with_reducible apply Res.tmp); exact rfl) | ((with_reducible apply Res.cell1); exact rfl; (repeat (first | with_reducible exact In.here | with_reducible apply In.there)); exact rfl) | ((with_reducible apply Res.cellN); exact rfl; (repeat (first | with_reducible exact In.here | with_reducible apply In.there)); (focus ((try simp only [nl, Nat.reduceAdd, Nat.reduceMul, Int.reduceToNat]); try exact rfl)); (focus (first | (simp only [nl, Nat.reduceAdd, Nat.reduceMul, Int.reduceToNat]; done) | exact rfl))))); exact rfl)
    | (with_reducible apply J.gave')
    | ((with_reducible apply J.kept'); rotate_left; (repeat (first | (with_reducible exact Outs.nil) | ((with_reducible apply Outs.cons); (repeat (first | with_reducible exact Out.here | with_reducible apply Out.there))))))
    | (with_reducible apply J.exit)
    | (with_reducible apply J.then_ret)
    | (with_reducible apply J.then_exit)
    | (with_reducible apply J.then_panic)
    | (with_reducible apply J.blk_ret)
    | (with_reducible apply J.blk_panic)
    | (with_reducible apply J.blk_exit)
    | ((with_reducible apply J.blk_past); exact rfl)
  all_goals ((first | rfl | (simp [retv, e1, e2, h3]; done) | (exfalso; simp [e1, e2] at *; omega) | (trace_state; fail)))
theorem WideDivides {r : Reach} {b0 : Nat} {H : Type} {enc : TypeId × Value → H} {spare : Nat → Bool} {held : Bool} {d : DataW H} {p : List MemPlace} (v : Value) (n : Int) (W : World) (o : Value.okWide Try.prog W r b0 32 v) (t : DataW.Trod enc Try.prog W 0 spare held 32 v d p) (h1 : (Lit.int .u64 n).wf = true) :
    Calls Try.prog 16 #[v, .int .u64 n] W fun e w' => e = .returned (.bool true) ∧ Below W.heap.size W w' := by
  obtain ⟨c, rfl, r⟩ := in_agg (L := wsh) (k := 3) o t (by kernel_rfl) (by kernel_rfl)
  obtain ⟨a, ha, rfl⟩ := reads_wv r
  have hn := wf_wo h1
  by_cases hz : n = 0
  · subst hz
    exact (wd_0 a ha W).below
  · exact (wd_t a n ha hn (by unfold Wo at hn; omega) W).below
end Go.Proofs.Ytnbckkpflmpnlaa.WDivs
