/-
  What a router offers. No conditions.
-/
import Derived.Test.YtnbckkpflmpnlaaWDiv
namespace Go.Proofs.Ytnbckkpflmpnlaa.Quote
open Go Go.RowKit Eng
set_option linter.unusedVariables false
set_option maxRecDepth 100000
set_option linter.unusedSimpArgs false
open Wide Ref Cmp WMul MulR WDiv
set_option maxHeartbeats 2000000
theorem wmul_wd {a n : Int} (ha : Wd a) (hn : 0 ≤ n) : Wd (wmul a n) := by
  have h1 : 0 ≤ a * n := Int.mul_nonneg ha.1 hn
  unfold wmul Wd
  split <;> omega
/-- The points that are taken. -/
def cp (p : Int) : Int := imin (imax p 0) 10000
theorem cp_bd (p : Int) : 0 ≤ cp p ∧ cp p ≤ 10000 := by
  unfold cp imin imax
  repeat' split
  all_goals omega
theorem cp_eq {p : Int} (h : 0 ≤ p ∧ p ≤ 10000) : cp p = p := by
  unfold cp imin imax
  repeat' split
  all_goals omega
theorem cp_wr (p : Int) : IntKind.u64.wrap (cp p) = cp p := by
  have := cp_bd p
  exact wru64 (by omega) (by omega) rfl
def fitsM (a p : Int) : Bool := decide (a * cp p < 115792089237316195423570985008687907853269984665640564039457584007913129639936)
/-- So many points of an amount. -/
def spv (a p : Int) : Int := if a * cp p < 115792089237316195423570985008687907853269984665640564039457584007913129639936 then a * cp p / 10000 else 0
theorem spv_bd {a : Int} (p : Int) (ha : Wd a) : 0 ≤ spv a p ∧ spv a p ≤ a := by
  have hc := cp_bd p
  unfold spv Wd at *
  split
  · have h1 : 0 ≤ a * cp p := Int.mul_nonneg ha.1 hc.1
    have h2 : a * cp p ≤ a * 10000 := Int.mul_le_mul_of_nonneg_left hc.2 ha.1
    omega
  · omega
theorem spv_wd {a : Int} (p : Int) (ha : Wd a) : Wd (spv a p) := by
  have := spv_bd p ha
  unfold Wd at *
  omega
def offok (a p : Int) : Bool := decide (a * cp p < 115792089237316195423570985008687907853269984665640564039457584007913129639936) && !decide (a - spv a p = 0)
def ofv (a p : Int) : Int := if offok a p = true then a - spv a p else 0
theorem ofv_wd {a : Int} (p : Int) (ha : Wd a) : Wd (ofv a p) := by
  have := spv_bd p ha
  unfold ofv Wd at *
  split <;> omega
theorem wcmp_le {x y : Int} : wcmp x y ≤ 0 ↔ x ≤ y := by
  unfold wcmp
  repeat' split
  all_goals omega
theorem wcmp_ge {x y : Int} : 0 ≤ wcmp x y ↔ y ≤ x := by
  unfold wcmp
  repeat' split
  all_goals omega
theorem spread (a p : Int) (ha : Wd a) (w : World) : CSpec Try.prog 72 [.agg (wv a).toArray, .int .i64 p] [] w (Gives (.tuple [.agg (wv (spv a p)).toArray, .bool (fitsM a p)].toArray)) := by
  have hc := cp_bd p
  have hw1 := wmul_wd ha hc.1
  refine spec_of Try.func72 rfl Try.ntmps72 rfl (l0 := [(0, .agg (wv a).toArray), (1, .int .i64 p)]) rfl ?_
  intro fp
  repeat' first
    | (with_reducible apply J.seq)
    | (with_reducible apply J.region_lit)
    | (with_reducible apply J.ops_nil)
    | (with_reducible apply J.app_cons)
    | (with_reducible apply J.app_nil)
    | (with_reducible apply J.then_)
    | (with_reducible apply J.blk_)
    | (with_reducible apply J.skip)
    | (with_reducible apply J.block)
    | ((with_reducible apply J.q0); exact rfl; focus (first
      | ((with_reducible apply Qv.buildW); exact rfl; exact rfl; (first | with_reducible assumption | (unfold Wo; omega) | (simp only [Wd, Wo] at *; omega)))
      | ((with_reducible apply Qv.buildW0); exact rfl; exact rfl)
      | ((with_reducible apply Qv.conv); exact rfl; exact cp_wr p)
      | ((with_reducible apply Qv.pure); exact rfl)
      | ((with_reducible apply Qv.fieldAddr); exact rfl; (focus ((try simp only [nl, Nat.reduceAdd, Nat.reduceMul, Int.reduceToNat]); try exact rfl)))
      | ((with_reducible first | apply Qv.indexArr | apply Qv.indexBlk | apply Qv.indexN); exact rfl; exact rfl; (first | decide | omega | (constructor <;> omega)); (focus ((try simp only [nl, Nat.reduceAdd, Nat.reduceMul, Int.reduceToNat]); try exact rfl)))
      | ((with_reducible apply Qv.field1); exact rfl; exact rfl)
      | ((with_reducible apply Qv.fieldN); exact rfl; (focus ((try simp only [nl, Nat.reduceAdd, Nat.reduceMul, Int.reduceToNat]); try exact rfl)))
      | ((with_reducible apply Qv.index1); exact rfl; exact rfl; (first | decide | omega | (constructor <;> omega)); exact rfl)
      | ((with_reducible first | apply Qv.add | apply Qv.sub | apply Qv.mul); exact rfl; exact rfl; (first | exact wr64 (by omega) (by omega) (by (try simp only [Int.reduceAdd, Int.reduceSub, Int.reduceMul]); exact rfl) | exact wru64 (by omega) (by omega) (by (try simp only [Int.reduceAdd, Int.reduceSub, Int.reduceMul]); exact rfl) | exact rfl))
      | ((with_reducible apply Qv.conv); exact rfl; (first | exact wr64 (by omega) (by omega) (by (try simp only [Int.reduceAdd, Int.reduceSub, Int.reduceMul]); exact rfl) | exact wru64 (by omega) (by omega) (by (try simp only [Int.reduceAdd, Int.reduceSub, Int.reduceMul]); exact rfl) | exact rfl))
      | ((with_reducible first | apply Qv.eqlB | apply Qv.neqB); exact rfl; exact rfl)
      | ((with_reducible first | apply Qv.buildA | apply Qv.buildS); exact rfl; (simp only [bfill, nl, Nat.reduceAdd, Nat.reduceMul, Int.reduceToNat]; exact rfl))
      | ((with_reducible apply Qv.quoP); exact rfl; exact rfl; (first | decide | omega); (omega); (first | exact wr64 (by omega) (by omega) rfl | exact wru64 (by omega) (by omega) rfl))
      | ((with_reducible apply Qv.remP); exact rfl; exact rfl; (first | decide | omega); omega)
      | ((with_reducible apply Qv.rem); exact rfl; exact rfl; (first | decide | omega); exact rfl)
      | ((with_reducible apply Qv.quo); exact rfl; exact rfl; (first | decide | omega); (first | exact wr64 (by omega) (by omega) (by (try simp only [Int.reduceAdd, Int.reduceSub, Int.reduceMul]); exact rfl) | exact wru64 (by omega) (by omega) (by (try simp only [Int.reduceAdd, Int.reduceSub, Int.reduceMul]); exact rfl) | exact rfl))
      | ((with_reducible apply Qv.shl); exact rfl; exact rfl; (first | decide | omega); (first | (first | exact wr64 (by omega) (by omega) (by (try simp only [Int.reduceAdd, Int.reduceSub, Int.reduceMul]); exact rfl) | exact wru64 (by omega) (by omega) (by (try simp only [Int.reduceAdd, Int.reduceSub, Int.reduceMul]); exact rfl) | exact rfl) | exact rfl))
      | ((with_reducible apply Qv.shr); exact rfl; exact rfl; (first | decide | omega); exact rfl)
      | ((with_reducible apply Qv.lenS); exact rfl)
      | ((with_reducible apply Qv.lenStr); exact rfl)
      | ((with_reducible apply Qv.capS); exact rfl)
      | ((with_reducible apply Qv.max); exact rfl; exact rfl)
      | ((with_reducible apply Qv.min); exact rfl; exact rfl)))
    | ((with_reducible apply J.q1); exact rfl; focus (first
      | ((with_reducible apply Qr.load1); exact rfl; (repeat (first | with_reducible exact In.here | with_reducible apply In.there)); exact rfl)
      | ((with_reducible apply Qr.loadN); exact rfl; (repeat (first | with_reducible exact In.here | with_reducible apply In.there)); (focus ((try simp only [nl, Nat.reduceAdd, Nat.reduceMul, Int.reduceToNat]); try exact rfl)); (focus (first | (simp only [nl, Nat.reduceAdd, Nat.reduceMul, Int.reduceToNat]; done) | exact rfl)))
      | ((with_reducible apply Qr.row1); exact rfl; (repeat (first | with_reducible exact In.here | with_reducible apply In.there)); exact rfl)
      | ((with_reducible apply Qr.rowN); exact rfl; (repeat (first | with_reducible exact In.here | with_reducible apply In.there)); (focus ((try simp only [nl, Nat.reduceAdd, Nat.reduceMul, Int.reduceToNat]); try exact rfl)); exact rfl)
      | ((with_reducible apply Qr.lenRow); exact rfl; (repeat (first | with_reducible exact In.here | with_reducible apply In.there)))))
    | ((with_reducible apply J.guard_on); exact rfl; exact rfl)
    | ((with_reducible apply J.guard_off); exact rfl; exact rfl; exact rfl; exact rfl)
    | ((with_reducible apply J.guard_off_none); exact rfl; exact rfl; exact rfl)
    | ((with_reducible apply J.gsplit); exact rfl; exact rfl)
    | ((with_reducible apply J.list); focus (first
      | ((with_reducible apply J.allocW); exact rfl; exact rfl; intro _)
      | ((with_reducible apply J.givesP (WMul.mul _ (cp p))); exact rfl; exact rfl; (refine ⟨ha, ?_⟩; unfold Wo; omega))
      | ((with_reducible apply J.givesP (div_t _ _)); exact rfl; exact rfl; (exact ⟨hw1, by unfold Wo; omega, by omega⟩))
      | ((with_reducible apply J.buildSlice); exact rfl; exact rfl; exact rfl; exact rfl; exact rfl; (simp only [bfill, rep, List.replicate_succ, List.replicate_zero, List.flatten_cons, List.flatten_nil, nl, Nat.reduceAdd, Nat.reduceMul, Int.reduceToNat]; exact rfl); intro _)
      | ((with_reducible apply J.buildSlice0); exact rfl; intro _)
      | ((with_reducible apply J.append); exact rfl; exact rfl; (repeat (first | with_reducible exact Out.here | with_reducible apply Out.there)); exact rfl; (repeat (first | with_reducible exact In.here | with_reducible apply In.there)); (focus ((try simp only [nl, Nat.reduceAdd, Nat.reduceMul, Int.reduceToNat]); try exact rfl)); exact rfl; exact rfl; exact rfl; exact rfl; exact rfl; (first | decide | (simp only [maxLen]; omega) | omega); (first | decide | (simp only [maxLen]; omega) | omega); intro _)
      | ((with_reducible apply J.appendNil); exact rfl; exact rfl; exact rfl; (repeat (first | with_reducible exact In.here | with_reducible apply In.there)); (focus ((try simp only [nl, Nat.reduceAdd, Nat.reduceMul, Int.reduceToNat]); try exact rfl)); exact rfl; exact rfl; exact rfl; exact rfl; exact rfl; (first | decide | (simp only [maxLen]; omega) | omega); (first | decide | (simp only [maxLen]; omega) | omega); intro _)
      | ((with_reducible apply J.boxN); exact rfl; exact rfl; intro _)
      | ((with_reducible apply J.box1); exact rfl; exact rfl; exact rfl; intro _)
      | ((with_reducible apply J.alloc); exact rfl; intro _)
      | ((with_reducible apply J.storeN); exact rfl; exact rfl; (repeat (first | with_reducible exact Upd.here | with_reducible apply Upd.there)); (focus ((try simp only [nl, Nat.reduceAdd, Nat.reduceMul, Int.reduceToNat]); try exact rfl)); (focus (first | (simp only [nl, Nat.reduceAdd, Nat.reduceMul, Int.reduceToNat]; done) | exact rfl)); (focus (first | (simp only [nl, Nat.reduceAdd, Nat.reduceMul, Int.reduceToNat]; done) | (simp only [nl, Nat.reduceAdd, Nat.reduceMul, Int.reduceToNat]; omega) | decide)); (first | (with_reducible exact wvs_ones _ _) | exact rfl))
      | ((with_reducible apply J.store1); exact rfl; exact rfl; exact rfl; (repeat (first | with_reducible exact Upd.here | with_reducible apply Upd.there)); (focus ((try simp only [nl, Nat.reduceAdd, Nat.reduceMul, Int.reduceToNat]); try exact rfl)); (first | decide | (simp only [nl, Nat.reduceAdd, Nat.reduceMul, Int.reduceToNat]; omega)))))
    | ((with_reducible apply J.cond_true); exact rfl)
    | ((with_reducible apply J.cond_false); exact rfl)
    | ((with_reducible apply J.cond); exact rfl)
    | (intro h; exfalso; (first | (simp at h; done) | (simp at h; omega) | omega))
    | (intro h; (try simp only [decide_eq_true_eq, decide_eq_false_iff_not, beq_iff_eq, beq_eq_false_iff_ne, Bool.not_eq_true', Bool.not_eq_false', bne_iff_ne, bne_eq_false_iff_eq, ne_eq, ge_iff_le, gt_iff_lt] at h))
    | (with_reducible apply J.cret)
    | ((with_reducible apply J.ret); exact rfl; exact rfl; (repeat (first | (with_reducible exact Res.nil) | ((with_reducible apply Res.tmp); exact rfl) | ((with_reducible apply Res.cell1); exact rfl; (repeat (first | with_reducible exact In.here | with_reducible apply In.there)); exact rfl) | ((with_reducible apply Res.cellN); exact rfl; (repeat (first | with_reducible exact In.here | with_reducible apply In.there)); (focus ((try simp only [nl, Nat.reduceAdd, Nat.reduceMul, Int.reduceToNat]); try exact rfl)); (focus (first | (simp only [nl, Nat.reduceAdd, Nat.reduceMul, Int.reduceToNat]; done) | exact rfl))))); exact rfl)
    | ((with_reducible apply J.ret_normal); exact rfl; exact rfl; (repeat (first | (with_reducible exact Res.nil) | ((with_reducible apply Res.tmp); exact rfl) | ((with_reducible apply Res.cell1); exact rfl; (repeat (first | with_reducible exact In.here | with_reducible apply In.there)); exact rfl) | ((with_reducible apply Res.cellN); exact rfl; (repeat (first | with_reducible exact In.here | with_reducible apply In.there)); (focus ((try simp only [nl, Nat.reduceAdd, Nat.reduceMul, Int.reduceToNat]); try exact rfl)); (focus (first | (simp only [nl, Nat.reduceAdd, Nat.reduceMul, Int.reduceToNat]; done) | exact rfl))))); exact rfl)
    | (with_reducible apply J.gave')
    | ((with_reducible apply J.kept'); rotate_left; (repeat (first | (with_reducible exact Outs.nil) | ((with_reducible apply Outs.cons); (repeat (first | with_reducible exact Out.here | with_reducible apply Out.there))))))
    | (with_reducible apply J.exit)
    | (with_reducible apply J.then_ret)
    | (with_reducible apply J.then_exit)
    | (with_reducible apply J.then_panic)
    | (with_reducible apply J.blk_ret)
    | (with_reducible apply J.blk_panic)
    | (with_reducible apply J.blk_exit)
    | ((with_reducible apply J.blk_past); exact rfl)
  all_goals ((first | (simp only [retv, spv, fitsM, wmul, if_pos (by assumption), decide_eq_true (by assumption)]; done) | (simp only [retv, spv, fitsM]; rw [if_neg (by assumption), decide_eq_false (by assumption)]; done) | (simp [retv, spv, fitsM, wmul, *]; done) | (trace_state; fail)))
theorem offer (a p : Int) (ha : Wd a) (w : World) : CSpec Try.prog 67 [.agg (wv a).toArray, .int .i64 p] [] w (Gives (.tuple [.agg (wv (ofv a p)).toArray, .bool (offok a p)].toArray)) := by
  have hs := spv_bd p ha
  have e1 : wsub a (spv a p) = a - spv a p := wsub_le hs.2
  have e2 : decide (spv a p ≤ a) = true := decide_eq_true hs.2
  have hw1 : Wd (wsub a (spv a p)) := wsub_wd ha (spv_wd p ha)
  refine spec_of Try.func67 rfl Try.ntmps67 rfl (l0 := [(0, .agg (wv a).toArray), (1, .int .i64 p)]) rfl ?_
  intro fp
  repeat' first
    | (with_reducible apply J.seq)
    | (with_reducible apply J.region_lit)
    | (with_reducible apply J.ops_nil)
    | (with_reducible apply J.app_cons)
    | (with_reducible apply J.app_nil)
    | (with_reducible apply J.then_)
    | (with_reducible apply J.blk_)
    | (with_reducible apply J.skip)
    | (with_reducible apply J.block)
    | ((with_reducible apply J.q0); exact rfl; focus (first
      | ((with_reducible apply Qv.buildW); exact rfl; exact rfl; (first | with_reducible assumption | (unfold Wo; omega) | (simp only [Wd, Wo] at *; omega)))
      | ((with_reducible apply Qv.buildW0); exact rfl; exact rfl)
      | ((with_reducible apply Qv.eqlA); exact rfl; exact rfl; (kernel_rfl); (refine weq _ _ (And.intro ?_ ?_) <;> (first | exact hw1 | exact ha | (unfold Wd; omega))))
      | ((with_reducible apply Qv.neqA); exact rfl; exact rfl; (kernel_rfl); (refine weq _ _ (And.intro ?_ ?_) <;> (first | exact ha | (unfold Wd; omega))))
      | ((with_reducible apply Qv.pure); exact rfl)
      | ((with_reducible apply Qv.fieldAddr); exact rfl; (focus ((try simp only [nl, Nat.reduceAdd, Nat.reduceMul, Int.reduceToNat]); try exact rfl)))
      | ((with_reducible first | apply Qv.indexArr | apply Qv.indexBlk | apply Qv.indexN); exact rfl; exact rfl; (first | decide | omega | (constructor <;> omega)); (focus ((try simp only [nl, Nat.reduceAdd, Nat.reduceMul, Int.reduceToNat]); try exact rfl)))
      | ((with_reducible apply Qv.field1); exact rfl; exact rfl)
      | ((with_reducible apply Qv.fieldN); exact rfl; (focus ((try simp only [nl, Nat.reduceAdd, Nat.reduceMul, Int.reduceToNat]); try exact rfl)))
      | ((with_reducible apply Qv.index1); exact rfl; exact rfl; (first | decide | omega | (constructor <;> omega)); exact rfl)
      | ((with_reducible first | apply Qv.add | apply Qv.sub | apply Qv.mul); exact rfl; exact rfl; (first | exact wr64 (by omega) (by omega) (by (try simp only [Int.reduceAdd, Int.reduceSub, Int.reduceMul]); exact rfl) | exact wru64 (by omega) (by omega) (by (try simp only [Int.reduceAdd, Int.reduceSub, Int.reduceMul]); exact rfl) | exact rfl))
      | ((with_reducible apply Qv.conv); exact rfl; (first | exact wr64 (by omega) (by omega) (by (try simp only [Int.reduceAdd, Int.reduceSub, Int.reduceMul]); exact rfl) | exact wru64 (by omega) (by omega) (by (try simp only [Int.reduceAdd, Int.reduceSub, Int.reduceMul]); exact rfl) | exact rfl))
      | ((with_reducible first | apply Qv.eqlB | apply Qv.neqB); exact rfl; exact rfl)
      | ((with_reducible first | apply Qv.buildA | apply Qv.buildS); exact rfl; (simp only [bfill, nl, Nat.reduceAdd, Nat.reduceMul, Int.reduceToNat]; exact rfl))
      | ((with_reducible apply Qv.quoP); exact rfl; exact rfl; (first | decide | omega); (omega); (first | exact wr64 (by omega) (by omega) rfl | exact wru64 (by omega) (by omega) rfl))
      | ((with_reducible apply Qv.remP); exact rfl; exact rfl; (first | decide | omega); omega)
      | ((with_reducible apply Qv.rem); exact rfl; exact rfl; (first | decide | omega); exact rfl)
      | ((with_reducible apply Qv.quo); exact rfl; exact rfl; (first | decide | omega); (first | exact wr64 (by omega) (by omega) (by (try simp only [Int.reduceAdd, Int.reduceSub, Int.reduceMul]); exact rfl) | exact wru64 (by omega) (by omega) (by (try simp only [Int.reduceAdd, Int.reduceSub, Int.reduceMul]); exact rfl) | exact rfl))
      | ((with_reducible apply Qv.shl); exact rfl; exact rfl; (first | decide | omega); (first | (first | exact wr64 (by omega) (by omega) (by (try simp only [Int.reduceAdd, Int.reduceSub, Int.reduceMul]); exact rfl) | exact wru64 (by omega) (by omega) (by (try simp only [Int.reduceAdd, Int.reduceSub, Int.reduceMul]); exact rfl) | exact rfl) | exact rfl))
      | ((with_reducible apply Qv.shr); exact rfl; exact rfl; (first | decide | omega); exact rfl)
      | ((with_reducible apply Qv.lenS); exact rfl)
      | ((with_reducible apply Qv.lenStr); exact rfl)
      | ((with_reducible apply Qv.capS); exact rfl)
      | ((with_reducible apply Qv.max); exact rfl; exact rfl)
      | ((with_reducible apply Qv.min); exact rfl; exact rfl)))
    | ((with_reducible apply J.q1); exact rfl; focus (first
      | ((with_reducible apply Qr.load1); exact rfl; (repeat (first | with_reducible exact In.here | with_reducible apply In.there)); exact rfl)
      | ((with_reducible apply Qr.loadN); exact rfl; (repeat (first | with_reducible exact In.here | with_reducible apply In.there)); (focus ((try simp only [nl, Nat.reduceAdd, Nat.reduceMul, Int.reduceToNat]); try exact rfl)); (focus (first | (simp only [nl, Nat.reduceAdd, Nat.reduceMul, Int.reduceToNat]; done) | exact rfl)))
      | ((with_reducible apply Qr.row1); exact rfl; (repeat (first | with_reducible exact In.here | with_reducible apply In.there)); exact rfl)
      | ((with_reducible apply Qr.rowN); exact rfl; (repeat (first | with_reducible exact In.here | with_reducible apply In.there)); (focus ((try simp only [nl, Nat.reduceAdd, Nat.reduceMul, Int.reduceToNat]); try exact rfl)); exact rfl)
      | ((with_reducible apply Qr.lenRow); exact rfl; (repeat (first | with_reducible exact In.here | with_reducible apply In.there)))))
    | ((with_reducible apply J.guard_on); exact rfl; exact rfl)
    | ((with_reducible apply J.guard_off); exact rfl; exact rfl; exact rfl; exact rfl)
    | ((with_reducible apply J.guard_off_none); exact rfl; exact rfl; exact rfl)
    | ((with_reducible apply J.gsplit); exact rfl; exact rfl)
    | ((with_reducible apply J.list); focus (first
      | ((with_reducible apply J.allocW); exact rfl; exact rfl; intro _)
      | ((with_reducible apply J.givesP (spread _ _)); exact rfl; exact rfl; (exact ha))
      | ((with_reducible apply J.givesP (Wide.sub _ _)); exact rfl; exact rfl; (exact ⟨ha, spv_wd p ha⟩))
      | ((with_reducible apply J.buildSlice); exact rfl; exact rfl; exact rfl; exact rfl; exact rfl; (simp only [bfill, rep, List.replicate_succ, List.replicate_zero, List.flatten_cons, List.flatten_nil, nl, Nat.reduceAdd, Nat.reduceMul, Int.reduceToNat]; exact rfl); intro _)
      | ((with_reducible apply J.buildSlice0); exact rfl; intro _)
      | ((with_reducible apply J.append); exact rfl; exact rfl; (repeat (first | with_reducible exact Out.here | with_reducible apply Out.there)); exact rfl; (repeat (first | with_reducible exact In.here | with_reducible apply In.there)); (focus ((try simp only [nl, Nat.reduceAdd, Nat.reduceMul, Int.reduceToNat]); try exact rfl)); exact rfl; exact rfl; exact rfl; exact rfl; exact rfl; (first | decide | (simp only [maxLen]; omega) | omega); (first | decide | (simp only [maxLen]; omega) | omega); intro _)
      | ((with_reducible apply J.appendNil); exact rfl; exact rfl; exact rfl; (repeat (first | with_reducible exact In.here | with_reducible apply In.there)); (focus ((try simp only [nl, Nat.reduceAdd, Nat.reduceMul, Int.reduceToNat]); try exact rfl)); exact rfl; exact rfl; exact rfl; exact rfl; exact rfl; (first | decide | (simp only [maxLen]; omega) | omega); (first | decide | (simp only [maxLen]; omega) | omega); intro _)
      | ((with_reducible apply J.boxN); exact rfl; exact rfl; intro _)
      | ((with_reducible apply J.box1); exact rfl; exact rfl; exact rfl; intro _)
      | ((with_reducible apply J.alloc); exact rfl; intro _)
      | ((with_reducible apply J.storeN); exact rfl; exact rfl; (repeat (first | with_reducible exact Upd.here | with_reducible apply Upd.there)); (focus ((try simp only [nl, Nat.reduceAdd, Nat.reduceMul, Int.reduceToNat]); try exact rfl)); (focus (first | (simp only [nl, Nat.reduceAdd, Nat.reduceMul, Int.reduceToNat]; done) | exact rfl)); (focus (first | (simp only [nl, Nat.reduceAdd, Nat.reduceMul, Int.reduceToNat]; done) | (simp only [nl, Nat.reduceAdd, Nat.reduceMul, Int.reduceToNat]; omega) | decide)); (first | (with_reducible exact wvs_ones _ _) | exact rfl))
      | ((with_reducible apply J.store1); exact rfl; exact rfl; exact rfl; (repeat (first | with_reducible exact Upd.here | with_reducible apply Upd.there)); (focus ((try simp only [nl, Nat.reduceAdd, Nat.reduceMul, Int.reduceToNat]); try exact rfl)); (first | decide | (simp only [nl, Nat.reduceAdd, Nat.reduceMul, Int.reduceToNat]; omega)))))
    | ((with_reducible apply J.cond_true); exact rfl)
    | ((with_reducible apply J.cond_false); exact rfl)
    | ((with_reducible apply J.cond); exact rfl)
    | (intro h; exfalso; (first | (simp at h; done) | (simp at h; omega) | omega))
    | (intro h; (try simp only [decide_eq_true_eq, decide_eq_false_iff_not, beq_iff_eq, beq_eq_false_iff_ne, Bool.not_eq_true', Bool.not_eq_false', bne_iff_ne, bne_eq_false_iff_eq, ne_eq, ge_iff_le, gt_iff_lt] at h))
    | (with_reducible apply J.cret)
    | ((with_reducible apply J.ret); exact rfl; exact rfl; (repeat (first | (with_reducible exact Res.nil) | ((with_reducible apply Res.tmp); exact rfl) | ((with_reducible apply Res.cell1); exact rfl; (repeat (first | with_reducible exact In.here | with_reducible apply In.there)); exact rfl) | ((with_reducible apply Res.cellN); exact rfl; (repeat (first | with_reducible exact In.here | with_reducible apply In.there)); (focus ((try simp only [nl, Nat.reduceAdd, Nat.reduceMul, Int.reduceToNat]); try exact rfl)); (focus (first | (simp only [nl, Nat.reduceAdd, Nat.reduceMul, Int.reduceToNat]; done) | exact rfl))))); exact rfl)
    | ((with_reducible apply J.ret_normal); exact rfl; exact rfl; (repeat (first | (with_reducible exact Res.nil) | ((with_reducible apply Res.tmp); exact rfl) | ((with_reducible apply Res.cell1); exact rfl; (repeat (first | with_reducible exact In.here | with_reducible apply In.there)); exact rfl) | ((with_reducible apply Res.cellN); exact rfl; (repeat (first | with_reducible exact In.here | with_reducible apply In.there)); (focus ((try simp only [nl, Nat.reduceAdd, Nat.reduceMul, Int.reduceToNat]); try exact rfl)); (focus (first | (simp only [nl, Nat.reduceAdd, Nat.reduceMul, Int.reduceToNat]; done) | exact rfl))))); exact rfl)
    | (with_reducible apply J.gave')
    | ((with_reducible apply J.kept'); rotate_left; (repeat (first | (with_reducible exact Outs.nil) | ((with_reducible apply Outs.cons); (repeat (first | with_reducible exact Out.here | with_reducible apply Out.there))))))
    | (with_reducible apply J.exit)
    | (with_reducible apply J.then_ret)
    | (with_reducible apply J.then_exit)
    | (with_reducible apply J.then_panic)
    | (with_reducible apply J.blk_ret)
    | (with_reducible apply J.blk_panic)
    | (with_reducible apply J.blk_exit)
    | ((with_reducible apply J.blk_past); exact rfl)
  all_goals ((first | (simp [retv, ofv, offok, fitsM, e1, e2] at *; done) | (simp_all [retv, ofv, offok, fitsM]; done) | (have e3 : offok a p = false := (by unfold offok; rw [show decide (a * cp p < 115792089237316195423570985008687907853269984665640564039457584007913129639936) = fitsM a p from rfl, h]; rfl); simp [retv, ofv, e3]; done) | (trace_state; fail)))
theorem covers (v x a : Int) (h : Wd v ∧ Wd x ∧ Wd a) (w : World) : CSpec Try.prog 71 [.agg (wv v).toArray, .agg (wv x).toArray, .agg (wv a).toArray] [] w (Gives (.bool (decide (x + a < 115792089237316195423570985008687907853269984665640564039457584007913129639936) && decide (x + a ≤ v)))) := by
  obtain ⟨hv, hx, ha⟩ := h
  refine spec_of Try.func71 rfl Try.ntmps71 rfl (l0 := [(0, .agg (wv v).toArray), (1, .agg (wv x).toArray), (2, .agg (wv a).toArray)]) rfl ?_
  intro fp
  repeat' first
    | (with_reducible apply J.seq)
    | (with_reducible apply J.region_lit)
    | (with_reducible apply J.ops_nil)
    | (with_reducible apply J.app_cons)
    | (with_reducible apply J.app_nil)
    | (with_reducible apply J.then_)
    | (with_reducible apply J.blk_)
    | (with_reducible apply J.skip)
    | (with_reducible apply J.block)
    | ((with_reducible apply J.q0); exact rfl; focus (first
      | ((with_reducible apply Qv.buildW); exact rfl; exact rfl; (first | with_reducible assumption | (unfold Wo; omega) | (simp only [Wd, Wo] at *; omega)))
      | ((with_reducible apply Qv.buildW0); exact rfl; exact rfl)
      | ((with_reducible apply Qv.pure); exact rfl)
      | ((with_reducible apply Qv.fieldAddr); exact rfl; (focus ((try simp only [nl, Nat.reduceAdd, Nat.reduceMul, Int.reduceToNat]); try exact rfl)))
      | ((with_reducible first | apply Qv.indexArr | apply Qv.indexBlk | apply Qv.indexN); exact rfl; exact rfl; (first | decide | omega | (constructor <;> omega)); (focus ((try simp only [nl, Nat.reduceAdd, Nat.reduceMul, Int.reduceToNat]); try exact rfl)))
      | ((with_reducible apply Qv.field1); exact rfl; exact rfl)
      | ((with_reducible apply Qv.fieldN); exact rfl; (focus ((try simp only [nl, Nat.reduceAdd, Nat.reduceMul, Int.reduceToNat]); try exact rfl)))
      | ((with_reducible apply Qv.index1); exact rfl; exact rfl; (first | decide | omega | (constructor <;> omega)); exact rfl)
      | ((with_reducible first | apply Qv.add | apply Qv.sub | apply Qv.mul); exact rfl; exact rfl; (first | exact wr64 (by omega) (by omega) (by (try simp only [Int.reduceAdd, Int.reduceSub, Int.reduceMul]); exact rfl) | exact wru64 (by omega) (by omega) (by (try simp only [Int.reduceAdd, Int.reduceSub, Int.reduceMul]); exact rfl) | exact rfl))
      | ((with_reducible apply Qv.conv); exact rfl; (first | exact wr64 (by omega) (by omega) (by (try simp only [Int.reduceAdd, Int.reduceSub, Int.reduceMul]); exact rfl) | exact wru64 (by omega) (by omega) (by (try simp only [Int.reduceAdd, Int.reduceSub, Int.reduceMul]); exact rfl) | exact rfl))
      | ((with_reducible first | apply Qv.eqlB | apply Qv.neqB); exact rfl; exact rfl)
      | ((with_reducible first | apply Qv.buildA | apply Qv.buildS); exact rfl; (simp only [bfill, nl, Nat.reduceAdd, Nat.reduceMul, Int.reduceToNat]; exact rfl))
      | ((with_reducible apply Qv.quoP); exact rfl; exact rfl; (first | decide | omega); (omega); (first | exact wr64 (by omega) (by omega) rfl | exact wru64 (by omega) (by omega) rfl))
      | ((with_reducible apply Qv.remP); exact rfl; exact rfl; (first | decide | omega); omega)
      | ((with_reducible apply Qv.rem); exact rfl; exact rfl; (first | decide | omega); exact rfl)
      | ((with_reducible apply Qv.quo); exact rfl; exact rfl; (first | decide | omega); (first | exact wr64 (by omega) (by omega) (by (try simp only [Int.reduceAdd, Int.reduceSub, Int.reduceMul]); exact rfl) | exact wru64 (by omega) (by omega) (by (try simp only [Int.reduceAdd, Int.reduceSub, Int.reduceMul]); exact rfl) | exact rfl))
      | ((with_reducible apply Qv.shl); exact rfl; exact rfl; (first | decide | omega); (first | (first | exact wr64 (by omega) (by omega) (by (try simp only [Int.reduceAdd, Int.reduceSub, Int.reduceMul]); exact rfl) | exact wru64 (by omega) (by omega) (by (try simp only [Int.reduceAdd, Int.reduceSub, Int.reduceMul]); exact rfl) | exact rfl) | exact rfl))
      | ((with_reducible apply Qv.shr); exact rfl; exact rfl; (first | decide | omega); exact rfl)
      | ((with_reducible apply Qv.lenS); exact rfl)
      | ((with_reducible apply Qv.lenStr); exact rfl)
      | ((with_reducible apply Qv.capS); exact rfl)
      | ((with_reducible apply Qv.max); exact rfl; exact rfl)
      | ((with_reducible apply Qv.min); exact rfl; exact rfl)))
    | ((with_reducible apply J.q1); exact rfl; focus (first
      | ((with_reducible apply Qr.load1); exact rfl; (repeat (first | with_reducible exact In.here | with_reducible apply In.there)); exact rfl)
      | ((with_reducible apply Qr.loadN); exact rfl; (repeat (first | with_reducible exact In.here | with_reducible apply In.there)); (focus ((try simp only [nl, Nat.reduceAdd, Nat.reduceMul, Int.reduceToNat]); try exact rfl)); (focus (first | (simp only [nl, Nat.reduceAdd, Nat.reduceMul, Int.reduceToNat]; done) | exact rfl)))
      | ((with_reducible apply Qr.row1); exact rfl; (repeat (first | with_reducible exact In.here | with_reducible apply In.there)); exact rfl)
      | ((with_reducible apply Qr.rowN); exact rfl; (repeat (first | with_reducible exact In.here | with_reducible apply In.there)); (focus ((try simp only [nl, Nat.reduceAdd, Nat.reduceMul, Int.reduceToNat]); try exact rfl)); exact rfl)
      | ((with_reducible apply Qr.lenRow); exact rfl; (repeat (first | with_reducible exact In.here | with_reducible apply In.there)))))
    | ((with_reducible apply J.guard_on); exact rfl; exact rfl)
    | ((with_reducible apply J.guard_off); exact rfl; exact rfl; exact rfl; exact rfl)
    | ((with_reducible apply J.guard_off_none); exact rfl; exact rfl; exact rfl)
    | ((with_reducible apply J.gsplit); exact rfl; exact rfl)
    | ((with_reducible apply J.list); focus (first
      | ((with_reducible apply J.allocW); exact rfl; exact rfl; intro _)
      | ((with_reducible apply J.givesP (Wide.add _ _)); exact rfl; exact rfl; (exact ⟨hx, ha⟩))
      | ((with_reducible apply J.givesP (Cmp.cmp _ _)); exact rfl; exact rfl; (exact ⟨wadd_wd hx ha, hv⟩))
      | ((with_reducible apply J.buildSlice); exact rfl; exact rfl; exact rfl; exact rfl; exact rfl; (simp only [bfill, rep, List.replicate_succ, List.replicate_zero, List.flatten_cons, List.flatten_nil, nl, Nat.reduceAdd, Nat.reduceMul, Int.reduceToNat]; exact rfl); intro _)
      | ((with_reducible apply J.buildSlice0); exact rfl; intro _)
      | ((with_reducible apply J.append); exact rfl; exact rfl; (repeat (first | with_reducible exact Out.here | with_reducible apply Out.there)); exact rfl; (repeat (first | with_reducible exact In.here | with_reducible apply In.there)); (focus ((try simp only [nl, Nat.reduceAdd, Nat.reduceMul, Int.reduceToNat]); try exact rfl)); exact rfl; exact rfl; exact rfl; exact rfl; exact rfl; (first | decide | (simp only [maxLen]; omega) | omega); (first | decide | (simp only [maxLen]; omega) | omega); intro _)
      | ((with_reducible apply J.appendNil); exact rfl; exact rfl; exact rfl; (repeat (first | with_reducible exact In.here | with_reducible apply In.there)); (focus ((try simp only [nl, Nat.reduceAdd, Nat.reduceMul, Int.reduceToNat]); try exact rfl)); exact rfl; exact rfl; exact rfl; exact rfl; exact rfl; (first | decide | (simp only [maxLen]; omega) | omega); (first | decide | (simp only [maxLen]; omega) | omega); intro _)
      | ((with_reducible apply J.boxN); exact rfl; exact rfl; intro _)
      | ((with_reducible apply J.box1); exact rfl; exact rfl; exact rfl; intro _)
      | ((with_reducible apply J.alloc); exact rfl; intro _)
      | ((with_reducible apply J.storeN); exact rfl; exact rfl; (repeat (first | with_reducible exact Upd.here | with_reducible apply Upd.there)); (focus ((try simp only [nl, Nat.reduceAdd, Nat.reduceMul, Int.reduceToNat]); try exact rfl)); (focus (first | (simp only [nl, Nat.reduceAdd, Nat.reduceMul, Int.reduceToNat]; done) | exact rfl)); (focus (first | (simp only [nl, Nat.reduceAdd, Nat.reduceMul, Int.reduceToNat]; done) | (simp only [nl, Nat.reduceAdd, Nat.reduceMul, Int.reduceToNat]; omega) | decide)); (first | (with_reducible exact wvs_ones _ _) | exact rfl))
      | ((with_reducible apply J.store1); exact rfl; exact rfl; exact rfl; (repeat (first | with_reducible exact Upd.here | with_reducible apply Upd.there)); (focus ((try simp only [nl, Nat.reduceAdd, Nat.reduceMul, Int.reduceToNat]); try exact rfl)); (first | decide | (simp only [nl, Nat.reduceAdd, Nat.reduceMul, Int.reduceToNat]; omega)))))
    | ((with_reducible apply J.cond_true); exact rfl)
    | ((with_reducible apply J.cond_false); exact rfl)
    | ((with_reducible apply J.cond); exact rfl)
    | (intro h; exfalso; (first | (simp at h; done) | (simp at h; omega) | omega))
    | (intro h; (try simp only [decide_eq_true_eq, decide_eq_false_iff_not, beq_iff_eq, beq_eq_false_iff_ne, Bool.not_eq_true', Bool.not_eq_false', bne_iff_ne, bne_eq_false_iff_eq, ne_eq, ge_iff_le, gt_iff_lt] at h))
    | (with_reducible apply J.cret)
    | ((with_reducible apply J.ret); exact rfl; exact rfl; (repeat (first | (with_reducible exact Res.nil) | ((with_reducible apply Res.tmp); exact rfl) | ((with_reducible apply Res.cell1); exact rfl; (repeat (first | with_reducible exact In.here | with_reducible apply In.there)); exact rfl) | ((with_reducible apply Res.cellN); exact rfl; (repeat (first | with_reducible exact In.here | with_reducible apply In.there)); (focus ((try simp only [nl, Nat.reduceAdd, Nat.reduceMul, Int.reduceToNat]); try exact rfl)); (focus (first | (simp only [nl, Nat.reduceAdd, Nat.reduceMul, Int.reduceToNat]; done) | exact rfl))))); exact rfl)
    | ((with_reducible apply J.ret_normal); exact rfl; exact rfl; (repeat (first | (with_reducible exact Res.nil) | ((with_reducible apply Res.tmp); exact rfl) | ((with_reducible apply Res.cell1); exact rfl; (repeat (first | with_reducible exact In.here | with_reducible apply In.there)); exact rfl) | ((with_reducible apply Res.cellN); exact rfl; (repeat (first | with_reducible exact In.here | with_reducible apply In.there)); (focus ((try simp only [nl, Nat.reduceAdd, Nat.reduceMul, Int.reduceToNat]); try exact rfl)); (focus (first | (simp only [nl, Nat.reduceAdd, Nat.reduceMul, Int.reduceToNat]; done) | exact rfl))))); exact rfl)
    | (with_reducible apply J.gave')
    | ((with_reducible apply J.kept'); rotate_left; (repeat (first | (with_reducible exact Outs.nil) | ((with_reducible apply Outs.cons); (repeat (first | with_reducible exact Out.here | with_reducible apply Out.there))))))
    | (with_reducible apply J.exit)
    | (with_reducible apply J.then_ret)
    | (with_reducible apply J.then_exit)
    | (with_reducible apply J.then_panic)
    | (with_reducible apply J.blk_ret)
    | (with_reducible apply J.blk_panic)
    | (with_reducible apply J.blk_exit)
    | ((with_reducible apply J.blk_past); exact rfl)
  all_goals (first | (have h2 : x + a < 115792089237316195423570985008687907853269984665640564039457584007913129639936 := (by first | exact h | simpa using h); simp [retv, wcmp_le, wadd_lt h2, h2]; done) | (simp at h; simp [retv]; omega) | (trace_state; fail))
theorem points (r : Int) (h : -9223372036854775808 ≤ r ∧ r ≤ 9223372036854775807) (w : World) : CSpec Try.prog 73 [.int .i64 r] [] w (Gives (.int .i64 (if r = 2 then 30 else if r = 3 then 45 else 100))) := by
  obtain ⟨z, hz⟩ : ∃ z, IntKind.i64.wrap (r - 2) = z := ⟨_, rfl⟩
  have hz2 : (z = 0 ↔ r = 2) ∧ (z = 1 ↔ r = 3) := by
    rcases Int.lt_or_le (r - 2) (-9223372036854775808) with h1 | h1
    · have h2 : r = -9223372036854775808 ∨ r = -9223372036854775807 := by omega
      rcases h2 with rfl | rfl
      · have : z = 9223372036854775806 := by rw [← hz]; decide
        omega
      · have : z = 9223372036854775807 := by rw [← hz]; decide
        omega
    · have : IntKind.i64.wrap (r - 2) = r - 2 := wr64 h1 (by omega) rfl
      omega
  refine spec_of Try.func73 rfl Try.ntmps73 rfl (l0 := [(0, .int .i64 r)]) rfl ?_
  intro fp
  repeat' first
    | (with_reducible apply J.seq)
    | (with_reducible apply J.region_lit)
    | (with_reducible apply J.ops_nil)
    | (with_reducible apply J.app_cons)
    | (with_reducible apply J.app_nil)
    | (with_reducible apply J.then_)
    | (with_reducible apply J.blk_)
    | (with_reducible apply J.skip)
    | (with_reducible apply J.block)
    | ((with_reducible apply J.q0); exact rfl; focus (first
      | ((with_reducible apply Qv.sub); exact rfl; exact rfl; exact hz)
      | ((with_reducible apply Qv.pure); exact rfl)
      | ((with_reducible apply Qv.fieldAddr); exact rfl; (focus ((try simp only [nl, Nat.reduceAdd, Nat.reduceMul, Int.reduceToNat]); try exact rfl)))
      | ((with_reducible first | apply Qv.indexArr | apply Qv.indexBlk | apply Qv.indexN); exact rfl; exact rfl; (first | decide | omega | (constructor <;> omega)); (focus ((try simp only [nl, Nat.reduceAdd, Nat.reduceMul, Int.reduceToNat]); try exact rfl)))
      | ((with_reducible apply Qv.field1); exact rfl; exact rfl)
      | ((with_reducible apply Qv.fieldN); exact rfl; (focus ((try simp only [nl, Nat.reduceAdd, Nat.reduceMul, Int.reduceToNat]); try exact rfl)))
      | ((with_reducible apply Qv.index1); exact rfl; exact rfl; (first | decide | omega | (constructor <;> omega)); exact rfl)
      | ((with_reducible first | apply Qv.add | apply Qv.sub | apply Qv.mul); exact rfl; exact rfl; (first | exact wr64 (by omega) (by omega) (by (try simp only [Int.reduceAdd, Int.reduceSub, Int.reduceMul]); exact rfl) | exact wru64 (by omega) (by omega) (by (try simp only [Int.reduceAdd, Int.reduceSub, Int.reduceMul]); exact rfl) | exact rfl))
      | ((with_reducible apply Qv.conv); exact rfl; (first | exact wr64 (by omega) (by omega) (by (try simp only [Int.reduceAdd, Int.reduceSub, Int.reduceMul]); exact rfl) | exact wru64 (by omega) (by omega) (by (try simp only [Int.reduceAdd, Int.reduceSub, Int.reduceMul]); exact rfl) | exact rfl))
      | ((with_reducible first | apply Qv.eqlB | apply Qv.neqB); exact rfl; exact rfl)
      | ((with_reducible first | apply Qv.buildA | apply Qv.buildS); exact rfl; (simp only [bfill, nl, Nat.reduceAdd, Nat.reduceMul, Int.reduceToNat]; exact rfl))
      | ((with_reducible apply Qv.quoP); exact rfl; exact rfl; (first | decide | omega); (omega); (first | exact wr64 (by omega) (by omega) rfl | exact wru64 (by omega) (by omega) rfl))
      | ((with_reducible apply Qv.remP); exact rfl; exact rfl; (first | decide | omega); omega)
      | ((with_reducible apply Qv.rem); exact rfl; exact rfl; (first | decide | omega); exact rfl)
      | ((with_reducible apply Qv.quo); exact rfl; exact rfl; (first | decide | omega); (first | exact wr64 (by omega) (by omega) (by (try simp only [Int.reduceAdd, Int.reduceSub, Int.reduceMul]); exact rfl) | exact wru64 (by omega) (by omega) (by (try simp only [Int.reduceAdd, Int.reduceSub, Int.reduceMul]); exact rfl) | exact rfl))
      | ((with_reducible apply Qv.shl); exact rfl; exact rfl; (first | decide | omega); (first | (first | exact wr64 (by omega) (by omega) (by (try simp only [Int.reduceAdd, Int.reduceSub, Int.reduceMul]); exact rfl) | exact wru64 (by omega) (by omega) (by (try simp only [Int.reduceAdd, Int.reduceSub, Int.reduceMul]); exact rfl) | exact rfl) | exact rfl))
      | ((with_reducible apply Qv.shr); exact rfl; exact rfl; (first | decide | omega); exact rfl)
      | ((with_reducible apply Qv.lenS); exact rfl)
      | ((with_reducible apply Qv.lenStr); exact rfl)
      | ((with_reducible apply Qv.capS); exact rfl)
      | ((with_reducible apply Qv.max); exact rfl; exact rfl)
      | ((with_reducible apply Qv.min); exact rfl; exact rfl)))
    | ((with_reducible apply J.q1); exact rfl; focus (first
      | ((with_reducible apply Qr.load1 (v := .int .i64 (if z = 0 then 30 else 45))); exact rfl; (repeat (first | with_reducible exact In.here | with_reducible apply In.there)); (rcases (by omega : z = 0 ∨ z = 1) with e | e <;> (rw [e]; rfl)))
      | ((with_reducible apply Qr.load1); exact rfl; (repeat (first | with_reducible exact In.here | with_reducible apply In.there)); exact rfl)
      | ((with_reducible apply Qr.loadN); exact rfl; (repeat (first | with_reducible exact In.here | with_reducible apply In.there)); (focus ((try simp only [nl, Nat.reduceAdd, Nat.reduceMul, Int.reduceToNat]); try exact rfl)); (focus (first | (simp only [nl, Nat.reduceAdd, Nat.reduceMul, Int.reduceToNat]; done) | exact rfl)))
      | ((with_reducible apply Qr.row1); exact rfl; (repeat (first | with_reducible exact In.here | with_reducible apply In.there)); exact rfl)
      | ((with_reducible apply Qr.rowN); exact rfl; (repeat (first | with_reducible exact In.here | with_reducible apply In.there)); (focus ((try simp only [nl, Nat.reduceAdd, Nat.reduceMul, Int.reduceToNat]); try exact rfl)); exact rfl)
      | ((with_reducible apply Qr.lenRow); exact rfl; (repeat (first | with_reducible exact In.here | with_reducible apply In.there)))))
    | ((with_reducible apply J.guard_on); exact rfl; exact rfl)
    | ((with_reducible apply J.guard_off); exact rfl; exact rfl; exact rfl; exact rfl)
    | ((with_reducible apply J.guard_off_none); exact rfl; exact rfl; exact rfl)
    | ((with_reducible apply J.gsplit); exact rfl; exact rfl)
    | ((with_reducible apply J.list); focus (first
      | ((with_reducible apply J.buildSlice); exact rfl; exact rfl; exact rfl; exact rfl; exact rfl; (simp only [bfill, rep, List.replicate_succ, List.replicate_zero, List.flatten_cons, List.flatten_nil, nl, Nat.reduceAdd, Nat.reduceMul, Int.reduceToNat]; exact rfl); intro _)
      | ((with_reducible apply J.buildSlice0); exact rfl; intro _)
      | ((with_reducible apply J.append); exact rfl; exact rfl; (repeat (first | with_reducible exact Out.here | with_reducible apply Out.there)); exact rfl; (repeat (first | with_reducible exact In.here | with_reducible apply In.there)); (focus ((try simp only [nl, Nat.reduceAdd, Nat.reduceMul, Int.reduceToNat]); try exact rfl)); exact rfl; exact rfl; exact rfl; exact rfl; exact rfl; (first | decide | (simp only [maxLen]; omega) | omega); (first | decide | (simp only [maxLen]; omega) | omega); intro _)
      | ((with_reducible apply J.appendNil); exact rfl; exact rfl; exact rfl; (repeat (first | with_reducible exact In.here | with_reducible apply In.there)); (focus ((try simp only [nl, Nat.reduceAdd, Nat.reduceMul, Int.reduceToNat]); try exact rfl)); exact rfl; exact rfl; exact rfl; exact rfl; exact rfl; (first | decide | (simp only [maxLen]; omega) | omega); (first | decide | (simp only [maxLen]; omega) | omega); intro _)
      | ((with_reducible apply J.boxN); exact rfl; exact rfl; intro _)
      | ((with_reducible apply J.box1); exact rfl; exact rfl; exact rfl; intro _)
      | ((with_reducible apply J.alloc); exact rfl; intro _)
      | ((with_reducible apply J.storeN); exact rfl; exact rfl; (repeat (first | with_reducible exact Upd.here | with_reducible apply Upd.there)); (focus ((try simp only [nl, Nat.reduceAdd, Nat.reduceMul, Int.reduceToNat]); try exact rfl)); (focus (first | (simp only [nl, Nat.reduceAdd, Nat.reduceMul, Int.reduceToNat]; done) | exact rfl)); (focus (first | (simp only [nl, Nat.reduceAdd, Nat.reduceMul, Int.reduceToNat]; done) | (simp only [nl, Nat.reduceAdd, Nat.reduceMul, Int.reduceToNat]; omega) | decide)); (first | (with_reducible exact wvs_ones _ _) | exact rfl))
      | ((with_reducible apply J.store1); exact rfl; exact rfl; exact rfl; (repeat (first | with_reducible exact Upd.here | with_reducible apply Upd.there)); (focus ((try simp only [nl, Nat.reduceAdd, Nat.reduceMul, Int.reduceToNat]); try exact rfl)); (first | decide | (simp only [nl, Nat.reduceAdd, Nat.reduceMul, Int.reduceToNat]; omega)))))
    | ((with_reducible apply J.cond_true); exact rfl)
    | ((with_reducible apply J.cond_false); exact rfl)
    | ((with_reducible apply J.cond); exact rfl)
    | (intro h; exfalso; (first | (simp at h; done) | (simp at h; omega) | omega))
    | (intro h; (try simp only [decide_eq_true_eq, decide_eq_false_iff_not, beq_iff_eq, beq_eq_false_iff_ne, Bool.not_eq_true', Bool.not_eq_false', bne_iff_ne, bne_eq_false_iff_eq, ne_eq, ge_iff_le, gt_iff_lt] at h))
    | (with_reducible apply J.cret)
    | ((with_reducible apply J.ret); exact rfl; exact rfl; (repeat (first | (with_reducible exact Res.nil) | ((with_reducible apply Res.tmp); exact rfl) | ((with_reducible apply Res.cell1); exact rfl; (repeat (first | with_reducible exact In.here | with_reducible apply In.there)); exact rfl) | ((with_reducible apply Res.cellN); exact rfl; (repeat (first | with_reducible exact In.here | with_reducible apply In.there)); (focus ((try simp only [nl, Nat.reduceAdd, Nat.reduceMul, Int.reduceToNat]); try exact rfl)); (focus (first | (simp only [nl, Nat.reduceAdd, Nat.reduceMul, Int.reduceToNat]; done) | exact rfl))))); exact rfl)
    | ((with_reducible apply J.ret_normal); exact rfl; exact rfl; (repeat (first | (with_reducible exact Res.nil) | ((with_reducible apply Res.tmp); exact rfl) | ((with_reducible apply Res.cell1); exact rfl; (repeat (first | with_reducible exact In.here | with_reducible apply In.there)); exact rfl) | ((with_reducible apply Res.cellN); exact rfl; (repeat (first | with_reducible exact In.here | with_reducible apply In.there)); (focus ((try simp only [nl, Nat.reduceAdd, Nat.reduceMul, Int.reduceToNat]); try exact rfl)); (focus (first | (simp only [nl, Nat.reduceAdd, Nat.reduceMul, Int.reduceToNat]; done) | exact rfl))))); exact rfl)
    | (with_reducible apply J.gave')
    | ((with_reducible apply J.kept'); rotate_left; (repeat (first | (with_reducible exact Outs.nil) | ((with_reducible apply Outs.cons); (repeat (first | with_reducible exact Out.here | with_reducible apply Out.there))))))
    | (with_reducible apply J.exit)
    | (with_reducible apply J.then_ret)
    | (with_reducible apply J.then_exit)
    | (with_reducible apply J.then_panic)
    | (with_reducible apply J.blk_ret)
    | (with_reducible apply J.blk_panic)
    | (with_reducible apply J.blk_exit)
    | ((with_reducible apply J.blk_past); exact rfl)
  all_goals ((simp only [retv, Value.int.injEq, true_and]; (repeat' split) <;> omega))
theorem alive18  (w : World) : CSpec Try.prog 66 [] [] w (Gives (.bool true)) := by
  refine spec_of Try.func66 rfl Try.ntmps66 rfl (l0 := []) rfl ?_
  intro fp
  repeat' first
    | (with_reducible apply J.seq)
    | (with_reducible apply J.region_lit)
    | (with_reducible apply J.ops_nil)
    | (with_reducible apply J.app_cons)
    | (with_reducible apply J.app_nil)
    | (with_reducible apply J.then_)
    | (with_reducible apply J.blk_)
    | (with_reducible apply J.skip)
    | (with_reducible apply J.block)
    | ((with_reducible apply J.q0); exact rfl; focus (first
      | ((with_reducible apply Qv.buildW); exact rfl; exact rfl; (first | with_reducible assumption | (unfold Wo; omega) | (simp only [Wd, Wo] at *; omega)))
      | ((with_reducible apply Qv.buildW0); exact rfl; exact rfl)
      | ((with_reducible apply Qv.eqlA); exact rfl; exact rfl; (kernel_rfl); (refine weq _ _ (And.intro ?_ ?_) <;> (first | exact hw1 | exact ofv_wd _ (by unfold Wd; omega) | (unfold Wd; omega))))
      | ((with_reducible apply Qv.neqA); exact rfl; exact rfl; (kernel_rfl); (refine weq _ _ (And.intro ?_ ?_) <;> (first | exact ofv_wd _ (by unfold Wd; omega) | (unfold Wd; omega))))
      | ((with_reducible apply Qv.pure); exact rfl)
      | ((with_reducible apply Qv.fieldAddr); exact rfl; (focus ((try simp only [nl, Nat.reduceAdd, Nat.reduceMul, Int.reduceToNat]); try exact rfl)))
      | ((with_reducible first | apply Qv.indexArr | apply Qv.indexBlk | apply Qv.indexN); exact rfl; exact rfl; (first | decide | omega | (constructor <;> omega)); (focus ((try simp only [nl, Nat.reduceAdd, Nat.reduceMul, Int.reduceToNat]); try exact rfl)))
      | ((with_reducible apply Qv.field1); exact rfl; exact rfl)
      | ((with_reducible apply Qv.fieldN); exact rfl; (focus ((try simp only [nl, Nat.reduceAdd, Nat.reduceMul, Int.reduceToNat]); try exact rfl)))
      | ((with_reducible apply Qv.index1); exact rfl; exact rfl; (first | decide | omega | (constructor <;> omega)); exact rfl)
      | ((with_reducible first | apply Qv.add | apply Qv.sub | apply Qv.mul); exact rfl; exact rfl; (first | exact wr64 (by omega) (by omega) (by (try simp only [Int.reduceAdd, Int.reduceSub, Int.reduceMul]); exact rfl) | exact wru64 (by omega) (by omega) (by (try simp only [Int.reduceAdd, Int.reduceSub, Int.reduceMul]); exact rfl) | exact rfl))
      | ((with_reducible apply Qv.conv); exact rfl; (first | exact wr64 (by omega) (by omega) (by (try simp only [Int.reduceAdd, Int.reduceSub, Int.reduceMul]); exact rfl) | exact wru64 (by omega) (by omega) (by (try simp only [Int.reduceAdd, Int.reduceSub, Int.reduceMul]); exact rfl) | exact rfl))
      | ((with_reducible first | apply Qv.eqlB | apply Qv.neqB); exact rfl; exact rfl)
      | ((with_reducible first | apply Qv.buildA | apply Qv.buildS); exact rfl; (simp only [bfill, nl, Nat.reduceAdd, Nat.reduceMul, Int.reduceToNat]; exact rfl))
      | ((with_reducible apply Qv.quoP); exact rfl; exact rfl; (first | decide | omega); (omega); (first | exact wr64 (by omega) (by omega) rfl | exact wru64 (by omega) (by omega) rfl))
      | ((with_reducible apply Qv.remP); exact rfl; exact rfl; (first | decide | omega); omega)
      | ((with_reducible apply Qv.rem); exact rfl; exact rfl; (first | decide | omega); exact rfl)
      | ((with_reducible apply Qv.quo); exact rfl; exact rfl; (first | decide | omega); (first | exact wr64 (by omega) (by omega) (by (try simp only [Int.reduceAdd, Int.reduceSub, Int.reduceMul]); exact rfl) | exact wru64 (by omega) (by omega) (by (try simp only [Int.reduceAdd, Int.reduceSub, Int.reduceMul]); exact rfl) | exact rfl))
      | ((with_reducible apply Qv.shl); exact rfl; exact rfl; (first | decide | omega); (first | (first | exact wr64 (by omega) (by omega) (by (try simp only [Int.reduceAdd, Int.reduceSub, Int.reduceMul]); exact rfl) | exact wru64 (by omega) (by omega) (by (try simp only [Int.reduceAdd, Int.reduceSub, Int.reduceMul]); exact rfl) | exact rfl) | exact rfl))
      | ((with_reducible apply Qv.shr); exact rfl; exact rfl; (first | decide | omega); exact rfl)
      | ((with_reducible apply Qv.lenS); exact rfl)
      | ((with_reducible apply Qv.lenStr); exact rfl)
      | ((with_reducible apply Qv.capS); exact rfl)
      | ((with_reducible apply Qv.max); exact rfl; exact rfl)
      | ((with_reducible apply Qv.min); exact rfl; exact rfl)))
    | ((with_reducible apply J.q1); exact rfl; focus (first
      | ((with_reducible apply Qr.load1); exact rfl; (repeat (first | with_reducible exact In.here | with_reducible apply In.there)); exact rfl)
      | ((with_reducible apply Qr.loadN); exact rfl; (repeat (first | with_reducible exact In.here | with_reducible apply In.there)); (focus ((try simp only [nl, Nat.reduceAdd, Nat.reduceMul, Int.reduceToNat]); try exact rfl)); (focus (first | (simp only [nl, Nat.reduceAdd, Nat.reduceMul, Int.reduceToNat]; done) | exact rfl)))
      | ((with_reducible apply Qr.row1); exact rfl; (repeat (first | with_reducible exact In.here | with_reducible apply In.there)); exact rfl)
      | ((with_reducible apply Qr.rowN); exact rfl; (repeat (first | with_reducible exact In.here | with_reducible apply In.there)); (focus ((try simp only [nl, Nat.reduceAdd, Nat.reduceMul, Int.reduceToNat]); try exact rfl)); exact rfl)
      | ((with_reducible apply Qr.lenRow); exact rfl; (repeat (first | with_reducible exact In.here | with_reducible apply In.there)))))
    | ((with_reducible apply J.guard_on); exact rfl; exact rfl)
    | ((with_reducible apply J.guard_off); exact rfl; exact rfl; exact rfl; exact rfl)
    | ((with_reducible apply J.guard_off_none); exact rfl; exact rfl; exact rfl)
    | ((with_reducible apply J.gsplit); exact rfl; exact rfl)
    | ((with_reducible apply J.list); focus (first
      | ((with_reducible apply J.allocW); exact rfl; exact rfl; intro _)
      | ((with_reducible apply J.givesP (offer _ _)); exact rfl; exact rfl; (unfold Wd; omega))
      | ((with_reducible apply J.buildSlice); exact rfl; exact rfl; exact rfl; exact rfl; exact rfl; (simp only [bfill, rep, List.replicate_succ, List.replicate_zero, List.flatten_cons, List.flatten_nil, nl, Nat.reduceAdd, Nat.reduceMul, Int.reduceToNat]; exact rfl); intro _)
      | ((with_reducible apply J.buildSlice0); exact rfl; intro _)
      | ((with_reducible apply J.append); exact rfl; exact rfl; (repeat (first | with_reducible exact Out.here | with_reducible apply Out.there)); exact rfl; (repeat (first | with_reducible exact In.here | with_reducible apply In.there)); (focus ((try simp only [nl, Nat.reduceAdd, Nat.reduceMul, Int.reduceToNat]); try exact rfl)); exact rfl; exact rfl; exact rfl; exact rfl; exact rfl; (first | decide | (simp only [maxLen]; omega) | omega); (first | decide | (simp only [maxLen]; omega) | omega); intro _)
      | ((with_reducible apply J.appendNil); exact rfl; exact rfl; exact rfl; (repeat (first | with_reducible exact In.here | with_reducible apply In.there)); (focus ((try simp only [nl, Nat.reduceAdd, Nat.reduceMul, Int.reduceToNat]); try exact rfl)); exact rfl; exact rfl; exact rfl; exact rfl; exact rfl; (first | decide | (simp only [maxLen]; omega) | omega); (first | decide | (simp only [maxLen]; omega) | omega); intro _)
      | ((with_reducible apply J.boxN); exact rfl; exact rfl; intro _)
      | ((with_reducible apply J.box1); exact rfl; exact rfl; exact rfl; intro _)
      | ((with_reducible apply J.alloc); exact rfl; intro _)
      | ((with_reducible apply J.storeN); exact rfl; exact rfl; (repeat (first | with_reducible exact Upd.here | with_reducible apply Upd.there)); (focus ((try simp only [nl, Nat.reduceAdd, Nat.reduceMul, Int.reduceToNat]); try exact rfl)); (focus (first | (simp only [nl, Nat.reduceAdd, Nat.reduceMul, Int.reduceToNat]; done) | exact rfl)); (focus (first | (simp only [nl, Nat.reduceAdd, Nat.reduceMul, Int.reduceToNat]; done) | (simp only [nl, Nat.reduceAdd, Nat.reduceMul, Int.reduceToNat]; omega) | decide)); (first | (with_reducible exact wvs_ones _ _) | exact rfl))
      | ((with_reducible apply J.store1); exact rfl; exact rfl; exact rfl; (repeat (first | with_reducible exact Upd.here | with_reducible apply Upd.there)); (focus ((try simp only [nl, Nat.reduceAdd, Nat.reduceMul, Int.reduceToNat]); try exact rfl)); (first | decide | (simp only [nl, Nat.reduceAdd, Nat.reduceMul, Int.reduceToNat]; omega)))))
    | ((with_reducible apply J.cond_true); exact rfl)
    | ((with_reducible apply J.cond_false); exact rfl)
    | ((with_reducible apply J.cond); exact rfl)
    | (intro h; exfalso; (revert h; decide))
    | (intro h; (try simp only [decide_eq_true_eq, decide_eq_false_iff_not, beq_iff_eq, beq_eq_false_iff_ne, Bool.not_eq_true', Bool.not_eq_false', bne_iff_ne, bne_eq_false_iff_eq, ne_eq, ge_iff_le, gt_iff_lt] at h))
    | (with_reducible apply J.cret)
    | ((with_reducible apply J.ret); exact rfl; exact rfl; (repeat (first | (with_reducible exact Res.nil) | ((with_reducible apply Res.tmp); exact rfl) | ((with_reducible apply Res.cell1); exact rfl; (repeat (first | with_reducible exact In.here | with_reducible apply In.there)); exact rfl) | ((with_reducible apply Res.cellN); exact rfl; (repeat (first | with_reducible exact In.here | with_reducible apply In.there)); (focus ((try simp only [nl, Nat.reduceAdd, Nat.reduceMul, Int.reduceToNat]); try exact rfl)); (focus (first | (simp only [nl, Nat.reduceAdd, Nat.reduceMul, Int.reduceToNat]; done) | exact rfl))))); exact rfl)
    | ((with_reducible apply J.ret_normal); exact rfl; exact rfl; (repeat (first | (with_reducible exact Res.nil) | ((with_reducible apply Res.tmp); exact rfl) | ((with_reducible apply Res.cell1); exact rfl; (repeat (first | with_reducible exact In.here | with_reducible apply In.there)); exact rfl) | ((with_reducible apply Res.cellN); exact rfl; (repeat (first | with_reducible exact In.here | with_reducible apply In.there)); (focus ((try simp only [nl, Nat.reduceAdd, Nat.reduceMul, Int.reduceToNat]); try exact rfl)); (focus (first | (simp only [nl, Nat.reduceAdd, Nat.reduceMul, Int.reduceToNat]; done) | exact rfl))))); exact rfl)
    | (with_reducible apply J.gave')
    | ((with_reducible apply J.kept'); rotate_left; (repeat (first | (with_reducible exact Outs.nil) | ((with_reducible apply Outs.cons); (repeat (first | with_reducible exact Out.here | with_reducible apply Out.there))))))
    | (with_reducible apply J.exit)
    | (with_reducible apply J.then_ret)
    | (with_reducible apply J.then_exit)
    | (with_reducible apply J.then_panic)
    | (with_reducible apply J.blk_ret)
    | (with_reducible apply J.blk_panic)
    | (with_reducible apply J.blk_exit)
    | ((with_reducible apply J.blk_past); exact rfl)
  all_goals ((first | rfl | (simp only [retv]; decide) | (trace_state; fail)))
theorem off_mono {a p : Int} (ha : Wd a) (hp : 0 ≤ p ∧ p < 10000) : (offok a p = false → offok a (p + 1) = false) ∧ (offok a p = true → offok a (p + 1) = true → ofv a (p + 1) ≤ ofv a p) ∧ (offok a p = true → 0 < ofv a p ∧ ofv a p ≤ a) := by
  have e1 := cp_eq (p := p) (by omega)
  have e2 := cp_eq (p := p + 1) (by omega)
  have h1 : a * (p + 1) = a * p + a := by rw [Int.mul_add, Int.mul_one]
  have h2 := spv_bd p ha
  have h3 := spv_bd (p + 1) ha
  have h4 : 0 ≤ a * p := Int.mul_nonneg ha.1 hp.1
  unfold offok ofv offok spv at *
  rw [e1] at h2 ⊢
  rw [e2, h1] at h3 ⊢
  unfold Wd at ha
  generalize a * p = q at *
  simp only [Bool.and_eq_true, Bool.and_eq_false_iff, decide_eq_true_eq, decide_eq_false_iff_not, Bool.not_eq_true', Bool.not_eq_false', Bool.not_eq_true]
  refine ⟨fun h => ?_, fun h h' => ?_, fun h => ?_⟩
  · rcases h with h | h
    · exact .inl (by omega)
    · rcases Int.lt_or_le (q + a) 115792089237316195423570985008687907853269984665640564039457584007913129639936 with h6 | h6
      · refine .inr ?_
        simp only [if_pos h6, if_pos (show q < 115792089237316195423570985008687907853269984665640564039457584007913129639936 by omega)] at h h2 h3 ⊢
        omega
      · exact .inl (by omega)
  · simp only [if_pos h.1, if_pos h'.1] at h h' h2 h3 ⊢
    rw [if_pos (by simp [h'.1]; exact h'.2), if_pos (by simp [h.1]; exact h.2)]
    omega
  · simp only [if_pos h.1] at h h2 ⊢
    rw [if_pos (by simp [h.1]; exact h.2)]
    omega
theorem quoteBelow (a p : Int) (ha : Wd a) (w : World) : CSpec Try.prog 17 [.agg (wv a).toArray, .int .i64 p] [] w (Gives (.bool true)) := by
  obtain ⟨z, hz⟩ : ∃ z, p.tmod 10000 = z := ⟨_, rfl⟩
  have hzb : -10000 < z ∧ z < 10000 := by
    rw [← hz]
    exact ⟨by have := Int.lt_tmod_of_pos p (show (0 : Int) < 10000 by decide); omega, Int.tmod_lt_of_pos p (by decide)⟩
  have hpp : 0 ≤ (z + 10000) % 10000 ∧ (z + 10000) % 10000 < 10000 := by omega
  obtain ⟨m1, m2, m3⟩ := off_mono (p := (z + 10000) % 10000) ha hpp
  refine spec_of Try.func17 rfl Try.ntmps17 rfl (l0 := [(0, .agg (wv a).toArray), (1, .int .i64 p)]) rfl ?_
  intro fp
  repeat' first
    | (with_reducible apply J.seq)
    | (with_reducible apply J.region_lit)
    | (with_reducible apply J.ops_nil)
    | (with_reducible apply J.app_cons)
    | (with_reducible apply J.app_nil)
    | (with_reducible apply J.then_)
    | (with_reducible apply J.blk_)
    | (with_reducible apply J.skip)
    | (with_reducible apply J.block)
    | ((with_reducible apply J.q0); exact rfl; focus (first
      | ((with_reducible apply Qv.buildW); exact rfl; exact rfl; (first | with_reducible assumption | (unfold Wo; omega) | (simp only [Wd, Wo] at *; omega)))
      | ((with_reducible apply Qv.buildW0); exact rfl; exact rfl)
      | ((with_reducible apply Qv.eqlA); exact rfl; exact rfl; (kernel_rfl); (refine weq _ _ (And.intro ?_ ?_) <;> (first | exact ha | exact ofv_wd _ ha | exact spv_wd _ ha | (unfold Wd; omega))))
      | ((with_reducible apply Qv.neqA); exact rfl; exact rfl; (kernel_rfl); (refine weq _ _ (And.intro ?_ ?_) <;> (first | exact ha | exact ofv_wd _ ha | exact spv_wd _ ha | (unfold Wd; omega))))
      | ((with_reducible apply Qv.rem); exact rfl; exact rfl; (first | decide | omega); with_reducible exact hz)
      | ((with_reducible apply Qv.pure); exact rfl)
      | ((with_reducible apply Qv.fieldAddr); exact rfl; (focus ((try simp only [nl, Nat.reduceAdd, Nat.reduceMul, Int.reduceToNat]); try exact rfl)))
      | ((with_reducible first | apply Qv.indexArr | apply Qv.indexBlk | apply Qv.indexN); exact rfl; exact rfl; (first | decide | omega | (constructor <;> omega)); (focus ((try simp only [nl, Nat.reduceAdd, Nat.reduceMul, Int.reduceToNat]); try exact rfl)))
      | ((with_reducible apply Qv.field1); exact rfl; exact rfl)
      | ((with_reducible apply Qv.fieldN); exact rfl; (focus ((try simp only [nl, Nat.reduceAdd, Nat.reduceMul, Int.reduceToNat]); try exact rfl)))
      | ((with_reducible apply Qv.index1); exact rfl; exact rfl; (first | decide | omega | (constructor <;> omega)); exact rfl)
      | ((with_reducible first | apply Qv.add | apply Qv.sub | apply Qv.mul); exact rfl; exact rfl; (first | exact wr64 (by omega) (by omega) (by (try simp only [Int.reduceAdd, Int.reduceSub, Int.reduceMul]); exact rfl) | exact wru64 (by omega) (by omega) (by (try simp only [Int.reduceAdd, Int.reduceSub, Int.reduceMul]); exact rfl) | exact rfl))
      | ((with_reducible apply Qv.conv); exact rfl; (first | exact wr64 (by omega) (by omega) (by (try simp only [Int.reduceAdd, Int.reduceSub, Int.reduceMul]); exact rfl) | exact wru64 (by omega) (by omega) (by (try simp only [Int.reduceAdd, Int.reduceSub, Int.reduceMul]); exact rfl) | exact rfl))
      | ((with_reducible first | apply Qv.eqlB | apply Qv.neqB); exact rfl; exact rfl)
      | ((with_reducible first | apply Qv.buildA | apply Qv.buildS); exact rfl; (simp only [bfill, nl, Nat.reduceAdd, Nat.reduceMul, Int.reduceToNat]; exact rfl))
      | ((with_reducible apply Qv.quoP); exact rfl; exact rfl; (first | decide | omega); (omega); (first | exact wr64 (by omega) (by omega) rfl | exact wru64 (by omega) (by omega) rfl))
      | ((with_reducible apply Qv.remP); exact rfl; exact rfl; (first | decide | omega); omega)
      | ((with_reducible apply Qv.rem); exact rfl; exact rfl; (first | decide | omega); exact rfl)
      | ((with_reducible apply Qv.quo); exact rfl; exact rfl; (first | decide | omega); (first | exact wr64 (by omega) (by omega) (by (try simp only [Int.reduceAdd, Int.reduceSub, Int.reduceMul]); exact rfl) | exact wru64 (by omega) (by omega) (by (try simp only [Int.reduceAdd, Int.reduceSub, Int.reduceMul]); exact rfl) | exact rfl))
      | ((with_reducible apply Qv.shl); exact rfl; exact rfl; (first | decide | omega); (first | (first | exact wr64 (by omega) (by omega) (by (try simp only [Int.reduceAdd, Int.reduceSub, Int.reduceMul]); exact rfl) | exact wru64 (by omega) (by omega) (by (try simp only [Int.reduceAdd, Int.reduceSub, Int.reduceMul]); exact rfl) | exact rfl) | exact rfl))
      | ((with_reducible apply Qv.shr); exact rfl; exact rfl; (first | decide | omega); exact rfl)
      | ((with_reducible apply Qv.lenS); exact rfl)
      | ((with_reducible apply Qv.lenStr); exact rfl)
      | ((with_reducible apply Qv.capS); exact rfl)
      | ((with_reducible apply Qv.max); exact rfl; exact rfl)
      | ((with_reducible apply Qv.min); exact rfl; exact rfl)))
    | ((with_reducible apply J.q1); exact rfl; focus (first
      | ((with_reducible apply Qr.load1); exact rfl; (repeat (first | with_reducible exact In.here | with_reducible apply In.there)); exact rfl)
      | ((with_reducible apply Qr.loadN); exact rfl; (repeat (first | with_reducible exact In.here | with_reducible apply In.there)); (focus ((try simp only [nl, Nat.reduceAdd, Nat.reduceMul, Int.reduceToNat]); try exact rfl)); (focus (first | (simp only [nl, Nat.reduceAdd, Nat.reduceMul, Int.reduceToNat]; done) | exact rfl)))
      | ((with_reducible apply Qr.row1); exact rfl; (repeat (first | with_reducible exact In.here | with_reducible apply In.there)); exact rfl)
      | ((with_reducible apply Qr.rowN); exact rfl; (repeat (first | with_reducible exact In.here | with_reducible apply In.there)); (focus ((try simp only [nl, Nat.reduceAdd, Nat.reduceMul, Int.reduceToNat]); try exact rfl)); exact rfl)
      | ((with_reducible apply Qr.lenRow); exact rfl; (repeat (first | with_reducible exact In.here | with_reducible apply In.there)))))
    | ((with_reducible apply J.guard_on); exact rfl; exact rfl)
    | ((with_reducible apply J.guard_off); exact rfl; exact rfl; exact rfl; exact rfl)
    | ((with_reducible apply J.guard_off_none); exact rfl; exact rfl; exact rfl)
    | ((with_reducible apply J.gsplit); exact rfl; exact rfl)
    | ((with_reducible apply J.list); focus (first
      | ((with_reducible apply J.allocW); exact rfl; exact rfl; intro _)
      | ((with_reducible apply J.givesW (alive18)); exact rfl; exact rfl)
      | ((with_reducible apply J.givesP (offer _ _)); exact rfl; exact rfl; (exact ha))
      | ((with_reducible apply J.givesP (Ref.cmp _ _)); exact rfl; exact rfl; (refine ⟨?_, ?_⟩ <;> (first | exact ha | exact ofv_wd _ ha | exact spv_wd _ ha | (unfold Wd; omega))))
      | ((with_reducible apply J.buildSlice); exact rfl; exact rfl; exact rfl; exact rfl; exact rfl; (simp only [bfill, rep, List.replicate_succ, List.replicate_zero, List.flatten_cons, List.flatten_nil, nl, Nat.reduceAdd, Nat.reduceMul, Int.reduceToNat]; exact rfl); intro _)
      | ((with_reducible apply J.buildSlice0); exact rfl; intro _)
      | ((with_reducible apply J.append); exact rfl; exact rfl; (repeat (first | with_reducible exact Out.here | with_reducible apply Out.there)); exact rfl; (repeat (first | with_reducible exact In.here | with_reducible apply In.there)); (focus ((try simp only [nl, Nat.reduceAdd, Nat.reduceMul, Int.reduceToNat]); try exact rfl)); exact rfl; exact rfl; exact rfl; exact rfl; exact rfl; (first | decide | (simp only [maxLen]; omega) | omega); (first | decide | (simp only [maxLen]; omega) | omega); intro _)
      | ((with_reducible apply J.appendNil); exact rfl; exact rfl; exact rfl; (repeat (first | with_reducible exact In.here | with_reducible apply In.there)); (focus ((try simp only [nl, Nat.reduceAdd, Nat.reduceMul, Int.reduceToNat]); try exact rfl)); exact rfl; exact rfl; exact rfl; exact rfl; exact rfl; (first | decide | (simp only [maxLen]; omega) | omega); (first | decide | (simp only [maxLen]; omega) | omega); intro _)
      | ((with_reducible apply J.boxN); exact rfl; exact rfl; intro _)
      | ((with_reducible apply J.box1); exact rfl; exact rfl; exact rfl; intro _)
      | ((with_reducible apply J.alloc); exact rfl; intro _)
      | ((with_reducible apply J.storeN); exact rfl; exact rfl; (repeat (first | with_reducible exact Upd.here | with_reducible apply Upd.there)); (focus ((try simp only [nl, Nat.reduceAdd, Nat.reduceMul, Int.reduceToNat]); try exact rfl)); (focus (first | (simp only [nl, Nat.reduceAdd, Nat.reduceMul, Int.reduceToNat]; done) | exact rfl)); (focus (first | (simp only [nl, Nat.reduceAdd, Nat.reduceMul, Int.reduceToNat]; done) | (simp only [nl, Nat.reduceAdd, Nat.reduceMul, Int.reduceToNat]; omega) | decide)); (first | (with_reducible exact wvs_ones _ _) | exact rfl))
      | ((with_reducible apply J.store1); exact rfl; exact rfl; exact rfl; (repeat (first | with_reducible exact Upd.here | with_reducible apply Upd.there)); (focus ((try simp only [nl, Nat.reduceAdd, Nat.reduceMul, Int.reduceToNat]); try exact rfl)); (first | decide | (simp only [nl, Nat.reduceAdd, Nat.reduceMul, Int.reduceToNat]; omega)))))
    | ((with_reducible apply J.cond_true); exact rfl)
    | ((with_reducible apply J.cond_false); exact rfl)
    | ((with_reducible apply J.cond); exact rfl)
    | (intro h; exfalso; (first | (simp at h; done) | (simp at h; omega) | omega))
    | (intro h; (try simp only [decide_eq_true_eq, decide_eq_false_iff_not, beq_iff_eq, beq_eq_false_iff_ne, Bool.not_eq_true', Bool.not_eq_false', bne_iff_ne, bne_eq_false_iff_eq, ne_eq, ge_iff_le, gt_iff_lt] at h))
    | (with_reducible apply J.cret)
    | ((with_reducible apply J.ret); exact rfl; exact rfl; (repeat (first | (with_reducible exact Res.nil) | ((with_reducible apply Res.tmp); exact rfl) | ((with_reducible apply Res.cell1); exact rfl; (repeat (first | with_reducible exact In.here | with_reducible apply In.there)); exact rfl) | ((with_reducible apply Res.cellN); exact rfl; (repeat (first | with_reducible exact In.here | with_reducible apply In.there)); (focus ((try simp only [nl, Nat.reduceAdd, Nat.reduceMul, Int.reduceToNat]); try exact rfl)); (focus (first | (simp only [nl, Nat.reduceAdd, Nat.reduceMul, Int.reduceToNat]; done) | exact rfl))))); exact rfl)
    | ((with_reducible apply J.ret_normal); exact rfl; exact rfl; (repeat (first | (with_reducible exact Res.nil) | ((with_reducible apply Res.tmp); exact rfl) | ((with_reducible apply Res.cell1); exact rfl; (repeat (first | with_reducible exact In.here | with_reducible apply In.there)); exact rfl) | ((with_reducible apply Res.cellN); exact rfl; (repeat (first | with_reducible exact In.here | with_reducible apply In.there)); (focus ((try simp only [nl, Nat.reduceAdd, Nat.reduceMul, Int.reduceToNat]); try exact rfl)); (focus (first | (simp only [nl, Nat.reduceAdd, Nat.reduceMul, Int.reduceToNat]; done) | exact rfl))))); exact rfl)
    | (with_reducible apply J.gave')
    | ((with_reducible apply J.kept'); rotate_left; (repeat (first | (with_reducible exact Outs.nil) | ((with_reducible apply Outs.cons); (repeat (first | with_reducible exact Out.here | with_reducible apply Out.there))))))
    | (with_reducible apply J.exit)
    | (with_reducible apply J.then_ret)
    | (with_reducible apply J.then_exit)
    | (with_reducible apply J.then_panic)
    | (with_reducible apply J.blk_ret)
    | (with_reducible apply J.blk_panic)
    | (with_reducible apply J.blk_exit)
    | ((with_reducible apply J.blk_past); exact rfl)
  all_goals
    (generalize (z + 10000) % 10000 = pp at *)
    have m0 : offok a pp = false → ofv a pp = 0 := fun h => by unfold ofv; rw [h]; rfl
    first
    | rfl
    | (simp [retv, m1 (by assumption)]; done)
    | (exfalso; have := m0 (by assumption); omega)
    | (simp only [retv, Value.bool.injEq, decide_eq_true_eq, wcmp_le]; exact m2 (by assumption) (by assumption))
    | (exfalso; have := (m3 (by assumption)).1; omega)
    | (exfalso; have := (m3 (by assumption)).2; simp only [wcmp_le] at *; omega)
    | (trace_state; fail)
theorem quoteCovers (v m x a : Int) (hv : Wd v) (hm : Wd m) (hl : Wd x) (ha : Wd a) (w : World) : CSpec Try.prog 21 [.agg (wv v).toArray, .agg (wv m).toArray, .agg (wv x).toArray, .agg (wv a).toArray] [] w (Gives (.bool true)) := by
  refine spec_of Try.func21 rfl Try.ntmps21 rfl (l0 := [(0, .agg (wv v).toArray), (1, .agg (wv m).toArray), (2, .agg (wv x).toArray), (3, .agg (wv a).toArray)]) rfl ?_
  intro fp
  repeat' first
    | (with_reducible apply J.seq)
    | (with_reducible apply J.region_lit)
    | (with_reducible apply J.ops_nil)
    | (with_reducible apply J.app_cons)
    | (with_reducible apply J.app_nil)
    | (with_reducible apply J.then_)
    | (with_reducible apply J.blk_)
    | (with_reducible apply J.skip)
    | (with_reducible apply J.block)
    | ((with_reducible apply J.q0); exact rfl; focus (first
      | ((with_reducible apply Qv.buildW); exact rfl; exact rfl; (first | with_reducible assumption | (unfold Wo; omega) | (simp only [Wd, Wo] at *; omega)))
      | ((with_reducible apply Qv.buildW0); exact rfl; exact rfl)
      | ((with_reducible apply Qv.pure); exact rfl)
      | ((with_reducible apply Qv.fieldAddr); exact rfl; (focus ((try simp only [nl, Nat.reduceAdd, Nat.reduceMul, Int.reduceToNat]); try exact rfl)))
      | ((with_reducible first | apply Qv.indexArr | apply Qv.indexBlk | apply Qv.indexN); exact rfl; exact rfl; (first | decide | omega | (constructor <;> omega)); (focus ((try simp only [nl, Nat.reduceAdd, Nat.reduceMul, Int.reduceToNat]); try exact rfl)))
      | ((with_reducible apply Qv.field1); exact rfl; exact rfl)
      | ((with_reducible apply Qv.fieldN); exact rfl; (focus ((try simp only [nl, Nat.reduceAdd, Nat.reduceMul, Int.reduceToNat]); try exact rfl)))
      | ((with_reducible apply Qv.index1); exact rfl; exact rfl; (first | decide | omega | (constructor <;> omega)); exact rfl)
      | ((with_reducible first | apply Qv.add | apply Qv.sub | apply Qv.mul); exact rfl; exact rfl; (first | exact wr64 (by omega) (by omega) (by (try simp only [Int.reduceAdd, Int.reduceSub, Int.reduceMul]); exact rfl) | exact wru64 (by omega) (by omega) (by (try simp only [Int.reduceAdd, Int.reduceSub, Int.reduceMul]); exact rfl) | exact rfl))
      | ((with_reducible apply Qv.conv); exact rfl; (first | exact wr64 (by omega) (by omega) (by (try simp only [Int.reduceAdd, Int.reduceSub, Int.reduceMul]); exact rfl) | exact wru64 (by omega) (by omega) (by (try simp only [Int.reduceAdd, Int.reduceSub, Int.reduceMul]); exact rfl) | exact rfl))
      | ((with_reducible first | apply Qv.eqlB | apply Qv.neqB); exact rfl; exact rfl)
      | ((with_reducible first | apply Qv.buildA | apply Qv.buildS); exact rfl; (simp only [bfill, nl, Nat.reduceAdd, Nat.reduceMul, Int.reduceToNat]; exact rfl))
      | ((with_reducible apply Qv.quoP); exact rfl; exact rfl; (first | decide | omega); (omega); (first | exact wr64 (by omega) (by omega) rfl | exact wru64 (by omega) (by omega) rfl))
      | ((with_reducible apply Qv.remP); exact rfl; exact rfl; (first | decide | omega); omega)
      | ((with_reducible apply Qv.rem); exact rfl; exact rfl; (first | decide | omega); exact rfl)
      | ((with_reducible apply Qv.quo); exact rfl; exact rfl; (first | decide | omega); (first | exact wr64 (by omega) (by omega) (by (try simp only [Int.reduceAdd, Int.reduceSub, Int.reduceMul]); exact rfl) | exact wru64 (by omega) (by omega) (by (try simp only [Int.reduceAdd, Int.reduceSub, Int.reduceMul]); exact rfl) | exact rfl))
      | ((with_reducible apply Qv.shl); exact rfl; exact rfl; (first | decide | omega); (first | (first | exact wr64 (by omega) (by omega) (by (try simp only [Int.reduceAdd, Int.reduceSub, Int.reduceMul]); exact rfl) | exact wru64 (by omega) (by omega) (by (try simp only [Int.reduceAdd, Int.reduceSub, Int.reduceMul]); exact rfl) | exact rfl) | exact rfl))
      | ((with_reducible apply Qv.shr); exact rfl; exact rfl; (first | decide | omega); exact rfl)
      | ((with_reducible apply Qv.lenS); exact rfl)
      | ((with_reducible apply Qv.lenStr); exact rfl)
      | ((with_reducible apply Qv.capS); exact rfl)
      | ((with_reducible apply Qv.max); exact rfl; exact rfl)
      | ((with_reducible apply Qv.min); exact rfl; exact rfl)))
    | ((with_reducible apply J.q1); exact rfl; focus (first
      | ((with_reducible apply Qr.load1); exact rfl; (repeat (first | with_reducible exact In.here | with_reducible apply In.there)); exact rfl)
      | ((with_reducible apply Qr.loadN); exact rfl; (repeat (first | with_reducible exact In.here | with_reducible apply In.there)); (focus ((try simp only [nl, Nat.reduceAdd, Nat.reduceMul, Int.reduceToNat]); try exact rfl)); (focus (first | (simp only [nl, Nat.reduceAdd, Nat.reduceMul, Int.reduceToNat]; done) | exact rfl)))
      | ((with_reducible apply Qr.row1); exact rfl; (repeat (first | with_reducible exact In.here | with_reducible apply In.there)); exact rfl)
      | ((with_reducible apply Qr.rowN); exact rfl; (repeat (first | with_reducible exact In.here | with_reducible apply In.there)); (focus ((try simp only [nl, Nat.reduceAdd, Nat.reduceMul, Int.reduceToNat]); try exact rfl)); exact rfl)
      | ((with_reducible apply Qr.lenRow); exact rfl; (repeat (first | with_reducible exact In.here | with_reducible apply In.there)))))
    | ((with_reducible apply J.guard_on); exact rfl; exact rfl)
    | ((with_reducible apply J.guard_off); exact rfl; exact rfl; exact rfl; exact rfl)
    | ((with_reducible apply J.guard_off_none); exact rfl; exact rfl; exact rfl)
    | ((with_reducible apply J.gsplit); exact rfl; exact rfl)
    | ((with_reducible apply J.list); focus (first
      | ((with_reducible apply J.allocW); exact rfl; exact rfl; intro _)
      | ((with_reducible apply J.givesW (alive18)); exact rfl; exact rfl)
      | ((with_reducible apply J.givesP (add_r _ _)); exact rfl; exact rfl; (exact ⟨hv, hm⟩))
      | ((with_reducible apply J.givesP (covers _ _ _)); exact rfl; exact rfl; (first | exact ⟨hv, hl, ha⟩ | exact ⟨hv, ha, hl⟩ | exact ⟨hv, hl, by unfold Wd; omega⟩ | exact ⟨wadd_wd hv hm, hl, ha⟩))
      | ((with_reducible apply J.buildSlice); exact rfl; exact rfl; exact rfl; exact rfl; exact rfl; (simp only [bfill, rep, List.replicate_succ, List.replicate_zero, List.flatten_cons, List.flatten_nil, nl, Nat.reduceAdd, Nat.reduceMul, Int.reduceToNat]; exact rfl); intro _)
      | ((with_reducible apply J.buildSlice0); exact rfl; intro _)
      | ((with_reducible apply J.append); exact rfl; exact rfl; (repeat (first | with_reducible exact Out.here | with_reducible apply Out.there)); exact rfl; (repeat (first | with_reducible exact In.here | with_reducible apply In.there)); (focus ((try simp only [nl, Nat.reduceAdd, Nat.reduceMul, Int.reduceToNat]); try exact rfl)); exact rfl; exact rfl; exact rfl; exact rfl; exact rfl; (first | decide | (simp only [maxLen]; omega) | omega); (first | decide | (simp only [maxLen]; omega) | omega); intro _)
      | ((with_reducible apply J.appendNil); exact rfl; exact rfl; exact rfl; (repeat (first | with_reducible exact In.here | with_reducible apply In.there)); (focus ((try simp only [nl, Nat.reduceAdd, Nat.reduceMul, Int.reduceToNat]); try exact rfl)); exact rfl; exact rfl; exact rfl; exact rfl; exact rfl; (first | decide | (simp only [maxLen]; omega) | omega); (first | decide | (simp only [maxLen]; omega) | omega); intro _)
      | ((with_reducible apply J.boxN); exact rfl; exact rfl; intro _)
      | ((with_reducible apply J.box1); exact rfl; exact rfl; exact rfl; intro _)
      | ((with_reducible apply J.alloc); exact rfl; intro _)
      | ((with_reducible apply J.storeN); exact rfl; exact rfl; (repeat (first | with_reducible exact Upd.here | with_reducible apply Upd.there)); (focus ((try simp only [nl, Nat.reduceAdd, Nat.reduceMul, Int.reduceToNat]); try exact rfl)); (focus (first | (simp only [nl, Nat.reduceAdd, Nat.reduceMul, Int.reduceToNat]; done) | exact rfl)); (focus (first | (simp only [nl, Nat.reduceAdd, Nat.reduceMul, Int.reduceToNat]; done) | (simp only [nl, Nat.reduceAdd, Nat.reduceMul, Int.reduceToNat]; omega) | decide)); (first | (with_reducible exact wvs_ones _ _) | exact rfl))
      | ((with_reducible apply J.store1); exact rfl; exact rfl; exact rfl; (repeat (first | with_reducible exact Upd.here | with_reducible apply Upd.there)); (focus ((try simp only [nl, Nat.reduceAdd, Nat.reduceMul, Int.reduceToNat]); try exact rfl)); (first | decide | (simp only [nl, Nat.reduceAdd, Nat.reduceMul, Int.reduceToNat]; omega)))))
    | ((with_reducible apply J.cond_true); exact rfl)
    | ((with_reducible apply J.cond_false); exact rfl)
    | ((with_reducible apply J.cond); exact rfl)
    | (intro h; exfalso; (first | (simp at h; done) | omega))
    | (intro h; (try simp only [decide_eq_true_eq, decide_eq_false_iff_not, beq_iff_eq, beq_eq_false_iff_ne, Bool.not_eq_true', Bool.not_eq_false', bne_iff_ne, bne_eq_false_iff_eq, ne_eq, ge_iff_le, gt_iff_lt] at h))
    | (with_reducible apply J.cret)
    | ((with_reducible apply J.ret); exact rfl; exact rfl; (repeat (first | (with_reducible exact Res.nil) | ((with_reducible apply Res.tmp); exact rfl) | ((with_reducible apply Res.cell1); exact rfl; (repeat (first | with_reducible exact In.here | with_reducible apply In.there)); exact rfl) | ((with_reducible apply Res.cellN); exact rfl; (repeat (first | with_reducible exact In.here | with_reducible apply In.there)); (focus ((try simp only [nl, Nat.reduceAdd, Nat.reduceMul, Int.reduceToNat]); try exact rfl)); (focus (first | (simp only [nl, Nat.reduceAdd, Nat.reduceMul, Int.reduceToNat]; done) | exact rfl))))); exact rfl)
    | ((with_reducible apply J.ret_normal); exact rfl; exact rfl; (repeat (first | (with_reducible exact Res.nil) | ((with_reducible apply Res.tmp); exact rfl) | ((with_reducible apply Res.cell1); exact rfl; (repeat (first | with_reducible exact In.here | with_reducible apply In.there)); exact rfl) | ((with_reducible apply Res.cellN); exact rfl; (repeat (first | with_reducible exact In.here | with_reducible apply In.there)); (focus ((try simp only [nl, Nat.reduceAdd, Nat.reduceMul, Int.reduceToNat]); try exact rfl)); (focus (first | (simp only [nl, Nat.reduceAdd, Nat.reduceMul, Int.reduceToNat]; done) | exact rfl))))); exact rfl)
    | (with_reducible apply J.gave')
    | ((with_reducible apply J.kept'); rotate_left; (repeat (first | (with_reducible exact Outs.nil) | ((with_reducible apply Outs.cons); (repeat (first | with_reducible exact Out.here | with_reducible apply Out.there))))))
    | (with_reducible apply J.exit)
    | (with_reducible apply J.then_ret)
    | (with_reducible apply J.then_exit)
    | (with_reducible apply J.then_panic)
    | (with_reducible apply J.blk_ret)
    | (with_reducible apply J.blk_panic)
    | (with_reducible apply J.blk_exit)
    | ((with_reducible apply J.blk_past); exact rfl)
  all_goals
    first
    | rfl
    | (unfold Wd at *
       simp [retv, wadd] at *
       done)
    | (unfold Wd at *
       simp [retv, wadd] at *
       omega)
    | (unfold Wd at *
       simp_all [retv, wadd]
       omega)
    | (trace_state; fail)
theorem QuoteBelow {r : Reach} {b0 : Nat} {H : Type} {enc : TypeId × Value → H} {spare : Nat → Bool} {held : Bool} {d0 : DataW H} {p0 : List MemPlace} (v0 : Value) (x1 : Int) (W : World) (o0 : Value.okWide Try.prog W r b0 32 v0) (t0 : DataW.Trod enc Try.prog W 0 spare held 32 v0 d0 p0) (h1 : (Lit.int .i64 x1).wf = true) :
    Calls Try.prog 17 #[v0, .int .i64 x1] W fun e w' => e = .returned (.bool true) ∧ Below W.heap.size W w' := by
  obtain ⟨c0, rfl, r0⟩ := in_agg (L := wsh) (k := 3) o0 t0 (by kernel_rfl) (by kernel_rfl)
  obtain ⟨x0, h0, rfl⟩ := reads_wv r0
  exact (quoteBelow x0 x1 h0 W).below
theorem QuoteCovers {r : Reach} {b0 : Nat} {H : Type} {enc : TypeId × Value → H} {spare : Nat → Bool} {held : Bool} {d0 : DataW H} {p0 : List MemPlace} {d1 : DataW H} {p1 : List MemPlace} {d2 : DataW H} {p2 : List MemPlace} {d3 : DataW H} {p3 : List MemPlace} (v0 : Value) (v1 : Value) (v2 : Value) (v3 : Value) (W : World) (o0 : Value.okWide Try.prog W r b0 32 v0) (t0 : DataW.Trod enc Try.prog W 0 spare held 32 v0 d0 p0) (o1 : Value.okWide Try.prog W r b0 32 v1) (t1 : DataW.Trod enc Try.prog W 0 spare held 32 v1 d1 p1) (o2 : Value.okWide Try.prog W r b0 32 v2) (t2 : DataW.Trod enc Try.prog W 0 spare held 32 v2 d2 p2) (o3 : Value.okWide Try.prog W r b0 32 v3) (t3 : DataW.Trod enc Try.prog W 0 spare held 32 v3 d3 p3) :
    Calls Try.prog 21 #[v0, v1, v2, v3] W fun e w' => e = .returned (.bool true) ∧ Below W.heap.size W w' := by
  obtain ⟨c0, rfl, r0⟩ := in_agg (L := wsh) (k := 3) o0 t0 (by kernel_rfl) (by kernel_rfl)
  obtain ⟨x0, h0, rfl⟩ := reads_wv r0
  obtain ⟨c1, rfl, r1⟩ := in_agg (L := wsh) (k := 3) o1 t1 (by kernel_rfl) (by kernel_rfl)
  obtain ⟨x1, h1, rfl⟩ := reads_wv r1
  obtain ⟨c2, rfl, r2⟩ := in_agg (L := wsh) (k := 3) o2 t2 (by kernel_rfl) (by kernel_rfl)
  obtain ⟨x2, h2, rfl⟩ := reads_wv r2
  obtain ⟨c3, rfl, r3⟩ := in_agg (L := wsh) (k := 3) o3 t3 (by kernel_rfl) (by kernel_rfl)
  obtain ⟨x3, h3, rfl⟩ := reads_wv r3
  exact (quoteCovers x0 x1 x2 x3 h0 h1 h2 h3 W).below
end Go.Proofs.Ytnbckkpflmpnlaa.Quote
