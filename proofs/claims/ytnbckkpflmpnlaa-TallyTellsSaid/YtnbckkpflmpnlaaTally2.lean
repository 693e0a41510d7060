/-
  The laws TallySums and TallyAll. No conditions.
-/
import Derived.Test.YtnbckkpflmpnlaaTally
namespace Go.Proofs.Ytnbckkpflmpnlaa.Tally2
open Go Go.RowKit Eng
set_option linter.unusedVariables false
set_option maxRecDepth 100000
set_option linter.unusedSimpArgs false
open Tally
set_option maxHeartbeats 1000000
theorem al1 : dn (fun i => if i = 0 then 0 else 30) (fun _ => 0) 0 2 = 1 := by decide
theorem al2 : nt (fun i => if i = 0 then 0 else 30) (fun _ => 0) 0 2 = 1 := by decide
theorem alive  (w : World) : CSpec Try.prog 32 [] [] w (Gives (.bool true)) := by
  refine spec_of Try.func32 rfl Try.ntmps32 rfl (l0 := []) rfl ?_
  intro fp
  repeat' first
    | (with_reducible apply J.seq)
    | (with_reducible apply J.region_lit)
    | (with_reducible apply J.ops_nil)
    | (with_reducible apply J.app_cons)
    | (with_reducible apply J.app_nil)
    | (with_reducible apply J.then_)
    | (with_reducible apply J.blk_)
    | (with_reducible apply J.skip)
    | (with_reducible apply J.block)
    | ((with_reducible apply J.q0); exact rfl; focus (first
      | ((with_reducible apply Qv.fgeq); exact rfl; exact rfl; (first | with_reducible rfl | exact fl_one | exact fl_zero | exact fl_max); (first | with_reducible rfl | exact fl_one | exact fl_zero | exact fl_max); omega; omega)
      | ((with_reducible apply Qv.fleq); exact rfl; exact rfl; (first | with_reducible rfl | exact fl_one | exact fl_zero | exact fl_max); (first | with_reducible rfl | exact fl_one | exact fl_zero | exact fl_max); omega; omega)
      | ((with_reducible apply Qv.feql); exact rfl; exact rfl; exact (by kernel_rfl); (first | with_reducible rfl | exact fl_one | exact fl_zero | exact fl_max); (first | with_reducible rfl | exact fl_one | exact fl_zero | exact fl_max); omega; omega)
      | ((with_reducible apply Qv.fint); exact rfl; exact (by kernel_rfl); (first | with_reducible rfl | exact fl_one | exact fl_zero | exact fl_max); omega)
      | ((with_reducible apply Qv.intf); exact rfl; exact (by kernel_rfl); (first | with_reducible rfl | omega))
      | ((with_reducible apply Qv.real); exact rfl)
      | ((with_reducible apply Qv.imag); exact rfl)
      | ((with_reducible apply Qv.complex); exact rfl; exact rfl)
      | ((with_reducible apply Qv.cadd); exact rfl; exact rfl; (first | with_reducible rfl | exact fl_one | exact fl_zero | exact fl_max); (first | with_reducible rfl | exact fl_one | exact fl_zero | exact fl_max); (first | with_reducible rfl | exact fl_one | exact fl_zero | exact fl_max); (first | with_reducible rfl | exact fl_one | exact fl_zero | exact fl_max); (first | omega); (first | omega))
      | ((with_reducible apply Qv.pure); exact rfl)
      | ((with_reducible apply Qv.fieldAddr); exact rfl; (focus ((try simp only [nl, Nat.reduceAdd, Nat.reduceMul, Int.reduceToNat]); try exact rfl)))
      | ((with_reducible first | apply Qv.indexArr | apply Qv.indexBlk | apply Qv.indexN); exact rfl; exact rfl; (first | decide | omega | (constructor <;> omega)); (focus ((try simp only [nl, Nat.reduceAdd, Nat.reduceMul, Int.reduceToNat]); try exact rfl)))
      | ((with_reducible apply Qv.field1); exact rfl; exact rfl)
      | ((with_reducible apply Qv.fieldN); exact rfl; (focus ((try simp only [nl, Nat.reduceAdd, Nat.reduceMul, Int.reduceToNat]); try exact rfl)))
      | ((with_reducible apply Qv.index1); exact rfl; exact rfl; (first | decide | omega | (constructor <;> omega)); exact rfl)
      | ((with_reducible first | apply Qv.add | apply Qv.sub | apply Qv.mul); exact rfl; exact rfl; (first | exact wr64 (by omega) (by omega) (by (try simp only [Int.reduceAdd, Int.reduceSub, Int.reduceMul]); exact rfl) | exact wru64 (by omega) (by omega) (by (try simp only [Int.reduceAdd, Int.reduceSub, Int.reduceMul]); exact rfl) | exact rfl))
      | ((with_reducible apply Qv.conv); exact rfl; (first | exact wr64 (by omega) (by omega) (by (try simp only [Int.reduceAdd, Int.reduceSub, Int.reduceMul]); exact rfl) | exact wru64 (by omega) (by omega) (by (try simp only [Int.reduceAdd, Int.reduceSub, Int.reduceMul]); exact rfl) | exact rfl))
      | ((with_reducible first | apply Qv.eqlB | apply Qv.neqB); exact rfl; exact rfl)
      | ((with_reducible first | apply Qv.buildA | apply Qv.buildS); exact rfl; (simp only [bfill, nl, Nat.reduceAdd, Nat.reduceMul, Int.reduceToNat]; exact rfl))
      | ((with_reducible apply Qv.quoP); exact rfl; exact rfl; (first | decide | omega); (omega); (first | exact wr64 (by omega) (by omega) rfl | exact wru64 (by omega) (by omega) rfl))
      | ((with_reducible apply Qv.remP); exact rfl; exact rfl; (first | decide | omega); omega)
      | ((with_reducible apply Qv.rem); exact rfl; exact rfl; (first | decide | omega); exact rfl)
      | ((with_reducible apply Qv.quo); exact rfl; exact rfl; (first | decide | omega); (first | exact wr64 (by omega) (by omega) (by (try simp only [Int.reduceAdd, Int.reduceSub, Int.reduceMul]); exact rfl) | exact wru64 (by omega) (by omega) (by (try simp only [Int.reduceAdd, Int.reduceSub, Int.reduceMul]); exact rfl) | exact rfl))
      | ((with_reducible apply Qv.shl); exact rfl; exact rfl; (first | decide | omega); (first | (first | exact wr64 (by omega) (by omega) (by (try simp only [Int.reduceAdd, Int.reduceSub, Int.reduceMul]); exact rfl) | exact wru64 (by omega) (by omega) (by (try simp only [Int.reduceAdd, Int.reduceSub, Int.reduceMul]); exact rfl) | exact rfl) | exact rfl))
      | ((with_reducible apply Qv.shr); exact rfl; exact rfl; (first | decide | omega); exact rfl)
      | ((with_reducible apply Qv.lenS); exact rfl)
      | ((with_reducible apply Qv.lenStr); exact rfl)
      | ((with_reducible apply Qv.capS); exact rfl)
      | ((with_reducible apply Qv.max); exact rfl; exact rfl)
      | ((with_reducible apply Qv.min); exact rfl; exact rfl)))
    | ((with_reducible apply J.q1); exact rfl; focus (first
      | ((with_reducible apply Qr.load1); exact rfl; (repeat (first | with_reducible exact In.here | with_reducible apply In.there)); exact rfl)
      | ((with_reducible apply Qr.loadN); exact rfl; (repeat (first | with_reducible exact In.here | with_reducible apply In.there)); (focus ((try simp only [nl, Nat.reduceAdd, Nat.reduceMul, Int.reduceToNat]); try exact rfl)); (focus (first | (simp only [nl, Nat.reduceAdd, Nat.reduceMul, Int.reduceToNat]; done) | exact rfl)))
      | ((with_reducible apply Qr.row1); exact rfl; (repeat (first | with_reducible exact In.here | with_reducible apply In.there)); exact rfl)
      | ((with_reducible apply Qr.rowN); exact rfl; (repeat (first | with_reducible exact In.here | with_reducible apply In.there)); (focus ((try simp only [nl, Nat.reduceAdd, Nat.reduceMul, Int.reduceToNat]); try exact rfl)); exact rfl)
      | ((with_reducible apply Qr.lenRow); exact rfl; (repeat (first | with_reducible exact In.here | with_reducible apply In.there)))))
    | ((with_reducible apply J.guard_on); exact rfl; exact rfl)
    | ((with_reducible apply J.guard_off); exact rfl; exact rfl; exact rfl; exact rfl)
    | ((with_reducible apply J.guard_off_none); exact rfl; exact rfl; exact rfl)
    | ((with_reducible apply J.gsplit); exact rfl; exact rfl)
    | ((with_reducible apply J.list); focus (first
      | ((with_reducible apply J.keepsP (of (Eng.blk _ _ _) _ 2 2 _ (fun i => if i = 0 then 0 else 30) (fun _ => 0) 0)); exact rfl; exact rfl; (repeat (first | (with_reducible exact Outs.nil) | ((with_reducible apply Outs.cons); (repeat (first | with_reducible exact Out.here | with_reducible apply Out.there))))); (refine ⟨Srcs.blk rfl, fun i hi => ?_, by decide⟩; (rcases (by omega : i = 0 ∨ i = 1) with rfl | rfl <;> exact ⟨rfl, rfl, rfl, rfl⟩)))
      | ((with_reducible apply J.givesP (done _ _)); exact rfl; (focus (simp only [cxv]; exact rfl)); (exact (by decide)))
      | ((with_reducible apply J.givesP (failed _ _)); exact rfl; (focus (simp only [cxv]; exact rfl)); (exact (by decide)))
      | ((with_reducible apply J.buildSlice); exact rfl; exact rfl; exact rfl; exact rfl; exact rfl; (simp only [bfill, rep, List.replicate_succ, List.replicate_zero, List.flatten_cons, List.flatten_nil, nl, Nat.reduceAdd, Nat.reduceMul, Int.reduceToNat]; exact rfl); intro _)
      | ((with_reducible apply J.buildSlice0); exact rfl; intro _)
      | ((with_reducible apply J.append); exact rfl; exact rfl; (repeat (first | with_reducible exact Out.here | with_reducible apply Out.there)); exact rfl; (repeat (first | with_reducible exact In.here | with_reducible apply In.there)); (focus ((try simp only [nl, Nat.reduceAdd, Nat.reduceMul, Int.reduceToNat]); try exact rfl)); exact rfl; exact rfl; exact rfl; exact rfl; exact rfl; (first | decide | (simp only [maxLen]; omega) | omega); (first | decide | (simp only [maxLen]; omega) | omega); intro _)
      | ((with_reducible apply J.appendNil); exact rfl; exact rfl; exact rfl; (repeat (first | with_reducible exact In.here | with_reducible apply In.there)); (focus ((try simp only [nl, Nat.reduceAdd, Nat.reduceMul, Int.reduceToNat]); try exact rfl)); exact rfl; exact rfl; exact rfl; exact rfl; exact rfl; (first | decide | (simp only [maxLen]; omega) | omega); (first | decide | (simp only [maxLen]; omega) | omega); intro _)
      | ((with_reducible apply J.boxN); exact rfl; exact rfl; intro _)
      | ((with_reducible apply J.box1); exact rfl; exact rfl; exact rfl; intro _)
      | ((with_reducible apply J.alloc); exact rfl; intro _)
      | ((with_reducible apply J.storeN); exact rfl; exact rfl; (repeat (first | with_reducible exact Upd.here | with_reducible apply Upd.there)); (focus ((try simp only [nl, Nat.reduceAdd, Nat.reduceMul, Int.reduceToNat]); try exact rfl)); (focus (first | (simp only [nl, Nat.reduceAdd, Nat.reduceMul, Int.reduceToNat]; done) | exact rfl)); (focus (first | (simp only [nl, Nat.reduceAdd, Nat.reduceMul, Int.reduceToNat]; done) | (simp only [nl, Nat.reduceAdd, Nat.reduceMul, Int.reduceToNat]; omega) | decide)); (first | (with_reducible exact wvs_ones _ _) | exact rfl))
      | ((with_reducible apply J.store1); exact rfl; exact rfl; exact rfl; (repeat (first | with_reducible exact Upd.here | with_reducible apply Upd.there)); (focus ((try simp only [nl, Nat.reduceAdd, Nat.reduceMul, Int.reduceToNat]); try exact rfl)); (first | decide | (simp only [nl, Nat.reduceAdd, Nat.reduceMul, Int.reduceToNat]; omega)))))
    | ((with_reducible apply J.cond_true); exact rfl)
    | ((with_reducible apply J.cond_false); exact rfl)
    | ((with_reducible apply J.cond); exact rfl)
    | (intro h; exfalso; (first | (simp [al1, al2] at h; done) | omega))
    | (intro h; (try simp only [decide_eq_true_eq, decide_eq_false_iff_not, beq_iff_eq, beq_eq_false_iff_ne, Bool.not_eq_true', Bool.not_eq_false', bne_iff_ne, bne_eq_false_iff_eq, ne_eq, ge_iff_le, gt_iff_lt] at h))
    | (with_reducible apply J.cret)
    | ((with_reducible apply J.ret); exact rfl; exact rfl; (repeat (first | (with_reducible exact Res.nil) | ((with_reducible apply Res.tmp); exact rfl) | ((with_reducible apply Res.cell1); exact rfl; (repeat (first | with_reducible exact In.here | with_reducible apply In.there)); exact rfl) | ((with_reducible apply Res.cellN); exact rfl; (repeat (first | with_reducible exact In.here | with_reducible apply In.there)); (focus ((try simp only [nl, Nat.reduceAdd, Nat.reduceMul, Int.reduceToNat]); try exact rfl)); (focus (first | (simp only [nl, Nat.reduceAdd, Nat.reduceMul, Int.reduceToNat]; done) | exact rfl))))); exact rfl)
    | ((with_reducible apply J.ret_normal); exact rfl; exact rfl; (repeat (first | (with_reducible exact Res.nil) | ((with_reducible apply Res.tmp); exact rfl) | ((with_reducible apply Res.cell1); exact rfl; (repeat (first | with_reducible exact In.here | with_reducible apply In.there)); exact rfl) | ((with_reducible apply Res.cellN); exact rfl; (repeat (first | with_reducible exact In.here | with_reducible apply In.there)); (focus ((try simp only [nl, Nat.reduceAdd, Nat.reduceMul, Int.reduceToNat]); try exact rfl)); (focus (first | (simp only [nl, Nat.reduceAdd, Nat.reduceMul, Int.reduceToNat]; done) | exact rfl))))); exact rfl)
    | (with_reducible apply J.gave')
    | ((with_reducible apply J.kept'); rotate_left; (repeat (first | (with_reducible exact Outs.nil) | ((with_reducible apply Outs.cons); (repeat (first | with_reducible exact Out.here | with_reducible apply Out.there))))))
    | (with_reducible apply J.exit)
    | (with_reducible apply J.then_ret)
    | (with_reducible apply J.then_exit)
    | (with_reducible apply J.then_panic)
    | (with_reducible apply J.blk_ret)
    | (with_reducible apply J.blk_panic)
    | (with_reducible apply J.blk_exit)
    | ((with_reducible apply J.blk_past); exact rfl)
  all_goals ((first | rfl | (simp only [retv, al1, al2]; rfl) | (trace_state; fail)))
theorem tallySums (a b c d : Nat) (h : a < 4294967296 ∧ b < 4294967296 ∧ c < 4294967296 ∧ d < 4294967296) (w : World) : CSpec Try.prog 7 [.int .u32 (a : Int), .int .u32 (b : Int), .int .u32 (c : Int), .int .u32 (d : Int)] [] w (Gives (.bool true)) := by
  obtain ⟨ha, hb, hc, hd⟩ := h
  have e1 : nsum (fun j => if j = 0 then a else c) 2 = a + c := by simp [nsum]
  have e2 : nsum (fun j => if j = 0 then b else d) 2 = b + d := by simp [nsum]
  refine spec_of Try.func7 rfl Try.ntmps7 rfl (l0 := [(0, .int .u32 (a : Int)), (1, .int .u32 (b : Int)), (2, .int .u32 (c : Int)), (3, .int .u32 (d : Int))]) rfl ?_
  intro fp
  repeat' first
    | (with_reducible apply J.seq)
    | (with_reducible apply J.region_lit)
    | (with_reducible apply J.ops_nil)
    | (with_reducible apply J.app_cons)
    | (with_reducible apply J.app_nil)
    | (with_reducible apply J.then_)
    | (with_reducible apply J.blk_)
    | (with_reducible apply J.skip)
    | (with_reducible apply J.block)
    | ((with_reducible apply J.q0); exact rfl; focus (first
      | ((with_reducible apply Qv.fgeq); exact rfl; exact rfl; (first | with_reducible rfl | exact fl_one | exact fl_zero | exact fl_max); (first | with_reducible rfl | exact fl_one | exact fl_zero | exact fl_max); omega; omega)
      | ((with_reducible apply Qv.fleq); exact rfl; exact rfl; (first | with_reducible rfl | exact fl_one | exact fl_zero | exact fl_max); (first | with_reducible rfl | exact fl_one | exact fl_zero | exact fl_max); omega; omega)
      | ((with_reducible apply Qv.feql); exact rfl; exact rfl; exact (by kernel_rfl); (first | with_reducible rfl | exact fl_one | exact fl_zero | exact fl_max); (first | with_reducible rfl | exact fl_one | exact fl_zero | exact fl_max); omega; omega)
      | ((with_reducible apply Qv.fint); exact rfl; exact (by kernel_rfl); (first | with_reducible rfl | exact fl_one | exact fl_zero | exact fl_max); omega)
      | ((with_reducible apply Qv.intf); exact rfl; exact (by kernel_rfl); (first | with_reducible rfl | omega))
      | ((with_reducible apply Qv.real); exact rfl)
      | ((with_reducible apply Qv.imag); exact rfl)
      | ((with_reducible apply Qv.complex); exact rfl; exact rfl)
      | ((with_reducible apply Qv.cadd); exact rfl; exact rfl; (first | with_reducible rfl | exact fl_one | exact fl_zero | exact fl_max); (first | with_reducible rfl | exact fl_one | exact fl_zero | exact fl_max); (first | with_reducible rfl | exact fl_one | exact fl_zero | exact fl_max); (first | with_reducible rfl | exact fl_one | exact fl_zero | exact fl_max); (first | omega); (first | omega))
      | ((with_reducible apply Qv.pure); exact rfl)
      | ((with_reducible apply Qv.fieldAddr); exact rfl; (focus ((try simp only [nl, Nat.reduceAdd, Nat.reduceMul, Int.reduceToNat]); try exact rfl)))
      | ((with_reducible first | apply Qv.indexArr | apply Qv.indexBlk | apply Qv.indexN); exact rfl; exact rfl; (first | decide | omega | (constructor <;> omega)); (focus ((try simp only [nl, Nat.reduceAdd, Nat.reduceMul, Int.reduceToNat]); try exact rfl)))
      | ((with_reducible apply Qv.field1); exact rfl; exact rfl)
      | ((with_reducible apply Qv.fieldN); exact rfl; (focus ((try simp only [nl, Nat.reduceAdd, Nat.reduceMul, Int.reduceToNat]); try exact rfl)))
      | ((with_reducible apply Qv.index1); exact rfl; exact rfl; (first | decide | omega | (constructor <;> omega)); exact rfl)
      | ((with_reducible first | apply Qv.add | apply Qv.sub | apply Qv.mul); exact rfl; exact rfl; (first | exact wr64 (by omega) (by omega) (by (try simp only [Int.reduceAdd, Int.reduceSub, Int.reduceMul]); exact rfl) | exact wru64 (by omega) (by omega) (by (try simp only [Int.reduceAdd, Int.reduceSub, Int.reduceMul]); exact rfl) | exact rfl))
      | ((with_reducible apply Qv.conv); exact rfl; (first | exact wr64 (by omega) (by omega) (by (try simp only [Int.reduceAdd, Int.reduceSub, Int.reduceMul]); exact rfl) | exact wru64 (by omega) (by omega) (by (try simp only [Int.reduceAdd, Int.reduceSub, Int.reduceMul]); exact rfl) | exact rfl))
      | ((with_reducible first | apply Qv.eqlB | apply Qv.neqB); exact rfl; exact rfl)
      | ((with_reducible first | apply Qv.buildA | apply Qv.buildS); exact rfl; (simp only [bfill, nl, Nat.reduceAdd, Nat.reduceMul, Int.reduceToNat]; exact rfl))
      | ((with_reducible apply Qv.quoP); exact rfl; exact rfl; (first | decide | omega); (omega); (first | exact wr64 (by omega) (by omega) rfl | exact wru64 (by omega) (by omega) rfl))
      | ((with_reducible apply Qv.remP); exact rfl; exact rfl; (first | decide | omega); omega)
      | ((with_reducible apply Qv.rem); exact rfl; exact rfl; (first | decide | omega); exact rfl)
      | ((with_reducible apply Qv.quo); exact rfl; exact rfl; (first | decide | omega); (first | exact wr64 (by omega) (by omega) (by (try simp only [Int.reduceAdd, Int.reduceSub, Int.reduceMul]); exact rfl) | exact wru64 (by omega) (by omega) (by (try simp only [Int.reduceAdd, Int.reduceSub, Int.reduceMul]); exact rfl) | exact rfl))
      | ((with_reducible apply Qv.shl); exact rfl; exact rfl; (first | decide | omega); (first | (first | exact wr64 (by omega) (by omega) (by (try simp only [Int.reduceAdd, Int.reduceSub, Int.reduceMul]); exact rfl) | exact wru64 (by omega) (by omega) (by (try simp only [Int.reduceAdd, Int.reduceSub, Int.reduceMul]); exact rfl) | exact rfl) | exact rfl))
      | ((with_reducible apply Qv.shr); exact rfl; exact rfl; (first | decide | omega); exact rfl)
      | ((with_reducible apply Qv.lenS); exact rfl)
      | ((with_reducible apply Qv.lenStr); exact rfl)
      | ((with_reducible apply Qv.capS); exact rfl)
      | ((with_reducible apply Qv.max); exact rfl; exact rfl)
      | ((with_reducible apply Qv.min); exact rfl; exact rfl)))
    | ((with_reducible apply J.q1); exact rfl; focus (first
      | ((with_reducible apply Qr.load1); exact rfl; (repeat (first | with_reducible exact In.here | with_reducible apply In.there)); exact rfl)
      | ((with_reducible apply Qr.loadN); exact rfl; (repeat (first | with_reducible exact In.here | with_reducible apply In.there)); (focus ((try simp only [nl, Nat.reduceAdd, Nat.reduceMul, Int.reduceToNat]); try exact rfl)); (focus (first | (simp only [nl, Nat.reduceAdd, Nat.reduceMul, Int.reduceToNat]; done) | exact rfl)))
      | ((with_reducible apply Qr.row1); exact rfl; (repeat (first | with_reducible exact In.here | with_reducible apply In.there)); exact rfl)
      | ((with_reducible apply Qr.rowN); exact rfl; (repeat (first | with_reducible exact In.here | with_reducible apply In.there)); (focus ((try simp only [nl, Nat.reduceAdd, Nat.reduceMul, Int.reduceToNat]); try exact rfl)); exact rfl)
      | ((with_reducible apply Qr.lenRow); exact rfl; (repeat (first | with_reducible exact In.here | with_reducible apply In.there)))))
    | ((with_reducible apply J.guard_on); exact rfl; exact rfl)
    | ((with_reducible apply J.guard_off); exact rfl; exact rfl; exact rfl; exact rfl)
    | ((with_reducible apply J.guard_off_none); exact rfl; exact rfl; exact rfl)
    | ((with_reducible apply J.gsplit); exact rfl; exact rfl)
    | ((with_reducible apply J.list); focus (first
      | ((with_reducible apply J.givesW (alive)); exact rfl; exact rfl)
      | ((with_reducible apply J.keepsP (sum (Eng.blk _ _ _) _ 2 2 _ (fun j => if j = 0 then a else c) (fun j => if j = 0 then b else d))); exact rfl; exact rfl; (repeat (first | (with_reducible exact Outs.nil) | ((with_reducible apply Outs.cons); (repeat (first | with_reducible exact Out.here | with_reducible apply Out.there))))); (refine ⟨by decide, by omega, by omega, Srcs.blk rfl, fun i hi => ?_⟩; (rcases (by omega : i = 0 ∨ i = 1) with rfl | rfl <;> rfl)))
      | ((with_reducible apply J.givesP (done _ _)); exact rfl; exact rfl; omega)
      | ((with_reducible apply J.givesP (failed _ _)); exact rfl; exact rfl; omega)
      | ((with_reducible apply J.givesW (done_low)); exact rfl; exact rfl)
      | ((with_reducible apply J.givesW (failed_low)); exact rfl; exact rfl)
      | ((with_reducible apply J.buildSlice); exact rfl; exact rfl; exact rfl; exact rfl; exact rfl; (simp only [bfill, rep, List.replicate_succ, List.replicate_zero, List.flatten_cons, List.flatten_nil, nl, Nat.reduceAdd, Nat.reduceMul, Int.reduceToNat]; exact rfl); intro _)
      | ((with_reducible apply J.buildSlice0); exact rfl; intro _)
      | ((with_reducible apply J.append); exact rfl; exact rfl; (repeat (first | with_reducible exact Out.here | with_reducible apply Out.there)); exact rfl; (repeat (first | with_reducible exact In.here | with_reducible apply In.there)); (focus ((try simp only [nl, Nat.reduceAdd, Nat.reduceMul, Int.reduceToNat]); try exact rfl)); exact rfl; exact rfl; exact rfl; exact rfl; exact rfl; (first | decide | (simp only [maxLen]; omega) | omega); (first | decide | (simp only [maxLen]; omega) | omega); intro _)
      | ((with_reducible apply J.appendNil); exact rfl; exact rfl; exact rfl; (repeat (first | with_reducible exact In.here | with_reducible apply In.there)); (focus ((try simp only [nl, Nat.reduceAdd, Nat.reduceMul, Int.reduceToNat]); try exact rfl)); exact rfl; exact rfl; exact rfl; exact rfl; exact rfl; (first | decide | (simp only [maxLen]; omega) | omega); (first | decide | (simp only [maxLen]; omega) | omega); intro _)
      | ((with_reducible apply J.boxN); exact rfl; exact rfl; intro _)
      | ((with_reducible apply J.box1); exact rfl; exact rfl; exact rfl; intro _)
      | ((with_reducible apply J.alloc); exact rfl; intro _)
      | ((with_reducible apply J.storeN); exact rfl; exact rfl; (repeat (first | with_reducible exact Upd.here | with_reducible apply Upd.there)); (focus ((try simp only [nl, Nat.reduceAdd, Nat.reduceMul, Int.reduceToNat]); try exact rfl)); (focus (first | (simp only [nl, Nat.reduceAdd, Nat.reduceMul, Int.reduceToNat]; done) | exact rfl)); (focus (first | (simp only [nl, Nat.reduceAdd, Nat.reduceMul, Int.reduceToNat]; done) | (simp only [nl, Nat.reduceAdd, Nat.reduceMul, Int.reduceToNat]; omega) | decide)); (first | (with_reducible exact wvs_ones _ _) | exact rfl))
      | ((with_reducible apply J.store1); exact rfl; exact rfl; exact rfl; (repeat (first | with_reducible exact Upd.here | with_reducible apply Upd.there)); (focus ((try simp only [nl, Nat.reduceAdd, Nat.reduceMul, Int.reduceToNat]); try exact rfl)); (first | decide | (simp only [nl, Nat.reduceAdd, Nat.reduceMul, Int.reduceToNat]; omega)))))
    | ((with_reducible apply J.cond_true); exact rfl)
    | ((with_reducible apply J.cond_false); exact rfl)
    | ((with_reducible apply J.cond); exact rfl)
    | (intro h; exfalso; (first | (simp at h; done) | (simp [e1, e2] at h; done) | omega))
    | (intro h; (try simp only [decide_eq_true_eq, decide_eq_false_iff_not, beq_iff_eq, beq_eq_false_iff_ne, Bool.not_eq_true', Bool.not_eq_false', bne_iff_ne, bne_eq_false_iff_eq, ne_eq, ge_iff_le, gt_iff_lt] at h))
    | (with_reducible apply J.cret)
    | ((with_reducible apply J.ret); exact rfl; exact rfl; (repeat (first | (with_reducible exact Res.nil) | ((with_reducible apply Res.tmp); exact rfl) | ((with_reducible apply Res.cell1); exact rfl; (repeat (first | with_reducible exact In.here | with_reducible apply In.there)); exact rfl) | ((with_reducible apply Res.cellN); exact rfl; (repeat (first | with_reducible exact In.here | with_reducible apply In.there)); (focus ((try simp only [nl, Nat.reduceAdd, Nat.reduceMul, Int.reduceToNat]); try exact rfl)); (focus (first | (simp only [nl, Nat.reduceAdd, Nat.reduceMul, Int.reduceToNat]; done) | exact rfl))))); exact rfl)
    | ((with_reducible apply J.ret_normal); exact rfl; exact rfl; (repeat (first | (with_reducible exact Res.nil) | ((with_reducible apply Res.tmp); exact rfl) | ((with_reducible apply Res.cell1); exact rfl; (repeat (first | with_reducible exact In.here | with_reducible apply In.there)); exact rfl) | ((with_reducible apply Res.cellN); exact rfl; (repeat (first | with_reducible exact In.here | with_reducible apply In.there)); (focus ((try simp only [nl, Nat.reduceAdd, Nat.reduceMul, Int.reduceToNat]); try exact rfl)); (focus (first | (simp only [nl, Nat.reduceAdd, Nat.reduceMul, Int.reduceToNat]; done) | exact rfl))))); exact rfl)
    | (with_reducible apply J.gave')
    | ((with_reducible apply J.kept'); rotate_left; (repeat (first | (with_reducible exact Outs.nil) | ((with_reducible apply Outs.cons); (repeat (first | with_reducible exact Out.here | with_reducible apply Out.there))))))
    | (with_reducible apply J.exit)
    | (with_reducible apply J.then_ret)
    | (with_reducible apply J.then_exit)
    | (with_reducible apply J.then_panic)
    | (with_reducible apply J.blk_ret)
    | (with_reducible apply J.blk_panic)
    | (with_reducible apply J.blk_exit)
    | ((with_reducible apply J.blk_past); exact rfl)
  all_goals ((first | rfl | (simp [retv, e1, e2]; done) | (exfalso; simp [e1, e2] at *; done) | (trace_state; fail)))
theorem TallySums (x0 x1 x2 x3 : Int) (W : World) (h0 : (Lit.int .u32 x0).wf = true) (h1 : (Lit.int .u32 x1).wf = true) (h2 : (Lit.int .u32 x2).wf = true) (h3 : (Lit.int .u32 x3).wf = true) :
    Calls Try.prog 7 #[.int .u32 x0, .int .u32 x1, .int .u32 x2, .int .u32 x3] W fun e w' => e = .returned (.bool true) ∧ Below W.heap.size W w' := by
  have k0 := wfu32 h0
  have k1 := wfu32 h1
  have k2 := wfu32 h2
  have k3 := wfu32 h3
  obtain ⟨a, rfl⟩ := Int.eq_ofNat_of_zero_le k0.1
  obtain ⟨b, rfl⟩ := Int.eq_ofNat_of_zero_le k1.1
  obtain ⟨c, rfl⟩ := Int.eq_ofNat_of_zero_le k2.1
  obtain ⟨d, rfl⟩ := Int.eq_ofNat_of_zero_le k3.1
  exact (tallySums a b c d ⟨by omega, by omega, by omega, by omega⟩ W).below
theorem sum_row (v : Value) (n : Nat) (us vs : Nat → Nat) (h : n ≠ 0 ∧ n < 1000 ∧ nsum us n < 9007199254740992 ∧ nsum vs n < 9007199254740992) (w : World) : CSpec Try.prog 34 [v] [row v 28 1 n (tab (fun j => .complex .f64 (fl (us j)) (fl (vs j))) n)] w (Keeps (.complex .f64 (fl (nsum us n)) (fl (nsum vs n))) [row v 28 1 n (tab (fun j => .complex .f64 (fl (us j)) (fl (vs j))) n)]) :=
  CSpec.rowed h.1 fun g cap => sum _ _ cap n _ us vs ⟨h.2.1, h.2.2.1, h.2.2.2, Srcs.row (by rw [tab_length, Nat.mul_one]), fun i hi => by
    rw [List.getElem?_take, if_pos (by omega), List.getElem?_drop, Nat.mul_one, Nat.add_zero, tab_get hi]⟩ w
def inR (fr : Nat → Int) (i : Nat) : Bool := decide (0 ≤ fr i) && decide (fr i < 8)
theorem inR_s {fr : Nat → Int} {n : Nat} : cnt (inR fr) (n + 1) = cnt (inR fr) n + (if 0 ≤ fr n ∧ fr n < 8 then 1 else 0) := by
  simp only [cnt, inR]
  by_cases h1 : 0 ≤ fr n <;> by_cases h2 : fr n < 8 <;> simp [h1, h2]
theorem all8 {cd fr : Nat → Int} : ∀ n, nsum (fun j => dn cd fr (j : Int) n) 8 + nsum (fun j => nt cd fr (j : Int) n) 8 = cnt (inR fr) n
  | 0 => rfl
  | n + 1 => by
    have ih := all8 (cd := cd) (fr := fr) n
    rw [inR_s]
    simp only [nsum, dn_s, nt_s] at ih ⊢
    by_cases hc : cd n = 0
    · simp only [hc, and_true, not_true_eq_false, and_false, if_false]
      by_cases hr : 0 ≤ fr n ∧ fr n < 8
      · rw [if_pos hr]
        rcases (by omega : fr n = 0 ∨ fr n = 1 ∨ fr n = 2 ∨ fr n = 3 ∨ fr n = 4 ∨ fr n = 5 ∨ fr n = 6 ∨ fr n = 7) with h | h | h | h | h | h | h | h <;> (simp [h] at ih ⊢; omega)
      · rw [if_neg hr]
        repeat rw [if_neg (by omega)]
        omega
    · simp only [hc, and_true, not_false_eq_true, and_false, if_false]
      by_cases hr : 0 ≤ fr n ∧ fr n < 8
      · rw [if_pos hr]
        rcases (by omega : fr n = 0 ∨ fr n = 1 ∨ fr n = 2 ∨ fr n = 3 ∨ fr n = 4 ∨ fr n = 5 ∨ fr n = 6 ∨ fr n = 7) with h | h | h | h | h | h | h | h <;> (simp [h] at ih ⊢; omega)
      · rw [if_neg hr]
        repeat rw [if_neg (by omega)]
        omega
theorem tallyAll (W : World) (ao : Option Addr) (cap n : Nat) (C : Nat → List Value) (cd fr : Nat → Int) (h : Srcs (Eng.frozen W) ao 27 n C ∧ Evs C n cd fr ∧ n ≤ 1099511627776) (w : World) : CSpec Try.prog 6 [.slice ao n cap] [Eng.frozen W] w (Keeps (.bool true) [Eng.frozen W]) := by
  obtain ⟨hS, hE, hn⟩ := h
  have tot := all8 (cd := cd) (fr := fr) n
  have tn : cnt (inR fr) n ≤ n := cnt_le n
  refine spec_of Try.func6 rfl Try.ntmps6 rfl (l0 := [(0, .slice ao n cap)]) rfl ?_
  intro fp
  repeat' first
    | (with_reducible apply J.seq)
    | (with_reducible apply J.region_lit)
    | (with_reducible apply J.ops_nil)
    | (with_reducible apply J.app_cons)
    | (with_reducible apply J.app_nil)
    | (with_reducible apply J.then_)
    | (with_reducible apply J.blk_)
    | (with_reducible apply J.skip)
    | (with_reducible apply J.block)
    | ((with_reducible apply J.q0); exact rfl; focus (first
      | ((with_reducible apply Qv.indexSrcs); exact rfl; exact rfl; exact Int.toNat_natCast _; (constructor <;> omega); exact (hS k (by omega)).1)
      | ((with_reducible apply Qv.fieldSrc); exact rfl)
      | ((with_reducible apply Qv.fgeq); exact rfl; exact rfl; (first | with_reducible rfl | exact fl_one | exact fl_zero | exact fl_max); (first | with_reducible rfl | exact fl_one | exact fl_zero | exact fl_max); omega; omega)
      | ((with_reducible apply Qv.fleq); exact rfl; exact rfl; (first | with_reducible rfl | exact fl_one | exact fl_zero | exact fl_max); (first | with_reducible rfl | exact fl_one | exact fl_zero | exact fl_max); omega; omega)
      | ((with_reducible apply Qv.feql); exact rfl; exact rfl; exact (by kernel_rfl); (first | with_reducible rfl | exact fl_one | exact fl_zero | exact fl_max); (first | with_reducible rfl | exact fl_one | exact fl_zero | exact fl_max); omega; omega)
      | ((with_reducible apply Qv.fint); exact rfl; exact (by kernel_rfl); (first | with_reducible rfl | exact fl_one | exact fl_zero | exact fl_max); omega)
      | ((with_reducible apply Qv.intf); exact rfl; exact (by kernel_rfl); (first | with_reducible rfl | omega))
      | ((with_reducible apply Qv.real); exact rfl)
      | ((with_reducible apply Qv.imag); exact rfl)
      | ((with_reducible apply Qv.complex); exact rfl; exact rfl)
      | ((with_reducible apply Qv.cadd); exact rfl; exact rfl; (first | with_reducible rfl | exact fl_one | exact fl_zero | exact fl_max); (first | with_reducible rfl | exact fl_one | exact fl_zero | exact fl_max); (first | with_reducible rfl | exact fl_one | exact fl_zero | exact fl_max); (first | with_reducible rfl | exact fl_one | exact fl_zero | exact fl_max); (first | omega); (first | omega))
      | ((with_reducible apply Qv.pure); exact rfl)
      | ((with_reducible apply Qv.fieldAddr); exact rfl; (focus ((try simp only [nl, Nat.reduceAdd, Nat.reduceMul, Int.reduceToNat]); try exact rfl)))
      | ((with_reducible first | apply Qv.indexArr | apply Qv.indexBlk | apply Qv.indexN); exact rfl; exact rfl; (first | decide | omega | (constructor <;> omega)); (focus ((try simp only [nl, Nat.reduceAdd, Nat.reduceMul, Int.reduceToNat]); try exact rfl)))
      | ((with_reducible apply Qv.field1); exact rfl; exact rfl)
      | ((with_reducible apply Qv.fieldN); exact rfl; (focus ((try simp only [nl, Nat.reduceAdd, Nat.reduceMul, Int.reduceToNat]); try exact rfl)))
      | ((with_reducible apply Qv.index1); exact rfl; exact rfl; (first | decide | omega | (constructor <;> omega)); exact rfl)
      | ((with_reducible first | apply Qv.add | apply Qv.sub | apply Qv.mul); exact rfl; exact rfl; (first | exact wr64 (by omega) (by omega) (by (try simp only [Int.reduceAdd, Int.reduceSub, Int.reduceMul]); exact rfl) | exact wru64 (by omega) (by omega) (by (try simp only [Int.reduceAdd, Int.reduceSub, Int.reduceMul]); exact rfl) | exact rfl))
      | ((with_reducible apply Qv.conv); exact rfl; (first | exact wr64 (by omega) (by omega) (by (try simp only [Int.reduceAdd, Int.reduceSub, Int.reduceMul]); exact rfl) | exact wru64 (by omega) (by omega) (by (try simp only [Int.reduceAdd, Int.reduceSub, Int.reduceMul]); exact rfl) | exact rfl))
      | ((with_reducible first | apply Qv.eqlB | apply Qv.neqB); exact rfl; exact rfl)
      | ((with_reducible first | apply Qv.buildA | apply Qv.buildS); exact rfl; (simp only [bfill, nl, Nat.reduceAdd, Nat.reduceMul, Int.reduceToNat]; exact rfl))
      | ((with_reducible apply Qv.quoP); exact rfl; exact rfl; (first | decide | omega); (omega); (first | exact wr64 (by omega) (by omega) rfl | exact wru64 (by omega) (by omega) rfl))
      | ((with_reducible apply Qv.remP); exact rfl; exact rfl; (first | decide | omega); omega)
      | ((with_reducible apply Qv.rem); exact rfl; exact rfl; (first | decide | omega); exact rfl)
      | ((with_reducible apply Qv.quo); exact rfl; exact rfl; (first | decide | omega); (first | exact wr64 (by omega) (by omega) (by (try simp only [Int.reduceAdd, Int.reduceSub, Int.reduceMul]); exact rfl) | exact wru64 (by omega) (by omega) (by (try simp only [Int.reduceAdd, Int.reduceSub, Int.reduceMul]); exact rfl) | exact rfl))
      | ((with_reducible apply Qv.shl); exact rfl; exact rfl; (first | decide | omega); (first | (first | exact wr64 (by omega) (by omega) (by (try simp only [Int.reduceAdd, Int.reduceSub, Int.reduceMul]); exact rfl) | exact wru64 (by omega) (by omega) (by (try simp only [Int.reduceAdd, Int.reduceSub, Int.reduceMul]); exact rfl) | exact rfl) | exact rfl))
      | ((with_reducible apply Qv.shr); exact rfl; exact rfl; (first | decide | omega); exact rfl)
      | ((with_reducible apply Qv.lenS); exact rfl)
      | ((with_reducible apply Qv.lenStr); exact rfl)
      | ((with_reducible apply Qv.capS); exact rfl)
      | ((with_reducible apply Qv.max); exact rfl; exact rfl)
      | ((with_reducible apply Qv.min); exact rfl; exact rfl)))
    | ((with_reducible apply J.q1); exact rfl; focus (first
      | ((with_reducible apply Qr.src1 (A := Eng.frozen W)); exact rfl; (repeat (first | with_reducible exact In.here | with_reducible apply In.there)); exact hS.at3 (j := 2) (k := 0) (by omega) (hE k (by omega)).2.2.2)
      | ((with_reducible apply Qr.src1 (A := Eng.frozen W)); exact rfl; (repeat (first | with_reducible exact In.here | with_reducible apply In.there)); exact hS.at2 (j := 1) (by omega) (hE k (by omega)).2.2.1)
      | ((with_reducible apply Qr.load1); exact rfl; (repeat (first | with_reducible exact In.here | with_reducible apply In.there)); exact rfl)
      | ((with_reducible apply Qr.loadN); exact rfl; (repeat (first | with_reducible exact In.here | with_reducible apply In.there)); (focus ((try simp only [nl, Nat.reduceAdd, Nat.reduceMul, Int.reduceToNat]); try exact rfl)); (focus (first | (simp only [nl, Nat.reduceAdd, Nat.reduceMul, Int.reduceToNat]; done) | exact rfl)))
      | ((with_reducible apply Qr.row1); exact rfl; (repeat (first | with_reducible exact In.here | with_reducible apply In.there)); exact rfl)
      | ((with_reducible apply Qr.rowN); exact rfl; (repeat (first | with_reducible exact In.here | with_reducible apply In.there)); (focus ((try simp only [nl, Nat.reduceAdd, Nat.reduceMul, Int.reduceToNat]); try exact rfl)); exact rfl)
      | ((with_reducible apply Qr.lenRow); exact rfl; (repeat (first | with_reducible exact In.here | with_reducible apply In.there)))))
    | ((with_reducible apply J.guard_on); exact rfl; exact rfl)
    | ((with_reducible apply J.guard_off); exact rfl; exact rfl; exact rfl; exact rfl)
    | ((with_reducible apply J.guard_off_none); exact rfl; exact rfl; exact rfl)
    | ((with_reducible apply J.gsplit); exact rfl; exact rfl)
    | ((with_reducible apply J.list); focus (first
      | ((with_reducible apply J.givesW (alive)); exact rfl; exact rfl)
      | ((with_reducible apply J.keepsP (sum_row _ 8 (fun j => dn cd fr (j : Int) n) (fun j => nt cd fr (j : Int) n))); exact rfl; exact rfl; (repeat (first | (with_reducible exact Outs.nil) | ((with_reducible apply Outs.cons); (repeat (first | with_reducible exact Out.here | with_reducible apply Out.there))))); (exact ⟨by decide, by decide, by omega, by omega⟩))
      | ((with_reducible apply J.keepsP (of (Eng.frozen W) ao cap n C cd fr _)); exact rfl; exact rfl; (repeat (first | (with_reducible exact Outs.nil) | ((with_reducible apply Outs.cons); (repeat (first | with_reducible exact Out.here | with_reducible apply Out.there))))); (exact ⟨hS, hE, hn⟩))
      | ((with_reducible apply J.givesP (done _ _)); exact rfl; exact rfl; omega)
      | ((with_reducible apply J.givesP (failed _ _)); exact rfl; exact rfl; omega)
      | ((with_reducible apply J.buildSlice); exact rfl; exact rfl; exact rfl; exact rfl; exact rfl; (simp only [bfill, rep, List.replicate_succ, List.replicate_zero, List.flatten_cons, List.flatten_nil, nl, Nat.reduceAdd, Nat.reduceMul, Int.reduceToNat]; exact rfl); intro _)
      | ((with_reducible apply J.buildSlice0); exact rfl; intro _)
      | ((with_reducible apply J.append); exact rfl; exact rfl; (repeat (first | with_reducible exact Out.here | with_reducible apply Out.there)); exact rfl; (repeat (first | with_reducible exact In.here | with_reducible apply In.there)); (focus ((try simp only [nl, Nat.reduceAdd, Nat.reduceMul, Int.reduceToNat]); try exact rfl)); exact rfl; exact rfl; exact rfl; exact rfl; exact rfl; (first | decide | (simp only [maxLen]; omega) | omega); (first | decide | (simp only [maxLen]; omega) | omega); intro _)
      | ((with_reducible apply J.appendNil); exact rfl; exact rfl; exact rfl; (repeat (first | with_reducible exact In.here | with_reducible apply In.there)); (focus ((try simp only [nl, Nat.reduceAdd, Nat.reduceMul, Int.reduceToNat]); try exact rfl)); exact rfl; exact rfl; exact rfl; exact rfl; exact rfl; (first | decide | (simp only [maxLen]; omega) | omega); (first | decide | (simp only [maxLen]; omega) | omega); intro _)
      | ((with_reducible apply J.boxN); exact rfl; exact rfl; intro _)
      | ((with_reducible apply J.box1); exact rfl; exact rfl; exact rfl; intro _)
      | ((with_reducible apply J.alloc); exact rfl; intro _)
      | ((with_reducible apply J.storeN); exact rfl; exact rfl; (repeat (first | with_reducible exact Upd.here | with_reducible apply Upd.there)); (focus ((try simp only [nl, Nat.reduceAdd, Nat.reduceMul, Int.reduceToNat]); try exact rfl)); (focus (first | (simp only [nl, Nat.reduceAdd, Nat.reduceMul, Int.reduceToNat]; done) | exact rfl)); (focus (first | (simp only [nl, Nat.reduceAdd, Nat.reduceMul, Int.reduceToNat]; done) | (simp only [nl, Nat.reduceAdd, Nat.reduceMul, Int.reduceToNat]; omega) | decide)); (first | (with_reducible exact wvs_ones _ _) | exact rfl))
      | ((with_reducible apply J.store1); exact rfl; exact rfl; exact rfl; (repeat (first | with_reducible exact Upd.here | with_reducible apply Upd.there)); (focus ((try simp only [nl, Nat.reduceAdd, Nat.reduceMul, Int.reduceToNat]); try exact rfl)); (first | decide | (simp only [nl, Nat.reduceAdd, Nat.reduceMul, Int.reduceToNat]; omega)))))
    | ((with_reducible apply J.cond_true); exact rfl)
    | ((with_reducible apply J.cond_false); exact rfl)
    | ((with_reducible apply J.cond); exact rfl)
    | (intro h; exfalso; (first | (simp at h; done) | omega))
    | (intro h; (try simp only [decide_eq_true_eq, decide_eq_false_iff_not, beq_iff_eq, beq_eq_false_iff_ne, Bool.not_eq_true', Bool.not_eq_false', bne_iff_ne, bne_eq_false_iff_eq, ne_eq, ge_iff_le, gt_iff_lt] at h))
    | (with_reducible apply J.cret)
    | ((with_reducible apply J.ret); exact rfl; exact rfl; (repeat (first | (with_reducible exact Res.nil) | ((with_reducible apply Res.tmp); exact rfl) | ((with_reducible apply Res.cell1); exact rfl; (repeat (first | with_reducible exact In.here | with_reducible apply In.there)); exact rfl) | ((with_reducible apply Res.cellN); exact rfl; (repeat (first | with_reducible exact In.here | with_reducible apply In.there)); (focus ((try simp only [nl, Nat.reduceAdd, Nat.reduceMul, Int.reduceToNat]); try exact rfl)); (focus (first | (simp only [nl, Nat.reduceAdd, Nat.reduceMul, Int.reduceToNat]; done) | exact rfl))))); exact rfl)
    | ((with_reducible apply J.ret_normal); exact rfl; exact rfl; (repeat (first | (with_reducible exact Res.nil) | ((with_reducible apply Res.tmp); exact rfl) | ((with_reducible apply Res.cell1); exact rfl; (repeat (first | with_reducible exact In.here | with_reducible apply In.there)); exact rfl) | ((with_reducible apply Res.cellN); exact rfl; (repeat (first | with_reducible exact In.here | with_reducible apply In.there)); (focus ((try simp only [nl, Nat.reduceAdd, Nat.reduceMul, Int.reduceToNat]); try exact rfl)); (focus (first | (simp only [nl, Nat.reduceAdd, Nat.reduceMul, Int.reduceToNat]; done) | exact rfl))))); exact rfl)
    | (with_reducible apply J.gave')
    | ((with_reducible apply J.kept'); rotate_left; (repeat (first | (with_reducible exact Outs.nil) | ((with_reducible apply Outs.cons); (repeat (first | with_reducible exact Out.here | with_reducible apply Out.there))))))
    | (with_reducible apply J.exit)
    | (with_reducible apply J.then_ret)
    | (with_reducible apply J.then_exit)
    | (with_reducible apply J.then_panic)
    | (with_reducible apply J.blk_ret)
    | (with_reducible apply J.blk_panic)
    | (with_reducible apply J.blk_exit)
    | ((with_reducible apply J.blk_past); exact rfl)
  refine J.nilRowC 28 1 (tab (fun j => .complex .f64 (fl (dn cd fr (j : Int) n)) (fl (nt cd fr (j : Int) n))) 0) rfl ?_
  apply J.loopI (σ := Nat × Value) (I := fun q => q.1 ≤ 8) (L := fun q => [(0, .slice ao n cap), (3, .int .i64 0), (4, q.2), (5, .int .i64 (q.1 : Int))]) (HH := fun q => [Eng.frozen W, row q.2 28 1 q.1 (tab (fun j => .complex .f64 (fl (dn cd fr (j : Int) n)) (fl (nt cd fr (j : Int) n))) q.1)]) (m := fun q => 8 - q.1) (s0 := (0, .slice none 0 0))
  · ((try dsimp only); omega)
  · ((try dsimp only); repeat (first | exact sub.nil _ | (refine sub.consE rfl ?_ ?_; (first | with_reducible rfl | (fail) | rfl))))
  · ((try dsimp only); (repeat (first | (with_reducible exact Outs.nil) | ((with_reducible apply Outs.cons); (repeat (first | with_reducible exact Out.here | with_reducible apply Out.there))))))
  rintro ⟨i, v⟩ hI
  try dsimp only at hI ⊢
  have hcn := cnt_le (p := inR fr)
  repeat' first
    | (with_reducible apply J.seq)
    | (with_reducible apply J.region_lit)
    | (with_reducible apply J.ops_nil)
    | (with_reducible apply J.app_cons)
    | (with_reducible apply J.app_nil)
    | (with_reducible apply J.then_)
    | (with_reducible apply J.blk_)
    | (with_reducible apply J.skip)
    | (with_reducible apply J.block)
    | ((with_reducible apply J.q0); exact rfl; focus (first
      | ((with_reducible apply Qv.indexSrcs); exact rfl; exact rfl; exact Int.toNat_natCast _; (constructor <;> omega); exact (hS k (by omega)).1)
      | ((with_reducible apply Qv.fieldSrc); exact rfl)
      | ((with_reducible apply Qv.fgeq); exact rfl; exact rfl; (first | with_reducible rfl | exact fl_one | exact fl_zero | exact fl_max); (first | with_reducible rfl | exact fl_one | exact fl_zero | exact fl_max); omega; omega)
      | ((with_reducible apply Qv.fleq); exact rfl; exact rfl; (first | with_reducible rfl | exact fl_one | exact fl_zero | exact fl_max); (first | with_reducible rfl | exact fl_one | exact fl_zero | exact fl_max); omega; omega)
      | ((with_reducible apply Qv.feql); exact rfl; exact rfl; exact (by kernel_rfl); (first | with_reducible rfl | exact fl_one | exact fl_zero | exact fl_max); (first | with_reducible rfl | exact fl_one | exact fl_zero | exact fl_max); omega; omega)
      | ((with_reducible apply Qv.fint); exact rfl; exact (by kernel_rfl); (first | with_reducible rfl | exact fl_one | exact fl_zero | exact fl_max); omega)
      | ((with_reducible apply Qv.intf); exact rfl; exact (by kernel_rfl); (first | with_reducible rfl | omega))
      | ((with_reducible apply Qv.real); exact rfl)
      | ((with_reducible apply Qv.imag); exact rfl)
      | ((with_reducible apply Qv.complex); exact rfl; exact rfl)
      | ((with_reducible apply Qv.cadd); exact rfl; exact rfl; (first | with_reducible rfl | exact fl_one | exact fl_zero | exact fl_max); (first | with_reducible rfl | exact fl_one | exact fl_zero | exact fl_max); (first | with_reducible rfl | exact fl_one | exact fl_zero | exact fl_max); (first | with_reducible rfl | exact fl_one | exact fl_zero | exact fl_max); (first | omega); (first | omega))
      | ((with_reducible apply Qv.pure); exact rfl)
      | ((with_reducible apply Qv.fieldAddr); exact rfl; (focus ((try simp only [nl, Nat.reduceAdd, Nat.reduceMul, Int.reduceToNat]); try exact rfl)))
      | ((with_reducible first | apply Qv.indexArr | apply Qv.indexBlk | apply Qv.indexN); exact rfl; exact rfl; (first | decide | omega | (constructor <;> omega)); (focus ((try simp only [nl, Nat.reduceAdd, Nat.reduceMul, Int.reduceToNat]); try exact rfl)))
      | ((with_reducible apply Qv.field1); exact rfl; exact rfl)
      | ((with_reducible apply Qv.fieldN); exact rfl; (focus ((try simp only [nl, Nat.reduceAdd, Nat.reduceMul, Int.reduceToNat]); try exact rfl)))
      | ((with_reducible apply Qv.index1); exact rfl; exact rfl; (first | decide | omega | (constructor <;> omega)); exact rfl)
      | ((with_reducible first | apply Qv.add | apply Qv.sub | apply Qv.mul); exact rfl; exact rfl; (first | exact wr64 (by omega) (by omega) (by (try simp only [Int.reduceAdd, Int.reduceSub, Int.reduceMul]); exact rfl) | exact wru64 (by omega) (by omega) (by (try simp only [Int.reduceAdd, Int.reduceSub, Int.reduceMul]); exact rfl) | exact rfl))
      | ((with_reducible apply Qv.conv); exact rfl; (first | exact wr64 (by omega) (by omega) (by (try simp only [Int.reduceAdd, Int.reduceSub, Int.reduceMul]); exact rfl) | exact wru64 (by omega) (by omega) (by (try simp only [Int.reduceAdd, Int.reduceSub, Int.reduceMul]); exact rfl) | exact rfl))
      | ((with_reducible first | apply Qv.eqlB | apply Qv.neqB); exact rfl; exact rfl)
      | ((with_reducible first | apply Qv.buildA | apply Qv.buildS); exact rfl; (simp only [bfill, nl, Nat.reduceAdd, Nat.reduceMul, Int.reduceToNat]; exact rfl))
      | ((with_reducible apply Qv.quoP); exact rfl; exact rfl; (first | decide | omega); (omega); (first | exact wr64 (by omega) (by omega) rfl | exact wru64 (by omega) (by omega) rfl))
      | ((with_reducible apply Qv.remP); exact rfl; exact rfl; (first | decide | omega); omega)
      | ((with_reducible apply Qv.rem); exact rfl; exact rfl; (first | decide | omega); exact rfl)
      | ((with_reducible apply Qv.quo); exact rfl; exact rfl; (first | decide | omega); (first | exact wr64 (by omega) (by omega) (by (try simp only [Int.reduceAdd, Int.reduceSub, Int.reduceMul]); exact rfl) | exact wru64 (by omega) (by omega) (by (try simp only [Int.reduceAdd, Int.reduceSub, Int.reduceMul]); exact rfl) | exact rfl))
      | ((with_reducible apply Qv.shl); exact rfl; exact rfl; (first | decide | omega); (first | (first | exact wr64 (by omega) (by omega) (by (try simp only [Int.reduceAdd, Int.reduceSub, Int.reduceMul]); exact rfl) | exact wru64 (by omega) (by omega) (by (try simp only [Int.reduceAdd, Int.reduceSub, Int.reduceMul]); exact rfl) | exact rfl) | exact rfl))
      | ((with_reducible apply Qv.shr); exact rfl; exact rfl; (first | decide | omega); exact rfl)
      | ((with_reducible apply Qv.lenS); exact rfl)
      | ((with_reducible apply Qv.lenStr); exact rfl)
      | ((with_reducible apply Qv.capS); exact rfl)
      | ((with_reducible apply Qv.max); exact rfl; exact rfl)
      | ((with_reducible apply Qv.min); exact rfl; exact rfl)))
    | ((with_reducible apply J.q1); exact rfl; focus (first
      | ((with_reducible apply Qr.src1 (A := Eng.frozen W)); exact rfl; (repeat (first | with_reducible exact In.here | with_reducible apply In.there)); exact hS.at3 (j := 2) (k := 0) (by omega) (hE k (by omega)).2.2.2)
      | ((with_reducible apply Qr.src1 (A := Eng.frozen W)); exact rfl; (repeat (first | with_reducible exact In.here | with_reducible apply In.there)); exact hS.at2 (j := 1) (by omega) (hE k (by omega)).2.2.1)
      | ((with_reducible apply Qr.load1); exact rfl; (repeat (first | with_reducible exact In.here | with_reducible apply In.there)); exact rfl)
      | ((with_reducible apply Qr.loadN); exact rfl; (repeat (first | with_reducible exact In.here | with_reducible apply In.there)); (focus ((try simp only [nl, Nat.reduceAdd, Nat.reduceMul, Int.reduceToNat]); try exact rfl)); (focus (first | (simp only [nl, Nat.reduceAdd, Nat.reduceMul, Int.reduceToNat]; done) | exact rfl)))
      | ((with_reducible apply Qr.row1); exact rfl; (repeat (first | with_reducible exact In.here | with_reducible apply In.there)); exact rfl)
      | ((with_reducible apply Qr.rowN); exact rfl; (repeat (first | with_reducible exact In.here | with_reducible apply In.there)); (focus ((try simp only [nl, Nat.reduceAdd, Nat.reduceMul, Int.reduceToNat]); try exact rfl)); exact rfl)
      | ((with_reducible apply Qr.lenRow); exact rfl; (repeat (first | with_reducible exact In.here | with_reducible apply In.there)))))
    | ((with_reducible apply J.guard_on); exact rfl; exact rfl)
    | ((with_reducible apply J.guard_off); exact rfl; exact rfl; exact rfl; exact rfl)
    | ((with_reducible apply J.guard_off_none); exact rfl; exact rfl; exact rfl)
    | ((with_reducible apply J.gsplit); exact rfl; exact rfl)
    | ((with_reducible apply J.list); focus (first
      | ((with_reducible apply J.givesW (alive)); exact rfl; exact rfl)
      | ((with_reducible apply J.keepsP (sum_row _ 8 (fun j => dn cd fr (j : Int) n) (fun j => nt cd fr (j : Int) n))); exact rfl; exact rfl; (repeat (first | (with_reducible exact Outs.nil) | ((with_reducible apply Outs.cons); (repeat (first | with_reducible exact Out.here | with_reducible apply Out.there))))); (exact ⟨by decide, by decide, by omega, by omega⟩))
      | ((with_reducible apply J.keepsP (of (Eng.frozen W) ao cap n C cd fr _)); exact rfl; exact rfl; (repeat (first | (with_reducible exact Outs.nil) | ((with_reducible apply Outs.cons); (repeat (first | with_reducible exact Out.here | with_reducible apply Out.there))))); (exact ⟨hS, hE, hn⟩))
      | ((with_reducible apply J.givesP (done _ _)); exact rfl; exact rfl; omega)
      | ((with_reducible apply J.givesP (failed _ _)); exact rfl; exact rfl; omega)
      | ((with_reducible apply J.buildSlice); exact rfl; exact rfl; exact rfl; exact rfl; exact rfl; (simp only [bfill, rep, List.replicate_succ, List.replicate_zero, List.flatten_cons, List.flatten_nil, nl, Nat.reduceAdd, Nat.reduceMul, Int.reduceToNat]; exact rfl); intro _)
      | ((with_reducible apply J.buildSlice0); exact rfl; intro _)
      | ((with_reducible apply J.append); exact rfl; exact rfl; (repeat (first | with_reducible exact Out.here | with_reducible apply Out.there)); exact rfl; (repeat (first | with_reducible exact In.here | with_reducible apply In.there)); (focus ((try simp only [nl, Nat.reduceAdd, Nat.reduceMul, Int.reduceToNat]); try exact rfl)); exact rfl; exact rfl; exact rfl; exact rfl; exact rfl; (first | decide | (simp only [maxLen]; omega) | omega); (first | decide | (simp only [maxLen]; omega) | omega); intro _)
      | ((with_reducible apply J.appendNil); exact rfl; exact rfl; exact rfl; (repeat (first | with_reducible exact In.here | with_reducible apply In.there)); (focus ((try simp only [nl, Nat.reduceAdd, Nat.reduceMul, Int.reduceToNat]); try exact rfl)); exact rfl; exact rfl; exact rfl; exact rfl; exact rfl; (first | decide | (simp only [maxLen]; omega) | omega); (first | decide | (simp only [maxLen]; omega) | omega); intro _)
      | ((with_reducible apply J.boxN); exact rfl; exact rfl; intro _)
      | ((with_reducible apply J.box1); exact rfl; exact rfl; exact rfl; intro _)
      | ((with_reducible apply J.alloc); exact rfl; intro _)
      | ((with_reducible apply J.storeN); exact rfl; exact rfl; (repeat (first | with_reducible exact Upd.here | with_reducible apply Upd.there)); (focus ((try simp only [nl, Nat.reduceAdd, Nat.reduceMul, Int.reduceToNat]); try exact rfl)); (focus (first | (simp only [nl, Nat.reduceAdd, Nat.reduceMul, Int.reduceToNat]; done) | exact rfl)); (focus (first | (simp only [nl, Nat.reduceAdd, Nat.reduceMul, Int.reduceToNat]; done) | (simp only [nl, Nat.reduceAdd, Nat.reduceMul, Int.reduceToNat]; omega) | decide)); (first | (with_reducible exact wvs_ones _ _) | exact rfl))
      | ((with_reducible apply J.store1); exact rfl; exact rfl; exact rfl; (repeat (first | with_reducible exact Upd.here | with_reducible apply Upd.there)); (focus ((try simp only [nl, Nat.reduceAdd, Nat.reduceMul, Int.reduceToNat]); try exact rfl)); (first | decide | (simp only [nl, Nat.reduceAdd, Nat.reduceMul, Int.reduceToNat]; omega)))))
    | ((with_reducible apply J.cond_true); exact rfl)
    | ((with_reducible apply J.cond_false); exact rfl)
    | ((with_reducible apply J.cond); exact rfl)
    | (intro h; exfalso; (first | (simp at h; done) | omega))
    | (intro h; (try simp only [decide_eq_true_eq, decide_eq_false_iff_not, beq_iff_eq, beq_eq_false_iff_ne, Bool.not_eq_true', Bool.not_eq_false', bne_iff_ne, bne_eq_false_iff_eq, ne_eq, ge_iff_le, gt_iff_lt] at h))
    | (with_reducible apply J.cret)
    | ((with_reducible apply J.ret); exact rfl; exact rfl; (repeat (first | (with_reducible exact Res.nil) | ((with_reducible apply Res.tmp); exact rfl) | ((with_reducible apply Res.cell1); exact rfl; (repeat (first | with_reducible exact In.here | with_reducible apply In.there)); exact rfl) | ((with_reducible apply Res.cellN); exact rfl; (repeat (first | with_reducible exact In.here | with_reducible apply In.there)); (focus ((try simp only [nl, Nat.reduceAdd, Nat.reduceMul, Int.reduceToNat]); try exact rfl)); (focus (first | (simp only [nl, Nat.reduceAdd, Nat.reduceMul, Int.reduceToNat]; done) | exact rfl))))); exact rfl)
    | ((with_reducible apply J.ret_normal); exact rfl; exact rfl; (repeat (first | (with_reducible exact Res.nil) | ((with_reducible apply Res.tmp); exact rfl) | ((with_reducible apply Res.cell1); exact rfl; (repeat (first | with_reducible exact In.here | with_reducible apply In.there)); exact rfl) | ((with_reducible apply Res.cellN); exact rfl; (repeat (first | with_reducible exact In.here | with_reducible apply In.there)); (focus ((try simp only [nl, Nat.reduceAdd, Nat.reduceMul, Int.reduceToNat]); try exact rfl)); (focus (first | (simp only [nl, Nat.reduceAdd, Nat.reduceMul, Int.reduceToNat]; done) | exact rfl))))); exact rfl)
    | (with_reducible apply J.gave')
    | ((with_reducible apply J.kept'); rotate_left; (repeat (first | (with_reducible exact Outs.nil) | ((with_reducible apply Outs.cons); (repeat (first | with_reducible exact Out.here | with_reducible apply Out.there))))))
    | (with_reducible apply J.exit)
    | (with_reducible apply J.then_ret)
    | (with_reducible apply J.then_exit)
    | (with_reducible apply J.then_panic)
    | (with_reducible apply J.blk_ret)
    | (with_reducible apply J.blk_panic)
    | (with_reducible apply J.blk_exit)
    | ((with_reducible apply J.blk_past); exact rfl)
  any_goals
    obtain rfl : i = 8 := by omega
    apply J.loopI (σ := Nat) (I := fun q => q ≤ n) (L := fun q => [(0, .slice ao n cap), (3, .int .i64 (cnt (inR fr) q : Int)), (4, v), (6, .int .i64 (q : Int))]) (HH := fun q => [Eng.frozen W, row v 28 1 8 (tab (fun j => .complex .f64 (fl (dn cd fr (j : Int) n)) (fl (nt cd fr (j : Int) n))) 8)]) (m := fun q => n - q) (s0 := 0)
    · ((try dsimp only); omega)
    · ((try dsimp only); repeat (first | exact sub.nil _ | (refine sub.consE rfl ?_ ?_; (first | with_reducible rfl | (fail) | rfl))))
    · ((try dsimp only); (repeat (first | (with_reducible exact Outs.nil) | ((with_reducible apply Outs.cons); (repeat (first | with_reducible exact Out.here | with_reducible apply Out.there))))))
    rintro k hK
    try dsimp only at hK ⊢
    have hck := hcn k
    repeat' first
      | (with_reducible apply J.seq)
      | (with_reducible apply J.region_lit)
      | (with_reducible apply J.ops_nil)
      | (with_reducible apply J.app_cons)
      | (with_reducible apply J.app_nil)
      | (with_reducible apply J.then_)
      | (with_reducible apply J.blk_)
      | (with_reducible apply J.skip)
      | (with_reducible apply J.block)
      | ((with_reducible apply J.q0); exact rfl; focus (first
        | ((with_reducible apply Qv.indexSrcs); exact rfl; exact rfl; exact Int.toNat_natCast _; (constructor <;> omega); exact (hS k (by omega)).1)
        | ((with_reducible apply Qv.fieldSrc); exact rfl)
        | ((with_reducible apply Qv.fgeq); exact rfl; exact rfl; (first | with_reducible rfl | exact fl_one | exact fl_zero | exact fl_max); (first | with_reducible rfl | exact fl_one | exact fl_zero | exact fl_max); omega; omega)
        | ((with_reducible apply Qv.fleq); exact rfl; exact rfl; (first | with_reducible rfl | exact fl_one | exact fl_zero | exact fl_max); (first | with_reducible rfl | exact fl_one | exact fl_zero | exact fl_max); omega; omega)
        | ((with_reducible apply Qv.feql); exact rfl; exact rfl; exact (by kernel_rfl); (first | with_reducible rfl | exact fl_one | exact fl_zero | exact fl_max); (first | with_reducible rfl | exact fl_one | exact fl_zero | exact fl_max); omega; omega)
        | ((with_reducible apply Qv.fint); exact rfl; exact (by kernel_rfl); (first | with_reducible rfl | exact fl_one | exact fl_zero | exact fl_max); omega)
        | ((with_reducible apply Qv.intf); exact rfl; exact (by kernel_rfl); (first | with_reducible rfl | omega))
        | ((with_reducible apply Qv.real); exact rfl)
        | ((with_reducible apply Qv.imag); exact rfl)
        | ((with_reducible apply Qv.complex); exact rfl; exact rfl)
        | ((with_reducible apply Qv.cadd); exact rfl; exact rfl; (first | with_reducible rfl | exact fl_one | exact fl_zero | exact fl_max); (first | with_reducible rfl | exact fl_one | exact fl_zero | exact fl_max); (first | with_reducible rfl | exact fl_one | exact fl_zero | exact fl_max); (first | with_reducible rfl | exact fl_one | exact fl_zero | exact fl_max); (first | omega); (first | omega))
        | ((with_reducible apply Qv.pure); exact rfl)
        | ((with_reducible apply Qv.fieldAddr); exact rfl; (focus ((try simp only [nl, Nat.reduceAdd, Nat.reduceMul, Int.reduceToNat]); try exact rfl)))
        | ((with_reducible first | apply Qv.indexArr | apply Qv.indexBlk | apply Qv.indexN); exact rfl; exact rfl; (first | decide | omega | (constructor <;> omega)); (focus ((try simp only [nl, Nat.reduceAdd, Nat.reduceMul, Int.reduceToNat]); try exact rfl)))
        | ((with_reducible apply Qv.field1); exact rfl; exact rfl)
        | ((with_reducible apply Qv.fieldN); exact rfl; (focus ((try simp only [nl, Nat.reduceAdd, Nat.reduceMul, Int.reduceToNat]); try exact rfl)))
        | ((with_reducible apply Qv.index1); exact rfl; exact rfl; (first | decide | omega | (constructor <;> omega)); exact rfl)
        | ((with_reducible first | apply Qv.add | apply Qv.sub | apply Qv.mul); exact rfl; exact rfl; (first | exact wr64 (by omega) (by omega) (by (try simp only [Int.reduceAdd, Int.reduceSub, Int.reduceMul]); exact rfl) | exact wru64 (by omega) (by omega) (by (try simp only [Int.reduceAdd, Int.reduceSub, Int.reduceMul]); exact rfl) | exact rfl))
        | ((with_reducible apply Qv.conv); exact rfl; (first | exact wr64 (by omega) (by omega) (by (try simp only [Int.reduceAdd, Int.reduceSub, Int.reduceMul]); exact rfl) | exact wru64 (by omega) (by omega) (by (try simp only [Int.reduceAdd, Int.reduceSub, Int.reduceMul]); exact rfl) | exact rfl))
        | ((with_reducible first | apply Qv.eqlB | apply Qv.neqB); exact rfl; exact rfl)
        | ((with_reducible first | apply Qv.buildA | apply Qv.buildS); exact rfl; (simp only [bfill, nl, Nat.reduceAdd, Nat.reduceMul, Int.reduceToNat]; exact rfl))
        | ((with_reducible apply Qv.quoP); exact rfl; exact rfl; (first | decide | omega); (omega); (first | exact wr64 (by omega) (by omega) rfl | exact wru64 (by omega) (by omega) rfl))
        | ((with_reducible apply Qv.remP); exact rfl; exact rfl; (first | decide | omega); omega)
        | ((with_reducible apply Qv.rem); exact rfl; exact rfl; (first | decide | omega); exact rfl)
        | ((with_reducible apply Qv.quo); exact rfl; exact rfl; (first | decide | omega); (first | exact wr64 (by omega) (by omega) (by (try simp only [Int.reduceAdd, Int.reduceSub, Int.reduceMul]); exact rfl) | exact wru64 (by omega) (by omega) (by (try simp only [Int.reduceAdd, Int.reduceSub, Int.reduceMul]); exact rfl) | exact rfl))
        | ((with_reducible apply Qv.shl); exact rfl; exact rfl; (first | decide | omega); (first | (first | exact wr64 (by omega) (by omega) (by (try simp only [Int.reduceAdd, Int.reduceSub, Int.reduceMul]); exact rfl) | exact wru64 (by omega) (by omega) (by (try simp only [Int.reduceAdd, Int.reduceSub, Int.reduceMul]); exact rfl) | exact rfl) | exact rfl))
        | ((with_reducible apply Qv.shr); exact rfl; exact rfl; (first | decide | omega); exact rfl)
        | ((with_reducible apply Qv.lenS); exact rfl)
        | ((with_reducible apply Qv.lenStr); exact rfl)
        | ((with_reducible apply Qv.capS); exact rfl)
        | ((with_reducible apply Qv.max); exact rfl; exact rfl)
        | ((with_reducible apply Qv.min); exact rfl; exact rfl)))
      | ((with_reducible apply J.q1); exact rfl; focus (first
        | ((with_reducible apply Qr.src1 (A := Eng.frozen W)); exact rfl; (repeat (first | with_reducible exact In.here | with_reducible apply In.there)); exact hS.at3 (j := 2) (k := 0) (by omega) (hE k (by omega)).2.2.2)
        | ((with_reducible apply Qr.src1 (A := Eng.frozen W)); exact rfl; (repeat (first | with_reducible exact In.here | with_reducible apply In.there)); exact hS.at2 (j := 1) (by omega) (hE k (by omega)).2.2.1)
        | ((with_reducible apply Qr.load1); exact rfl; (repeat (first | with_reducible exact In.here | with_reducible apply In.there)); exact rfl)
        | ((with_reducible apply Qr.loadN); exact rfl; (repeat (first | with_reducible exact In.here | with_reducible apply In.there)); (focus ((try simp only [nl, Nat.reduceAdd, Nat.reduceMul, Int.reduceToNat]); try exact rfl)); (focus (first | (simp only [nl, Nat.reduceAdd, Nat.reduceMul, Int.reduceToNat]; done) | exact rfl)))
        | ((with_reducible apply Qr.row1); exact rfl; (repeat (first | with_reducible exact In.here | with_reducible apply In.there)); exact rfl)
        | ((with_reducible apply Qr.rowN); exact rfl; (repeat (first | with_reducible exact In.here | with_reducible apply In.there)); (focus ((try simp only [nl, Nat.reduceAdd, Nat.reduceMul, Int.reduceToNat]); try exact rfl)); exact rfl)
        | ((with_reducible apply Qr.lenRow); exact rfl; (repeat (first | with_reducible exact In.here | with_reducible apply In.there)))))
      | ((with_reducible apply J.guard_on); exact rfl; exact rfl)
      | ((with_reducible apply J.guard_off); exact rfl; exact rfl; exact rfl; exact rfl)
      | ((with_reducible apply J.guard_off_none); exact rfl; exact rfl; exact rfl)
      | ((with_reducible apply J.gsplit); exact rfl; exact rfl)
      | ((with_reducible apply J.list); focus (first
        | ((with_reducible apply J.givesW (alive)); exact rfl; exact rfl)
        | ((with_reducible apply J.keepsP (sum_row _ 8 (fun j => dn cd fr (j : Int) n) (fun j => nt cd fr (j : Int) n))); exact rfl; exact rfl; (repeat (first | (with_reducible exact Outs.nil) | ((with_reducible apply Outs.cons); (repeat (first | with_reducible exact Out.here | with_reducible apply Out.there))))); (exact ⟨by decide, by decide, by omega, by omega⟩))
        | ((with_reducible apply J.keepsP (of (Eng.frozen W) ao cap n C cd fr _)); exact rfl; exact rfl; (repeat (first | (with_reducible exact Outs.nil) | ((with_reducible apply Outs.cons); (repeat (first | with_reducible exact Out.here | with_reducible apply Out.there))))); (exact ⟨hS, hE, hn⟩))
        | ((with_reducible apply J.givesP (done _ _)); exact rfl; exact rfl; omega)
        | ((with_reducible apply J.givesP (failed _ _)); exact rfl; exact rfl; omega)
        | ((with_reducible apply J.buildSlice); exact rfl; exact rfl; exact rfl; exact rfl; exact rfl; (simp only [bfill, rep, List.replicate_succ, List.replicate_zero, List.flatten_cons, List.flatten_nil, nl, Nat.reduceAdd, Nat.reduceMul, Int.reduceToNat]; exact rfl); intro _)
        | ((with_reducible apply J.buildSlice0); exact rfl; intro _)
        | ((with_reducible apply J.append); exact rfl; exact rfl; (repeat (first | with_reducible exact Out.here | with_reducible apply Out.there)); exact rfl; (repeat (first | with_reducible exact In.here | with_reducible apply In.there)); (focus ((try simp only [nl, Nat.reduceAdd, Nat.reduceMul, Int.reduceToNat]); try exact rfl)); exact rfl; exact rfl; exact rfl; exact rfl; exact rfl; (first | decide | (simp only [maxLen]; omega) | omega); (first | decide | (simp only [maxLen]; omega) | omega); intro _)
        | ((with_reducible apply J.appendNil); exact rfl; exact rfl; exact rfl; (repeat (first | with_reducible exact In.here | with_reducible apply In.there)); (focus ((try simp only [nl, Nat.reduceAdd, Nat.reduceMul, Int.reduceToNat]); try exact rfl)); exact rfl; exact rfl; exact rfl; exact rfl; exact rfl; (first | decide | (simp only [maxLen]; omega) | omega); (first | decide | (simp only [maxLen]; omega) | omega); intro _)
        | ((with_reducible apply J.boxN); exact rfl; exact rfl; intro _)
        | ((with_reducible apply J.box1); exact rfl; exact rfl; exact rfl; intro _)
        | ((with_reducible apply J.alloc); exact rfl; intro _)
        | ((with_reducible apply J.storeN); exact rfl; exact rfl; (repeat (first | with_reducible exact Upd.here | with_reducible apply Upd.there)); (focus ((try simp only [nl, Nat.reduceAdd, Nat.reduceMul, Int.reduceToNat]); try exact rfl)); (focus (first | (simp only [nl, Nat.reduceAdd, Nat.reduceMul, Int.reduceToNat]; done) | exact rfl)); (focus (first | (simp only [nl, Nat.reduceAdd, Nat.reduceMul, Int.reduceToNat]; done) | (simp only [nl, Nat.reduceAdd, Nat.reduceMul, Int.reduceToNat]; omega) | decide)); (first | (with_reducible exact wvs_ones _ _) | exact rfl))
        | ((with_reducible apply J.store1); exact rfl; exact rfl; exact rfl; (repeat (first | with_reducible exact Upd.here | with_reducible apply Upd.there)); (focus ((try simp only [nl, Nat.reduceAdd, Nat.reduceMul, Int.reduceToNat]); try exact rfl)); (first | decide | (simp only [nl, Nat.reduceAdd, Nat.reduceMul, Int.reduceToNat]; omega)))))
      | ((with_reducible apply J.cond_true); exact rfl)
      | ((with_reducible apply J.cond_false); exact rfl)
      | ((with_reducible apply J.cond); exact rfl)
      | (intro h; exfalso; (first | (simp at h; done) | omega))
      | (intro h; (try simp only [decide_eq_true_eq, decide_eq_false_iff_not, beq_iff_eq, beq_eq_false_iff_ne, Bool.not_eq_true', Bool.not_eq_false', bne_iff_ne, bne_eq_false_iff_eq, ne_eq, ge_iff_le, gt_iff_lt] at h))
      | (with_reducible apply J.cret)
      | ((with_reducible apply J.ret); exact rfl; exact rfl; (repeat (first | (with_reducible exact Res.nil) | ((with_reducible apply Res.tmp); exact rfl) | ((with_reducible apply Res.cell1); exact rfl; (repeat (first | with_reducible exact In.here | with_reducible apply In.there)); exact rfl) | ((with_reducible apply Res.cellN); exact rfl; (repeat (first | with_reducible exact In.here | with_reducible apply In.there)); (focus ((try simp only [nl, Nat.reduceAdd, Nat.reduceMul, Int.reduceToNat]); try exact rfl)); (focus (first | (simp only [nl, Nat.reduceAdd, Nat.reduceMul, Int.reduceToNat]; done) | exact rfl))))); exact rfl)
      | ((with_reducible apply J.ret_normal); exact rfl; exact rfl; (repeat (first | (with_reducible exact Res.nil) | ((with_reducible apply Res.tmp); exact rfl) | ((with_reducible apply Res.cell1); exact rfl; (repeat (first | with_reducible exact In.here | with_reducible apply In.there)); exact rfl) | ((with_reducible apply Res.cellN); exact rfl; (repeat (first | with_reducible exact In.here | with_reducible apply In.there)); (focus ((try simp only [nl, Nat.reduceAdd, Nat.reduceMul, Int.reduceToNat]); try exact rfl)); (focus (first | (simp only [nl, Nat.reduceAdd, Nat.reduceMul, Int.reduceToNat]; done) | exact rfl))))); exact rfl)
      | (with_reducible apply J.gave')
      | ((with_reducible apply J.kept'); rotate_left; (repeat (first | (with_reducible exact Outs.nil) | ((with_reducible apply Outs.cons); (repeat (first | with_reducible exact Out.here | with_reducible apply Out.there))))))
      | (with_reducible apply J.exit)
      | (with_reducible apply J.then_ret)
      | (with_reducible apply J.then_exit)
      | (with_reducible apply J.then_panic)
      | (with_reducible apply J.blk_ret)
      | (with_reducible apply J.blk_panic)
      | (with_reducible apply J.blk_exit)
      | ((with_reducible apply J.blk_past); exact rfl)
  all_goals
    first
    | (exfalso; omega)
    | (have e0 : k = n := by omega
       subst e0
       simp only [retv, Value.bool.injEq, beq_iff_eq]
       omega)
    | (have e0 : i = 8 := by omega
       subst e0
       fail)
    | (rename_i bb v2
       apply J.reC (n' := i + 1) (C' := tab (fun j => .complex .f64 (fl (dn cd fr (j : Int) n)) (fl (nt cd fr (j : Int) n))) (i + 1))
       · (repeat (first | with_reducible exact Upd.here | with_reducible apply Upd.there))
       · rfl
       · rfl
       · (apply J.againI (s := (i, v)) (s' := (i + 1, v2)); (focus (((try simp only) <;> omega))); (focus ((try dsimp only); ((try simp only); omega))); (focus (((try dsimp only); repeat (first | exact sub.nil _ | (refine sub.consE rfl ?_ ?_; (first | with_reducible rfl | ((focus (congr 1; omega))) | rfl)))))); ((try dsimp only); (repeat (first | (with_reducible exact Outs.nil) | ((with_reducible apply Outs.cons); (repeat (first | with_reducible exact Out.here | with_reducible apply Out.there))))))))
    | ((apply J.againI (s := k) (s' := (k + 1)); (focus (omega)); (focus ((try dsimp only); omega)); (focus (((try dsimp only); repeat (first | exact sub.nil _ | (refine sub.consE rfl ?_ ?_; (first | with_reducible rfl | ((focus (first | (congr 1; omega) | (congr 1; rw [inR_s]; simp [*]; done) | (congr 1; rw [inR_s]; split <;> omega)))) | rfl)))))); ((try dsimp only); (repeat (first | (with_reducible exact Outs.nil) | ((with_reducible apply Outs.cons); (repeat (first | with_reducible exact Out.here | with_reducible apply Out.there))))))))
    | (trace_state; fail)
def evsh : List Sh := [.int .i64, .int .i64, .int .i64, .int .i64, .int .i64, .int .i64, .int .u64, .int .u64, .int .u64, .int .u64, .int .i64, .str, .int .i64, .int .i64, .int .i64, .int .i64, .str, .int .u64, .int .u64, .int .u64, .int .u64, .int .i64, .int .u64, .int .u64, .int .u64, .int .u64, .str]
theorem events {r : Reach} {b0 : Nat} {H : Type} {enc : TypeId × Value → H} {spare : Nat → Bool} {held : Bool} {d : DataW H} {p : List MemPlace} {v : Value} {W : World} (o : Value.okWide Try.prog W r b0 26 v) (t : DataW.Trod enc Try.prog W 0 spare held 26 v d p) (hb : ∀ a len cap, v = .slice (some a) len cap → len * Try.prog.bytesOf 41 ≤ 140737488355328) :
    ∃ ao cap n C cd fr, v = .slice ao n cap ∧ Srcs (Eng.frozen W) ao 27 n C ∧ Evs C n cd fr ∧ n ≤ 1099511627776 := by
  obtain ⟨n, C, hS, _, hC⟩ := Src.frozen (in_slice (L := evsh) (k := 6) (e := 41) rfl o t (by kernel_rfl))
  have hn : n ≤ 1099511627776 := by
    rcases hS with ⟨_, rfl⟩ | ⟨a, cap, rfl, _⟩
    · omega
    · have h1 := hb a n cap rfl
      rw [show Try.prog.bytesOf 41 = 240 from by kernel_rfl] at h1
      omega
  obtain ⟨ao, cap, hv, hS'⟩ := hS.srcs
  have key : ∀ i, ∃ x y : Int, i < n → (C i)[1]? = some (.int .i64 x) ∧ (C i)[2]? = some (.int .i64 y) := fun i => by
    rcases Nat.lt_or_ge i n with h | h
    · have h1 := hC i h
      unfold evsh at h1
      simp only [Sh.ReadsL] at h1
      obtain ⟨v0, c0, e0, _, v1, c1, e1, r1, v2, c2, e2, r2, _⟩ := h1
      simp only [Sh.Reads] at r1 r2
      obtain ⟨x, rfl, _⟩ := r1
      obtain ⟨y, rfl, _⟩ := r2
      refine ⟨x, y, fun _ => ?_⟩
      rw [e0, e1, e2]
      exact ⟨rfl, rfl⟩
    · exact ⟨0, 0, fun h' => by omega⟩
  refine ⟨ao, cap, n, C, fun i => (key i).choose, fun i => (key i).choose_spec.choose, hv, hS', fun i hi => ?_, hn⟩
  have h2 := (key i).choose_spec.choose_spec hi
  exact ⟨(hC i hi).length, (hC i hi).one, h2.1, h2.2⟩
theorem TallyAll {r : Reach} {b0 : Nat} {H : Type} {enc : TypeId × Value → H} {spare : Nat → Bool} {held : Bool} {d : DataW H} {p : List MemPlace} (v : Value) (W : World) (o : Value.okWide Try.prog W r b0 26 v) (t : DataW.Trod enc Try.prog W 0 spare held 26 v d p) (hb : ∀ a len cap, v = .slice (some a) len cap → len * Try.prog.bytesOf 41 ≤ 140737488355328) :
    Calls Try.prog 6 #[v] W fun e w' => e = .returned (.bool true) ∧ Below W.heap.size W w' := by
  obtain ⟨ao, cap, n, C, cd, fr, rfl, h1, h2, h3⟩ := events o t hb
  exact (tallyAll W ao cap n C cd fr ⟨h1, h2, h3⟩ W).belowF
end Go.Proofs.Ytnbckkpflmpnlaa.Tally2
