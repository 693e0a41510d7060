/-
  Numbers as texts, and texts as numbers. No conditions.
-/
import Derived.Test.YtnbckkpflmpnlaaWDiv
import Derived.Test.YtnbckkpflmpnlaaDec
namespace Go.Proofs.Ytnbckkpflmpnlaa.Txt
open Go Go.RowKit Eng
set_option linter.unusedVariables false
set_option maxRecDepth 100000
set_option linter.unusedSimpArgs false
open Wide Ref Cmp WMul MulR WDiv Dec
set_option maxHeartbeats 2000000
/-- The octet at a place. -/
def at_ (s : List UInt8) (i : Nat) : UInt8 := (s[i]?).getD 0
theorem at_get {s : List UInt8} {i : Nat} (h : i < s.length) : s[i]? = some (at_ s i) := by
  unfold at_
  rw [List.getElem?_eq_getElem h]; rfl
theorem take_s {s : List UInt8} {i : Nat} (h : i < s.length) : s.take (i + 1) = s.take i ++ [at_ s i] := by
  rw [List.take_add_one, at_get h]; rfl
theorem dig_at {s : List UInt8} (h : s.all isDig = true) {i : Nat} (hi : i < s.length) : isDig (at_ s i) = true := by
  have h1 := List.all_eq_true.1 h (at_ s i)
  exact h1 (List.mem_of_getElem? (at_get hi))
theorem dig_nat (b : UInt8) : isDig b = true ↔ 48 ≤ b.toNat ∧ b.toNat ≤ 57 := by unfold isDig; simp
theorem bad_at {s : List UInt8} {i : Nat} (hi : i < s.length) (h : ¬ (48 ≤ (at_ s i).toNat ∧ (at_ s i).toNat ≤ 57)) : okS s = false := by
  unfold okS
  have : s.all isDig = false := by
    rw [← Bool.not_eq_true]
    intro h1
    exact h ((dig_nat _).1 (dig_at h1 hi))
  rw [this]; rfl
theorem b48 (b : UInt8) : (b = 48) ↔ b.toNat = 48 := by
  constructor
  · rintro rfl; rfl
  · intro h; exact UInt8.toNat_inj.1 h
theorem okS_eq {s : List UInt8} (h : s.all isDig = true) : okS s = (!decide (s = []) && (!decide ((at_ s 0).toNat = 48) || decide (s.length = 1))) := by
  unfold okS
  rw [h]
  have e := b48 (at_ s 0)
  unfold at_ at *
  simp only [Bool.true_and, e]
theorem len1 (s : List UInt8) : ((s.length : Int) == 1) = decide (s.length = 1) := by
  rw [Bool.eq_iff_iff, beq_iff_eq, decide_eq_true_eq]
  omega
theorem wru8 {e : Int} (h0 : 0 ≤ e) (h1 : e ≤ 255) : IntKind.u8.wrap e = e := by
  simp [IntKind.wrap, IntKind.signed, IntKind.bits]
  omega
theorem digits (s : List UInt8) (hl : s.length ≤ 9223372036854775807) (w : World) : CSpec Try.prog 92 [str s] [] w (Gives (.bool (okS s))) := by
  refine spec_of Try.func92 rfl Try.ntmps92 rfl (l0 := [(0, str s)]) rfl ?_
  intro fp
  repeat' first
    | (with_reducible apply J.seq)
    | (with_reducible apply J.region_lit)
    | (with_reducible apply J.ops_nil)
    | (with_reducible apply J.app_cons)
    | (with_reducible apply J.app_nil)
    | (with_reducible apply J.then_)
    | (with_reducible apply J.blk_)
    | (with_reducible apply J.skip)
    | (with_reducible apply J.block)
    | ((with_reducible apply J.q0); exact rfl; focus (first
      | ((with_reducible apply Qv.idxS (n := i)); exact rfl; exact rfl; rfl; exact at_get (by first | omega | exact List.length_pos_iff.2 (by assumption)))
      | ((with_reducible apply Qv.idxS (n := 0)); exact rfl; exact rfl; rfl; exact at_get (by first | omega | exact List.length_pos_iff.2 (by assumption)))
      | ((with_reducible apply Qv.lenS8); exact rfl)
      | ((with_reducible first | apply Qv.eqlS | apply Qv.neqS | apply Qv.lssS); exact rfl; exact rfl)
      | ((with_reducible apply Qv.pure); exact rfl)
      | ((with_reducible apply Qv.fieldAddr); exact rfl; (focus ((try simp only [nl, Nat.reduceAdd, Nat.reduceMul, Int.reduceToNat]); try exact rfl)))
      | ((with_reducible first | apply Qv.indexArr | apply Qv.indexBlk | apply Qv.indexN); exact rfl; exact rfl; (first | decide | omega | (constructor <;> omega)); (focus ((try simp only [nl, Nat.reduceAdd, Nat.reduceMul, Int.reduceToNat]); try exact rfl)))
      | ((with_reducible apply Qv.field1); exact rfl; exact rfl)
      | ((with_reducible apply Qv.fieldN); exact rfl; (focus ((try simp only [nl, Nat.reduceAdd, Nat.reduceMul, Int.reduceToNat]); try exact rfl)))
      | ((with_reducible apply Qv.index1); exact rfl; exact rfl; (first | decide | omega | (constructor <;> omega)); exact rfl)
      | ((with_reducible first | apply Qv.add | apply Qv.sub | apply Qv.mul); exact rfl; exact rfl; (first | exact wr64 (by omega) (by omega) (by (try simp only [Int.reduceAdd, Int.reduceSub, Int.reduceMul]); exact rfl) | exact wru64 (by omega) (by omega) (by (try simp only [Int.reduceAdd, Int.reduceSub, Int.reduceMul]); exact rfl) | exact rfl))
      | ((with_reducible apply Qv.conv); exact rfl; (first | exact wr64 (by omega) (by omega) (by (try simp only [Int.reduceAdd, Int.reduceSub, Int.reduceMul]); exact rfl) | exact wru64 (by omega) (by omega) (by (try simp only [Int.reduceAdd, Int.reduceSub, Int.reduceMul]); exact rfl) | exact rfl))
      | ((with_reducible first | apply Qv.eqlB | apply Qv.neqB); exact rfl; exact rfl)
      | ((with_reducible first | apply Qv.buildA | apply Qv.buildS); exact rfl; (simp only [bfill, nl, Nat.reduceAdd, Nat.reduceMul, Int.reduceToNat]; exact rfl))
      | ((with_reducible apply Qv.quoP); exact rfl; exact rfl; (first | decide | omega); (omega); (first | exact wr64 (by omega) (by omega) rfl | exact wru64 (by omega) (by omega) rfl))
      | ((with_reducible apply Qv.remP); exact rfl; exact rfl; (first | decide | omega); omega)
      | ((with_reducible apply Qv.rem); exact rfl; exact rfl; (first | decide | omega); exact rfl)
      | ((with_reducible apply Qv.quo); exact rfl; exact rfl; (first | decide | omega); (first | exact wr64 (by omega) (by omega) (by (try simp only [Int.reduceAdd, Int.reduceSub, Int.reduceMul]); exact rfl) | exact wru64 (by omega) (by omega) (by (try simp only [Int.reduceAdd, Int.reduceSub, Int.reduceMul]); exact rfl) | exact rfl))
      | ((with_reducible apply Qv.shl); exact rfl; exact rfl; (first | decide | omega); (first | (first | exact wr64 (by omega) (by omega) (by (try simp only [Int.reduceAdd, Int.reduceSub, Int.reduceMul]); exact rfl) | exact wru64 (by omega) (by omega) (by (try simp only [Int.reduceAdd, Int.reduceSub, Int.reduceMul]); exact rfl) | exact rfl) | exact rfl))
      | ((with_reducible apply Qv.shr); exact rfl; exact rfl; (first | decide | omega); exact rfl)
      | ((with_reducible apply Qv.lenS); exact rfl)
      | ((with_reducible apply Qv.lenStr); exact rfl)
      | ((with_reducible apply Qv.capS); exact rfl)
      | ((with_reducible apply Qv.max); exact rfl; exact rfl)
      | ((with_reducible apply Qv.min); exact rfl; exact rfl)))
    | ((with_reducible apply J.q1); exact rfl; focus (first
      | ((with_reducible apply Qr.load1); exact rfl; (repeat (first | with_reducible exact In.here | with_reducible apply In.there)); exact rfl)
      | ((with_reducible apply Qr.loadN); exact rfl; (repeat (first | with_reducible exact In.here | with_reducible apply In.there)); (focus ((try simp only [nl, Nat.reduceAdd, Nat.reduceMul, Int.reduceToNat]); try exact rfl)); (focus (first | (simp only [nl, Nat.reduceAdd, Nat.reduceMul, Int.reduceToNat]; done) | exact rfl)))
      | ((with_reducible apply Qr.row1); exact rfl; (repeat (first | with_reducible exact In.here | with_reducible apply In.there)); exact rfl)
      | ((with_reducible apply Qr.rowN); exact rfl; (repeat (first | with_reducible exact In.here | with_reducible apply In.there)); (focus ((try simp only [nl, Nat.reduceAdd, Nat.reduceMul, Int.reduceToNat]); try exact rfl)); exact rfl)
      | ((with_reducible apply Qr.lenRow); exact rfl; (repeat (first | with_reducible exact In.here | with_reducible apply In.there)))))
    | ((with_reducible apply J.guard_on); exact rfl; exact rfl)
    | ((with_reducible apply J.guard_off); exact rfl; exact rfl; exact rfl; exact rfl)
    | ((with_reducible apply J.guard_off_none); exact rfl; exact rfl; exact rfl)
    | ((with_reducible apply J.gsplit); exact rfl; exact rfl)
    | ((with_reducible apply J.list); focus (first
      | ((with_reducible apply J.buildSlice); exact rfl; exact rfl; exact rfl; exact rfl; exact rfl; (simp only [bfill, rep, List.replicate_succ, List.replicate_zero, List.flatten_cons, List.flatten_nil, nl, Nat.reduceAdd, Nat.reduceMul, Int.reduceToNat]; exact rfl); intro _)
      | ((with_reducible apply J.buildSlice0); exact rfl; intro _)
      | ((with_reducible apply J.append); exact rfl; exact rfl; (repeat (first | with_reducible exact Out.here | with_reducible apply Out.there)); exact rfl; (repeat (first | with_reducible exact In.here | with_reducible apply In.there)); (focus ((try simp only [nl, Nat.reduceAdd, Nat.reduceMul, Int.reduceToNat]); try exact rfl)); exact rfl; exact rfl; exact rfl; exact rfl; exact rfl; (first | decide | (simp only [maxLen]; omega) | omega); (first | decide | (simp only [maxLen]; omega) | omega); intro _)
      | ((with_reducible apply J.appendNil); exact rfl; exact rfl; exact rfl; (repeat (first | with_reducible exact In.here | with_reducible apply In.there)); (focus ((try simp only [nl, Nat.reduceAdd, Nat.reduceMul, Int.reduceToNat]); try exact rfl)); exact rfl; exact rfl; exact rfl; exact rfl; exact rfl; (first | decide | (simp only [maxLen]; omega) | omega); (first | decide | (simp only [maxLen]; omega) | omega); intro _)
      | ((with_reducible apply J.boxN); exact rfl; exact rfl; intro _)
      | ((with_reducible apply J.box1); exact rfl; exact rfl; exact rfl; intro _)
      | ((with_reducible apply J.alloc); exact rfl; intro _)
      | ((with_reducible apply J.storeN); exact rfl; exact rfl; (repeat (first | with_reducible exact Upd.here | with_reducible apply Upd.there)); (focus ((try simp only [nl, Nat.reduceAdd, Nat.reduceMul, Int.reduceToNat]); try exact rfl)); (focus (first | (simp only [nl, Nat.reduceAdd, Nat.reduceMul, Int.reduceToNat]; done) | exact rfl)); (focus (first | (simp only [nl, Nat.reduceAdd, Nat.reduceMul, Int.reduceToNat]; done) | (simp only [nl, Nat.reduceAdd, Nat.reduceMul, Int.reduceToNat]; omega) | decide)); (first | (with_reducible exact wvs_ones _ _) | exact rfl))
      | ((with_reducible apply J.store1); exact rfl; exact rfl; exact rfl; (repeat (first | with_reducible exact Upd.here | with_reducible apply Upd.there)); (focus ((try simp only [nl, Nat.reduceAdd, Nat.reduceMul, Int.reduceToNat]); try exact rfl)); (first | decide | (simp only [nl, Nat.reduceAdd, Nat.reduceMul, Int.reduceToNat]; omega)))))
    | ((with_reducible apply J.cond_true); exact rfl)
    | ((with_reducible apply J.cond_false); exact rfl)
    | ((with_reducible apply J.cond); exact rfl)
    | (intro h; exfalso; (first | (simp at h; done) | (simp at h; omega) | omega))
    | (intro h; (try simp only [decide_eq_true_eq, decide_eq_false_iff_not, beq_iff_eq, beq_eq_false_iff_ne, Bool.not_eq_true', Bool.not_eq_false', bne_iff_ne, bne_eq_false_iff_eq, ne_eq, ge_iff_le, gt_iff_lt] at h))
    | (with_reducible apply J.cret)
    | ((with_reducible apply J.ret); exact rfl; exact rfl; (repeat (first | (with_reducible exact Res.nil) | ((with_reducible apply Res.tmp); exact rfl) | ((with_reducible apply Res.cell1); exact rfl; (repeat (first | with_reducible exact In.here | with_reducible apply In.there)); exact rfl) | ((with_reducible apply Res.cellN); exact rfl; (repeat (first | with_reducible exact In.here | with_reducible apply In.there)); (focus ((try simp only [nl, Nat.reduceAdd, Nat.reduceMul, Int.reduceToNat]); try exact rfl)); (focus (first | (simp only [nl, Nat.reduceAdd, Nat.reduceMul, Int.reduceToNat]; done) | exact rfl))))); exact rfl)
    | ((with_reducible apply J.ret_normal); exact rfl; exact rfl; (repeat (first | (with_reducible exact Res.nil) | ((with_reducible apply Res.tmp); exact rfl) | ((with_reducible apply Res.cell1); exact rfl; (repeat (first | with_reducible exact In.here | with_reducible apply In.there)); exact rfl) | ((with_reducible apply Res.cellN); exact rfl; (repeat (first | with_reducible exact In.here | with_reducible apply In.there)); (focus ((try simp only [nl, Nat.reduceAdd, Nat.reduceMul, Int.reduceToNat]); try exact rfl)); (focus (first | (simp only [nl, Nat.reduceAdd, Nat.reduceMul, Int.reduceToNat]; done) | exact rfl))))); exact rfl)
    | (with_reducible apply J.gave')
    | ((with_reducible apply J.kept'); rotate_left; (repeat (first | (with_reducible exact Outs.nil) | ((with_reducible apply Outs.cons); (repeat (first | with_reducible exact Out.here | with_reducible apply Out.there))))))
    | (with_reducible apply J.exit)
    | (with_reducible apply J.then_ret)
    | (with_reducible apply J.then_exit)
    | (with_reducible apply J.then_panic)
    | (with_reducible apply J.blk_ret)
    | (with_reducible apply J.blk_panic)
    | (with_reducible apply J.blk_exit)
    | ((with_reducible apply J.blk_past); exact rfl)
  apply J.loopI (σ := Nat) (I := fun q => (q ≤ s.length ∧ (s.take q).all isDig = true)) (L := fun q => [(0, str s), (5, .int .i64 (s.length : Int)), (6, .int .i64 (q : Int))]) (HH := fun q => []) (m := fun q => s.length - q) (s0 := 0)
  · ((try dsimp only); (exact ⟨by omega, rfl⟩))
  · ((try dsimp only); repeat (first | exact sub.nil _ | (refine sub.consE rfl ?_ ?_; (first | with_reducible rfl | (fail) | rfl))))
  · ((try dsimp only); (repeat (first | (with_reducible exact Outs.nil) | ((with_reducible apply Outs.cons); (repeat (first | with_reducible exact Out.here | with_reducible apply Out.there))))))
  rintro i ⟨i1, i2⟩
  try dsimp only at *
  repeat' first
    | (with_reducible apply J.seq)
    | (with_reducible apply J.region_lit)
    | (with_reducible apply J.ops_nil)
    | (with_reducible apply J.app_cons)
    | (with_reducible apply J.app_nil)
    | (with_reducible apply J.then_)
    | (with_reducible apply J.blk_)
    | (with_reducible apply J.skip)
    | (with_reducible apply J.block)
    | ((with_reducible apply J.q0); exact rfl; focus (first
      | ((with_reducible apply Qv.idxS (n := i)); exact rfl; exact rfl; rfl; exact at_get (by first | omega | exact List.length_pos_iff.2 (by assumption)))
      | ((with_reducible apply Qv.idxS (n := 0)); exact rfl; exact rfl; rfl; exact at_get (by first | omega | exact List.length_pos_iff.2 (by assumption)))
      | ((with_reducible apply Qv.lenS8); exact rfl)
      | ((with_reducible first | apply Qv.eqlS | apply Qv.neqS | apply Qv.lssS); exact rfl; exact rfl)
      | ((with_reducible apply Qv.pure); exact rfl)
      | ((with_reducible apply Qv.fieldAddr); exact rfl; (focus ((try simp only [nl, Nat.reduceAdd, Nat.reduceMul, Int.reduceToNat]); try exact rfl)))
      | ((with_reducible first | apply Qv.indexArr | apply Qv.indexBlk | apply Qv.indexN); exact rfl; exact rfl; (first | decide | omega | (constructor <;> omega)); (focus ((try simp only [nl, Nat.reduceAdd, Nat.reduceMul, Int.reduceToNat]); try exact rfl)))
      | ((with_reducible apply Qv.field1); exact rfl; exact rfl)
      | ((with_reducible apply Qv.fieldN); exact rfl; (focus ((try simp only [nl, Nat.reduceAdd, Nat.reduceMul, Int.reduceToNat]); try exact rfl)))
      | ((with_reducible apply Qv.index1); exact rfl; exact rfl; (first | decide | omega | (constructor <;> omega)); exact rfl)
      | ((with_reducible first | apply Qv.add | apply Qv.sub | apply Qv.mul); exact rfl; exact rfl; (first | exact wr64 (by omega) (by omega) (by (try simp only [Int.reduceAdd, Int.reduceSub, Int.reduceMul]); exact rfl) | exact wru64 (by omega) (by omega) (by (try simp only [Int.reduceAdd, Int.reduceSub, Int.reduceMul]); exact rfl) | exact rfl))
      | ((with_reducible apply Qv.conv); exact rfl; (first | exact wr64 (by omega) (by omega) (by (try simp only [Int.reduceAdd, Int.reduceSub, Int.reduceMul]); exact rfl) | exact wru64 (by omega) (by omega) (by (try simp only [Int.reduceAdd, Int.reduceSub, Int.reduceMul]); exact rfl) | exact rfl))
      | ((with_reducible first | apply Qv.eqlB | apply Qv.neqB); exact rfl; exact rfl)
      | ((with_reducible first | apply Qv.buildA | apply Qv.buildS); exact rfl; (simp only [bfill, nl, Nat.reduceAdd, Nat.reduceMul, Int.reduceToNat]; exact rfl))
      | ((with_reducible apply Qv.quoP); exact rfl; exact rfl; (first | decide | omega); (omega); (first | exact wr64 (by omega) (by omega) rfl | exact wru64 (by omega) (by omega) rfl))
      | ((with_reducible apply Qv.remP); exact rfl; exact rfl; (first | decide | omega); omega)
      | ((with_reducible apply Qv.rem); exact rfl; exact rfl; (first | decide | omega); exact rfl)
      | ((with_reducible apply Qv.quo); exact rfl; exact rfl; (first | decide | omega); (first | exact wr64 (by omega) (by omega) (by (try simp only [Int.reduceAdd, Int.reduceSub, Int.reduceMul]); exact rfl) | exact wru64 (by omega) (by omega) (by (try simp only [Int.reduceAdd, Int.reduceSub, Int.reduceMul]); exact rfl) | exact rfl))
      | ((with_reducible apply Qv.shl); exact rfl; exact rfl; (first | decide | omega); (first | (first | exact wr64 (by omega) (by omega) (by (try simp only [Int.reduceAdd, Int.reduceSub, Int.reduceMul]); exact rfl) | exact wru64 (by omega) (by omega) (by (try simp only [Int.reduceAdd, Int.reduceSub, Int.reduceMul]); exact rfl) | exact rfl) | exact rfl))
      | ((with_reducible apply Qv.shr); exact rfl; exact rfl; (first | decide | omega); exact rfl)
      | ((with_reducible apply Qv.lenS); exact rfl)
      | ((with_reducible apply Qv.lenStr); exact rfl)
      | ((with_reducible apply Qv.capS); exact rfl)
      | ((with_reducible apply Qv.max); exact rfl; exact rfl)
      | ((with_reducible apply Qv.min); exact rfl; exact rfl)))
    | ((with_reducible apply J.q1); exact rfl; focus (first
      | ((with_reducible apply Qr.load1); exact rfl; (repeat (first | with_reducible exact In.here | with_reducible apply In.there)); exact rfl)
      | ((with_reducible apply Qr.loadN); exact rfl; (repeat (first | with_reducible exact In.here | with_reducible apply In.there)); (focus ((try simp only [nl, Nat.reduceAdd, Nat.reduceMul, Int.reduceToNat]); try exact rfl)); (focus (first | (simp only [nl, Nat.reduceAdd, Nat.reduceMul, Int.reduceToNat]; done) | exact rfl)))
      | ((with_reducible apply Qr.row1); exact rfl; (repeat (first | with_reducible exact In.here | with_reducible apply In.there)); exact rfl)
      | ((with_reducible apply Qr.rowN); exact rfl; (repeat (first | with_reducible exact In.here | with_reducible apply In.there)); (focus ((try simp only [nl, Nat.reduceAdd, Nat.reduceMul, Int.reduceToNat]); try exact rfl)); exact rfl)
      | ((with_reducible apply Qr.lenRow); exact rfl; (repeat (first | with_reducible exact In.here | with_reducible apply In.there)))))
    | ((with_reducible apply J.guard_on); exact rfl; exact rfl)
    | ((with_reducible apply J.guard_off); exact rfl; exact rfl; exact rfl; exact rfl)
    | ((with_reducible apply J.guard_off_none); exact rfl; exact rfl; exact rfl)
    | ((with_reducible apply J.gsplit); exact rfl; exact rfl)
    | ((with_reducible apply J.list); focus (first
      | ((with_reducible apply J.buildSlice); exact rfl; exact rfl; exact rfl; exact rfl; exact rfl; (simp only [bfill, rep, List.replicate_succ, List.replicate_zero, List.flatten_cons, List.flatten_nil, nl, Nat.reduceAdd, Nat.reduceMul, Int.reduceToNat]; exact rfl); intro _)
      | ((with_reducible apply J.buildSlice0); exact rfl; intro _)
      | ((with_reducible apply J.append); exact rfl; exact rfl; (repeat (first | with_reducible exact Out.here | with_reducible apply Out.there)); exact rfl; (repeat (first | with_reducible exact In.here | with_reducible apply In.there)); (focus ((try simp only [nl, Nat.reduceAdd, Nat.reduceMul, Int.reduceToNat]); try exact rfl)); exact rfl; exact rfl; exact rfl; exact rfl; exact rfl; (first | decide | (simp only [maxLen]; omega) | omega); (first | decide | (simp only [maxLen]; omega) | omega); intro _)
      | ((with_reducible apply J.appendNil); exact rfl; exact rfl; exact rfl; (repeat (first | with_reducible exact In.here | with_reducible apply In.there)); (focus ((try simp only [nl, Nat.reduceAdd, Nat.reduceMul, Int.reduceToNat]); try exact rfl)); exact rfl; exact rfl; exact rfl; exact rfl; exact rfl; (first | decide | (simp only [maxLen]; omega) | omega); (first | decide | (simp only [maxLen]; omega) | omega); intro _)
      | ((with_reducible apply J.boxN); exact rfl; exact rfl; intro _)
      | ((with_reducible apply J.box1); exact rfl; exact rfl; exact rfl; intro _)
      | ((with_reducible apply J.alloc); exact rfl; intro _)
      | ((with_reducible apply J.storeN); exact rfl; exact rfl; (repeat (first | with_reducible exact Upd.here | with_reducible apply Upd.there)); (focus ((try simp only [nl, Nat.reduceAdd, Nat.reduceMul, Int.reduceToNat]); try exact rfl)); (focus (first | (simp only [nl, Nat.reduceAdd, Nat.reduceMul, Int.reduceToNat]; done) | exact rfl)); (focus (first | (simp only [nl, Nat.reduceAdd, Nat.reduceMul, Int.reduceToNat]; done) | (simp only [nl, Nat.reduceAdd, Nat.reduceMul, Int.reduceToNat]; omega) | decide)); (first | (with_reducible exact wvs_ones _ _) | exact rfl))
      | ((with_reducible apply J.store1); exact rfl; exact rfl; exact rfl; (repeat (first | with_reducible exact Upd.here | with_reducible apply Upd.there)); (focus ((try simp only [nl, Nat.reduceAdd, Nat.reduceMul, Int.reduceToNat]); try exact rfl)); (first | decide | (simp only [nl, Nat.reduceAdd, Nat.reduceMul, Int.reduceToNat]; omega)))))
    | ((with_reducible apply J.cond_true); exact rfl)
    | ((with_reducible apply J.cond_false); exact rfl)
    | ((with_reducible apply J.cond); exact rfl)
    | (intro h; exfalso; (first | (simp at h; done) | (simp at h; omega) | omega))
    | (intro h; (try simp only [decide_eq_true_eq, decide_eq_false_iff_not, beq_iff_eq, beq_eq_false_iff_ne, Bool.not_eq_true', Bool.not_eq_false', bne_iff_ne, bne_eq_false_iff_eq, ne_eq, ge_iff_le, gt_iff_lt] at h))
    | (with_reducible apply J.cret)
    | ((with_reducible apply J.ret); exact rfl; exact rfl; (repeat (first | (with_reducible exact Res.nil) | ((with_reducible apply Res.tmp); exact rfl) | ((with_reducible apply Res.cell1); exact rfl; (repeat (first | with_reducible exact In.here | with_reducible apply In.there)); exact rfl) | ((with_reducible apply Res.cellN); exact rfl; (repeat (first | with_reducible exact In.here | with_reducible apply In.there)); (focus ((try simp only [nl, Nat.reduceAdd, Nat.reduceMul, Int.reduceToNat]); try exact rfl)); (focus (first | (simp only [nl, Nat.reduceAdd, Nat.reduceMul, Int.reduceToNat]; done) | exact rfl))))); exact rfl)
    | ((with_reducible apply J.ret_normal); exact rfl; exact rfl; (repeat (first | (with_reducible exact Res.nil) | ((with_reducible apply Res.tmp); exact rfl) | ((with_reducible apply Res.cell1); exact rfl; (repeat (first | with_reducible exact In.here | with_reducible apply In.there)); exact rfl) | ((with_reducible apply Res.cellN); exact rfl; (repeat (first | with_reducible exact In.here | with_reducible apply In.there)); (focus ((try simp only [nl, Nat.reduceAdd, Nat.reduceMul, Int.reduceToNat]); try exact rfl)); (focus (first | (simp only [nl, Nat.reduceAdd, Nat.reduceMul, Int.reduceToNat]; done) | exact rfl))))); exact rfl)
    | (with_reducible apply J.gave')
    | ((with_reducible apply J.kept'); rotate_left; (repeat (first | (with_reducible exact Outs.nil) | ((with_reducible apply Outs.cons); (repeat (first | with_reducible exact Out.here | with_reducible apply Out.there))))))
    | (with_reducible apply J.exit)
    | (with_reducible apply J.then_ret)
    | (with_reducible apply J.then_exit)
    | (with_reducible apply J.then_panic)
    | (with_reducible apply J.blk_ret)
    | (with_reducible apply J.blk_panic)
    | (with_reducible apply J.blk_exit)
    | ((with_reducible apply J.blk_past); exact rfl)
  all_goals
    first
    | (have e1 := bad_at (s := s) (i := i) (by omega) (by omega)
       rw [e1]
       rfl)
    | (have e2 : isDig (at_ s i) = true := (dig_nat _).2 (by omega)
       (apply J.againI (s := i) (s' := (i + 1)); (focus (omega)); (focus ((try dsimp only); (refine ⟨by omega, ?_⟩; rw [take_s (by omega), List.all_append, i2]; simp [e2]))); (focus (((try dsimp only); repeat (first | exact sub.nil _ | (refine sub.consE rfl ?_ ?_; (first | with_reducible rfl | ((focus (congr 1; omega))) | rfl)))))); ((try dsimp only); (repeat (first | (with_reducible exact Outs.nil) | ((with_reducible apply Outs.cons); (repeat (first | with_reducible exact Out.here | with_reducible apply Out.there))))))))
    | (have e0 : i = s.length := by omega
       subst e0
       rw [List.take_length] at i2
       rw [okS_eq i2]
       simp only [retv]
       first
       | (simp_all; done)
       | (have e3 : (at_ s 0).toNat = 48 := by omega
          rw [len1, e3]
          simp_all
          done)
       | (have e3 : ¬ (at_ s 0).toNat = 48 := by omega
          simp_all
          done))
    | (trace_state; fail)
/-- What is read. -/
def rde (s : List UInt8) : Int := if okS s = true then (if s.length ≤ 78 then (if val s < 115792089237316195423570985008687907853269984665640564039457584007913129639936 then 0 else 38) else 38) else 16
def rdv (s : List UInt8) : Int := if rde s = 0 then (val s : Int) else 0
theorem ok_all {s : List UInt8} (h : okS s = true) : s.all isDig = true := by
  unfold okS at h
  rw [Bool.and_eq_true] at h
  exact h.1
theorem val_take (s : List UInt8) (i : Nat) : val (s.take i) ≤ val s := by
  have := val_mono (s.take i) (s.drop i)
  rwa [List.take_append_drop] at this
theorem val_s {s : List UInt8} {i : Nat} (h : i < s.length) : val (s.take (i + 1)) = val (s.take i) * 10 + dv (at_ s i) := by rw [take_s h, val_snoc]
theorem rd_ok {s : List UInt8} (h1 : okS s = true) (h2 : s.length ≤ 78) (h3 : val s < 115792089237316195423570985008687907853269984665640564039457584007913129639936) : rde s = 0 ∧ rdv s = (val s : Int) := by
  have e : rde s = 0 := by unfold rde; rw [if_pos h1, if_pos h2, if_pos h3]
  exact ⟨e, if_pos e⟩
theorem rd_over {s : List UInt8} (h1 : okS s = true) (h2 : ¬ s.length ≤ 78 ∨ ¬ val s < 115792089237316195423570985008687907853269984665640564039457584007913129639936) : rde s = 38 ∧ rdv s = 0 := by
  have e : rde s = 38 := by
    unfold rde
    rw [if_pos h1]
    split
    · rw [if_neg (by omega)]
    · rfl
  exact ⟨e, by unfold rdv; rw [e]; rfl⟩
theorem rd_bad {s : List UInt8} (h1 : okS s = false) : rde s = 16 ∧ rdv s = 0 := by
  have e : rde s = 16 := by unfold rde; rw [if_neg (by rw [h1]; decide)]
  exact ⟨e, by unfold rdv; rw [e]; rfl⟩
theorem wmul_wd10 (n : Nat) (h : n < 115792089237316195423570985008687907853269984665640564039457584007913129639936) : Wd (wmul (n : Int) 10) := by
  unfold wmul Wd
  split <;> omega
theorem read (s : List UInt8) (hl : s.length ≤ 9223372036854775807) (w : World) : CSpec Try.prog 69 [str s] [] w (Gives (.tuple [.agg (wv (rdv s)).toArray, .int .i64 (rde s)].toArray)) := by
  refine spec_of Try.func69 rfl Try.ntmps69 rfl (l0 := [(0, str s)]) rfl ?_
  intro fp
  repeat' first
    | (with_reducible apply J.seq)
    | (with_reducible apply J.region_lit)
    | (with_reducible apply J.ops_nil)
    | (with_reducible apply J.app_cons)
    | (with_reducible apply J.app_nil)
    | (with_reducible apply J.then_)
    | (with_reducible apply J.blk_)
    | (with_reducible apply J.skip)
    | (with_reducible apply J.block)
    | ((with_reducible apply J.q0); exact rfl; focus (first
      | ((with_reducible apply Qv.idxS (n := i)); exact rfl; exact rfl; rfl; exact at_get (by first | omega | exact List.length_pos_iff.2 (by assumption)))
      | ((with_reducible apply Qv.lenS8); exact rfl)
      | ((with_reducible apply Qv.sub); exact rfl; exact rfl; exact wru8 (by omega) (by omega))
      | ((with_reducible first | apply Qv.eqlS | apply Qv.neqS | apply Qv.lssS); exact rfl; exact rfl)
      | ((with_reducible apply Qv.buildW); exact rfl; exact rfl; (first | with_reducible assumption | (unfold Wo; omega) | (simp only [Wd, Wo] at *; omega)))
      | ((with_reducible apply Qv.buildW0); exact rfl; exact rfl)
      | ((with_reducible apply Qv.pure); exact rfl)
      | ((with_reducible apply Qv.fieldAddr); exact rfl; (focus ((try simp only [nl, Nat.reduceAdd, Nat.reduceMul, Int.reduceToNat]); try exact rfl)))
      | ((with_reducible first | apply Qv.indexArr | apply Qv.indexBlk | apply Qv.indexN); exact rfl; exact rfl; (first | decide | omega | (constructor <;> omega)); (focus ((try simp only [nl, Nat.reduceAdd, Nat.reduceMul, Int.reduceToNat]); try exact rfl)))
      | ((with_reducible apply Qv.field1); exact rfl; exact rfl)
      | ((with_reducible apply Qv.fieldN); exact rfl; (focus ((try simp only [nl, Nat.reduceAdd, Nat.reduceMul, Int.reduceToNat]); try exact rfl)))
      | ((with_reducible apply Qv.index1); exact rfl; exact rfl; (first | decide | omega | (constructor <;> omega)); exact rfl)
      | ((with_reducible first | apply Qv.add | apply Qv.sub | apply Qv.mul); exact rfl; exact rfl; (first | exact wr64 (by omega) (by omega) (by (try simp only [Int.reduceAdd, Int.reduceSub, Int.reduceMul]); exact rfl) | exact wru64 (by omega) (by omega) (by (try simp only [Int.reduceAdd, Int.reduceSub, Int.reduceMul]); exact rfl) | exact rfl))
      | ((with_reducible apply Qv.conv); exact rfl; (first | exact wr64 (by omega) (by omega) (by (try simp only [Int.reduceAdd, Int.reduceSub, Int.reduceMul]); exact rfl) | exact wru64 (by omega) (by omega) (by (try simp only [Int.reduceAdd, Int.reduceSub, Int.reduceMul]); exact rfl) | exact rfl))
      | ((with_reducible first | apply Qv.eqlB | apply Qv.neqB); exact rfl; exact rfl)
      | ((with_reducible first | apply Qv.buildA | apply Qv.buildS); exact rfl; (simp only [bfill, nl, Nat.reduceAdd, Nat.reduceMul, Int.reduceToNat]; exact rfl))
      | ((with_reducible apply Qv.quoP); exact rfl; exact rfl; (first | decide | omega); (omega); (first | exact wr64 (by omega) (by omega) rfl | exact wru64 (by omega) (by omega) rfl))
      | ((with_reducible apply Qv.remP); exact rfl; exact rfl; (first | decide | omega); omega)
      | ((with_reducible apply Qv.rem); exact rfl; exact rfl; (first | decide | omega); exact rfl)
      | ((with_reducible apply Qv.quo); exact rfl; exact rfl; (first | decide | omega); (first | exact wr64 (by omega) (by omega) (by (try simp only [Int.reduceAdd, Int.reduceSub, Int.reduceMul]); exact rfl) | exact wru64 (by omega) (by omega) (by (try simp only [Int.reduceAdd, Int.reduceSub, Int.reduceMul]); exact rfl) | exact rfl))
      | ((with_reducible apply Qv.shl); exact rfl; exact rfl; (first | decide | omega); (first | (first | exact wr64 (by omega) (by omega) (by (try simp only [Int.reduceAdd, Int.reduceSub, Int.reduceMul]); exact rfl) | exact wru64 (by omega) (by omega) (by (try simp only [Int.reduceAdd, Int.reduceSub, Int.reduceMul]); exact rfl) | exact rfl) | exact rfl))
      | ((with_reducible apply Qv.shr); exact rfl; exact rfl; (first | decide | omega); exact rfl)
      | ((with_reducible apply Qv.lenS); exact rfl)
      | ((with_reducible apply Qv.lenStr); exact rfl)
      | ((with_reducible apply Qv.capS); exact rfl)
      | ((with_reducible apply Qv.max); exact rfl; exact rfl)
      | ((with_reducible apply Qv.min); exact rfl; exact rfl)))
    | ((with_reducible apply J.q1); exact rfl; focus (first
      | ((with_reducible apply Qr.load1); exact rfl; (repeat (first | with_reducible exact In.here | with_reducible apply In.there)); exact rfl)
      | ((with_reducible apply Qr.loadN); exact rfl; (repeat (first | with_reducible exact In.here | with_reducible apply In.there)); (focus ((try simp only [nl, Nat.reduceAdd, Nat.reduceMul, Int.reduceToNat]); try exact rfl)); (focus (first | (simp only [nl, Nat.reduceAdd, Nat.reduceMul, Int.reduceToNat]; done) | exact rfl)))
      | ((with_reducible apply Qr.row1); exact rfl; (repeat (first | with_reducible exact In.here | with_reducible apply In.there)); exact rfl)
      | ((with_reducible apply Qr.rowN); exact rfl; (repeat (first | with_reducible exact In.here | with_reducible apply In.there)); (focus ((try simp only [nl, Nat.reduceAdd, Nat.reduceMul, Int.reduceToNat]); try exact rfl)); exact rfl)
      | ((with_reducible apply Qr.lenRow); exact rfl; (repeat (first | with_reducible exact In.here | with_reducible apply In.there)))))
    | ((with_reducible apply J.guard_on); exact rfl; exact rfl)
    | ((with_reducible apply J.guard_off); exact rfl; exact rfl; exact rfl; exact rfl)
    | ((with_reducible apply J.guard_off_none); exact rfl; exact rfl; exact rfl)
    | ((with_reducible apply J.gsplit); exact rfl; exact rfl)
    | ((with_reducible apply J.list); focus (first
      | ((with_reducible apply J.allocW); exact rfl; exact rfl; intro _)
      | ((with_reducible apply J.givesP (digits _)); exact rfl; exact rfl; (exact hl))
      | ((with_reducible apply J.givesP (WMul.mul _ _)); exact rfl; exact rfl; (refine ⟨?_, ?_⟩ <;> (first | (unfold Wd; omega) | (unfold Wo; omega))))
      | ((with_reducible apply J.givesP (Wide.of _)); exact rfl; exact rfl; (unfold Wo; omega))
      | ((with_reducible apply J.givesP (Wide.add _ _)); exact rfl; exact rfl; (refine ⟨by rw [← hx]; exact wmul_wd10 _ (by omega), ?_⟩; unfold Wd; omega))
      | ((with_reducible apply J.buildSlice); exact rfl; exact rfl; exact rfl; exact rfl; exact rfl; (simp only [bfill, rep, List.replicate_succ, List.replicate_zero, List.flatten_cons, List.flatten_nil, nl, Nat.reduceAdd, Nat.reduceMul, Int.reduceToNat]; exact rfl); intro _)
      | ((with_reducible apply J.buildSlice0); exact rfl; intro _)
      | ((with_reducible apply J.append); exact rfl; exact rfl; (repeat (first | with_reducible exact Out.here | with_reducible apply Out.there)); exact rfl; (repeat (first | with_reducible exact In.here | with_reducible apply In.there)); (focus ((try simp only [nl, Nat.reduceAdd, Nat.reduceMul, Int.reduceToNat]); try exact rfl)); exact rfl; exact rfl; exact rfl; exact rfl; exact rfl; (first | decide | (simp only [maxLen]; omega) | omega); (first | decide | (simp only [maxLen]; omega) | omega); intro _)
      | ((with_reducible apply J.appendNil); exact rfl; exact rfl; exact rfl; (repeat (first | with_reducible exact In.here | with_reducible apply In.there)); (focus ((try simp only [nl, Nat.reduceAdd, Nat.reduceMul, Int.reduceToNat]); try exact rfl)); exact rfl; exact rfl; exact rfl; exact rfl; exact rfl; (first | decide | (simp only [maxLen]; omega) | omega); (first | decide | (simp only [maxLen]; omega) | omega); intro _)
      | ((with_reducible apply J.boxN); exact rfl; exact rfl; intro _)
      | ((with_reducible apply J.box1); exact rfl; exact rfl; exact rfl; intro _)
      | ((with_reducible apply J.alloc); exact rfl; intro _)
      | ((with_reducible apply J.storeN); exact rfl; exact rfl; (repeat (first | with_reducible exact Upd.here | with_reducible apply Upd.there)); (focus ((try simp only [nl, Nat.reduceAdd, Nat.reduceMul, Int.reduceToNat]); try exact rfl)); (focus (first | (simp only [nl, Nat.reduceAdd, Nat.reduceMul, Int.reduceToNat]; done) | exact rfl)); (focus (first | (simp only [nl, Nat.reduceAdd, Nat.reduceMul, Int.reduceToNat]; done) | (simp only [nl, Nat.reduceAdd, Nat.reduceMul, Int.reduceToNat]; omega) | decide)); (first | (with_reducible exact wvs_ones _ _) | exact rfl))
      | ((with_reducible apply J.store1); exact rfl; exact rfl; exact rfl; (repeat (first | with_reducible exact Upd.here | with_reducible apply Upd.there)); (focus ((try simp only [nl, Nat.reduceAdd, Nat.reduceMul, Int.reduceToNat]); try exact rfl)); (first | decide | (simp only [nl, Nat.reduceAdd, Nat.reduceMul, Int.reduceToNat]; omega)))))
    | ((with_reducible apply J.cond_true); exact rfl)
    | ((with_reducible apply J.cond_false); exact rfl)
    | ((with_reducible apply J.cond); exact rfl)
    | (intro h; exfalso; (first | (simp at h; done) | (simp at h; omega) | omega))
    | (intro h; (try simp only [decide_eq_true_eq, decide_eq_false_iff_not, beq_iff_eq, beq_eq_false_iff_ne, Bool.not_eq_true', Bool.not_eq_false', bne_iff_ne, bne_eq_false_iff_eq, ne_eq, ge_iff_le, gt_iff_lt] at h))
    | (with_reducible apply J.cret)
    | ((with_reducible apply J.ret); exact rfl; exact rfl; (repeat (first | (with_reducible exact Res.nil) | ((with_reducible apply Res.tmp); exact rfl) | ((with_reducible apply Res.cell1); exact rfl; (repeat (first | with_reducible exact In.here | with_reducible apply In.there)); exact rfl) | ((with_reducible apply Res.cellN); exact rfl; (repeat (first | with_reducible exact In.here | with_reducible apply In.there)); (focus ((try simp only [nl, Nat.reduceAdd, Nat.reduceMul, Int.reduceToNat]); try exact rfl)); (focus (first | (simp only [nl, Nat.reduceAdd, Nat.reduceMul, Int.reduceToNat]; done) | exact rfl))))); exact rfl)
    | ((with_reducible apply J.ret_normal); exact rfl; exact rfl; (repeat (first | (with_reducible exact Res.nil) | ((with_reducible apply Res.tmp); exact rfl) | ((with_reducible apply Res.cell1); exact rfl; (repeat (first | with_reducible exact In.here | with_reducible apply In.there)); exact rfl) | ((with_reducible apply Res.cellN); exact rfl; (repeat (first | with_reducible exact In.here | with_reducible apply In.there)); (focus ((try simp only [nl, Nat.reduceAdd, Nat.reduceMul, Int.reduceToNat]); try exact rfl)); (focus (first | (simp only [nl, Nat.reduceAdd, Nat.reduceMul, Int.reduceToNat]; done) | exact rfl))))); exact rfl)
    | (with_reducible apply J.gave')
    | ((with_reducible apply J.kept'); rotate_left; (repeat (first | (with_reducible exact Outs.nil) | ((with_reducible apply Outs.cons); (repeat (first | with_reducible exact Out.here | with_reducible apply Out.there))))))
    | (with_reducible apply J.exit)
    | (with_reducible apply J.then_ret)
    | (with_reducible apply J.then_exit)
    | (with_reducible apply J.then_panic)
    | (with_reducible apply J.blk_ret)
    | (with_reducible apply J.blk_panic)
    | (with_reducible apply J.blk_exit)
    | ((with_reducible apply J.blk_past); exact rfl)
    | ((with_reducible apply J.draw (id := 10) [0, 0, 0, 6, 14, 30, 62, 127, 255, 511, 511, 0, 3071, 8191] (.q 0 (.p 1 (.p 2 (.p 3 (.p 4 (.p 5 (.x 6 (.x 7 (.p 8 (.p 9 (.p 10 (.x 11 (.x 12 (.p 13 .nil) .none) .none)))) (.x 11 (.x 7 (.p 8 (.p 9 (.p 10 (.x 12 (.p 13 .nil) .none)))) .none) .none)) (.x 11 (.x 6 (.x 7 (.p 8 (.p 9 (.p 10 (.x 12 (.p 13 .nil) .none)))) .none) .none) .none)))))))) (by kernel_rfl) ?_ (by kernel_rfl) ?_); (repeat (with_reducible first | exact PanicFree.body | apply PanicFree.then_ | apply PanicFree.blk)))
    | ((with_reducible apply J.pl0); exact rfl; (first | exact Gd.none | ((with_reducible apply Gd.on); exact rfl; exact rfl)); exact rfl; focus (first
      | ((with_reducible apply Qv.idxS (n := i)); exact rfl; exact rfl; rfl; exact at_get (by first | omega | exact List.length_pos_iff.2 (by assumption)))
      | ((with_reducible apply Qv.lenS8); exact rfl)
      | ((with_reducible apply Qv.sub); exact rfl; exact rfl; exact wru8 (by omega) (by omega))
      | ((with_reducible first | apply Qv.eqlS | apply Qv.neqS | apply Qv.lssS); exact rfl; exact rfl)
      | ((with_reducible apply Qv.buildW); exact rfl; exact rfl; (first | with_reducible assumption | (unfold Wo; omega) | (simp only [Wd, Wo] at *; omega)))
      | ((with_reducible apply Qv.buildW0); exact rfl; exact rfl)
      | ((with_reducible apply Qv.pure); exact rfl)
      | ((with_reducible apply Qv.fieldAddr); exact rfl; (focus ((try simp only [nl, Nat.reduceAdd, Nat.reduceMul, Int.reduceToNat]); try exact rfl)))
      | ((with_reducible first | apply Qv.indexArr | apply Qv.indexBlk | apply Qv.indexN); exact rfl; exact rfl; (first | decide | omega | (constructor <;> omega)); (focus ((try simp only [nl, Nat.reduceAdd, Nat.reduceMul, Int.reduceToNat]); try exact rfl)))
      | ((with_reducible apply Qv.field1); exact rfl; exact rfl)
      | ((with_reducible apply Qv.fieldN); exact rfl; (focus ((try simp only [nl, Nat.reduceAdd, Nat.reduceMul, Int.reduceToNat]); try exact rfl)))
      | ((with_reducible apply Qv.index1); exact rfl; exact rfl; (first | decide | omega | (constructor <;> omega)); exact rfl)
      | ((with_reducible first | apply Qv.add | apply Qv.sub | apply Qv.mul); exact rfl; exact rfl; (first | exact wr64 (by omega) (by omega) (by (try simp only [Int.reduceAdd, Int.reduceSub, Int.reduceMul]); exact rfl) | exact wru64 (by omega) (by omega) (by (try simp only [Int.reduceAdd, Int.reduceSub, Int.reduceMul]); exact rfl) | exact rfl))
      | ((with_reducible apply Qv.conv); exact rfl; (first | exact wr64 (by omega) (by omega) (by (try simp only [Int.reduceAdd, Int.reduceSub, Int.reduceMul]); exact rfl) | exact wru64 (by omega) (by omega) (by (try simp only [Int.reduceAdd, Int.reduceSub, Int.reduceMul]); exact rfl) | exact rfl))
      | ((with_reducible first | apply Qv.eqlB | apply Qv.neqB); exact rfl; exact rfl)
      | ((with_reducible first | apply Qv.buildA | apply Qv.buildS); exact rfl; (simp only [bfill, nl, Nat.reduceAdd, Nat.reduceMul, Int.reduceToNat]; exact rfl))
      | ((with_reducible apply Qv.quoP); exact rfl; exact rfl; (first | decide | omega); (omega); (first | exact wr64 (by omega) (by omega) rfl | exact wru64 (by omega) (by omega) rfl))
      | ((with_reducible apply Qv.remP); exact rfl; exact rfl; (first | decide | omega); omega)
      | ((with_reducible apply Qv.rem); exact rfl; exact rfl; (first | decide | omega); exact rfl)
      | ((with_reducible apply Qv.quo); exact rfl; exact rfl; (first | decide | omega); (first | exact wr64 (by omega) (by omega) (by (try simp only [Int.reduceAdd, Int.reduceSub, Int.reduceMul]); exact rfl) | exact wru64 (by omega) (by omega) (by (try simp only [Int.reduceAdd, Int.reduceSub, Int.reduceMul]); exact rfl) | exact rfl))
      | ((with_reducible apply Qv.shl); exact rfl; exact rfl; (first | decide | omega); (first | (first | exact wr64 (by omega) (by omega) (by (try simp only [Int.reduceAdd, Int.reduceSub, Int.reduceMul]); exact rfl) | exact wru64 (by omega) (by omega) (by (try simp only [Int.reduceAdd, Int.reduceSub, Int.reduceMul]); exact rfl) | exact rfl) | exact rfl))
      | ((with_reducible apply Qv.shr); exact rfl; exact rfl; (first | decide | omega); exact rfl)
      | ((with_reducible apply Qv.lenS); exact rfl)
      | ((with_reducible apply Qv.lenStr); exact rfl)
      | ((with_reducible apply Qv.capS); exact rfl)
      | ((with_reducible apply Qv.max); exact rfl; exact rfl)
      | ((with_reducible apply Qv.min); exact rfl; exact rfl)))
    | ((with_reducible apply J.pl0_off); exact rfl; ((with_reducible apply Gd.off); exact rfl; exact rfl; exact rfl); exact rfl)
    | ((with_reducible apply J.pl1); exact rfl; (first | exact Gd.none | ((with_reducible apply Gd.on); exact rfl; exact rfl)); exact rfl; focus (first
      | ((with_reducible apply Qr.load1); exact rfl; (repeat (first | with_reducible exact In.here | with_reducible apply In.there)); exact rfl)
      | ((with_reducible apply Qr.loadN); exact rfl; (repeat (first | with_reducible exact In.here | with_reducible apply In.there)); (focus ((try simp only [nl, Nat.reduceAdd, Nat.reduceMul, Int.reduceToNat]); try exact rfl)); (focus (first | (simp only [nl, Nat.reduceAdd, Nat.reduceMul, Int.reduceToNat]; done) | exact rfl)))
      | ((with_reducible apply Qr.row1); exact rfl; (repeat (first | with_reducible exact In.here | with_reducible apply In.there)); exact rfl)
      | ((with_reducible apply Qr.rowN); exact rfl; (repeat (first | with_reducible exact In.here | with_reducible apply In.there)); (focus ((try simp only [nl, Nat.reduceAdd, Nat.reduceMul, Int.reduceToNat]); try exact rfl)); exact rfl)
      | ((with_reducible apply Qr.lenRow); exact rfl; (repeat (first | with_reducible exact In.here | with_reducible apply In.there)))))
    | ((with_reducible apply J.pl1_off); exact rfl; ((with_reducible apply Gd.off); exact rfl; exact rfl; exact rfl); exact rfl)
    | ((with_reducible apply J.pl2); exact rfl; (first | exact Gd.none | ((with_reducible apply Gd.on); exact rfl; exact rfl)); (repeat (first | (with_reducible exact PendF.nil) | ((with_reducible apply PendF.keep); exact rfl) | ((with_reducible apply PendF.gone); exact rfl))); focus (first
      | ((with_reducible apply J.allocW); exact rfl; exact rfl; intro _)
      | ((with_reducible apply J.givesP (digits _)); exact rfl; exact rfl; (exact hl))
      | ((with_reducible apply J.givesP (WMul.mul _ _)); exact rfl; exact rfl; (refine ⟨?_, ?_⟩ <;> (first | (unfold Wd; omega) | (unfold Wo; omega))))
      | ((with_reducible apply J.givesP (Wide.of _)); exact rfl; exact rfl; (unfold Wo; omega))
      | ((with_reducible apply J.givesP (Wide.add _ _)); exact rfl; exact rfl; (refine ⟨by rw [← hx]; exact wmul_wd10 _ (by omega), ?_⟩; unfold Wd; omega))
      | ((with_reducible apply J.buildSlice); exact rfl; exact rfl; exact rfl; exact rfl; exact rfl; (simp only [bfill, rep, List.replicate_succ, List.replicate_zero, List.flatten_cons, List.flatten_nil, nl, Nat.reduceAdd, Nat.reduceMul, Int.reduceToNat]; exact rfl); intro _)
      | ((with_reducible apply J.buildSlice0); exact rfl; intro _)
      | ((with_reducible apply J.append); exact rfl; exact rfl; (repeat (first | with_reducible exact Out.here | with_reducible apply Out.there)); exact rfl; (repeat (first | with_reducible exact In.here | with_reducible apply In.there)); (focus ((try simp only [nl, Nat.reduceAdd, Nat.reduceMul, Int.reduceToNat]); try exact rfl)); exact rfl; exact rfl; exact rfl; exact rfl; exact rfl; (first | decide | (simp only [maxLen]; omega) | omega); (first | decide | (simp only [maxLen]; omega) | omega); intro _)
      | ((with_reducible apply J.appendNil); exact rfl; exact rfl; exact rfl; (repeat (first | with_reducible exact In.here | with_reducible apply In.there)); (focus ((try simp only [nl, Nat.reduceAdd, Nat.reduceMul, Int.reduceToNat]); try exact rfl)); exact rfl; exact rfl; exact rfl; exact rfl; exact rfl; (first | decide | (simp only [maxLen]; omega) | omega); (first | decide | (simp only [maxLen]; omega) | omega); intro _)
      | ((with_reducible apply J.boxN); exact rfl; exact rfl; intro _)
      | ((with_reducible apply J.box1); exact rfl; exact rfl; exact rfl; intro _)
      | ((with_reducible apply J.alloc); exact rfl; intro _)
      | ((with_reducible apply J.storeN); exact rfl; exact rfl; (repeat (first | with_reducible exact Upd.here | with_reducible apply Upd.there)); (focus ((try simp only [nl, Nat.reduceAdd, Nat.reduceMul, Int.reduceToNat]); try exact rfl)); (focus (first | (simp only [nl, Nat.reduceAdd, Nat.reduceMul, Int.reduceToNat]; done) | exact rfl)); (focus (first | (simp only [nl, Nat.reduceAdd, Nat.reduceMul, Int.reduceToNat]; done) | (simp only [nl, Nat.reduceAdd, Nat.reduceMul, Int.reduceToNat]; omega) | decide)); (first | (with_reducible exact wvs_ones _ _) | exact rfl))
      | ((with_reducible apply J.store1); exact rfl; exact rfl; exact rfl; (repeat (first | with_reducible exact Upd.here | with_reducible apply Upd.there)); (focus ((try simp only [nl, Nat.reduceAdd, Nat.reduceMul, Int.reduceToNat]); try exact rfl)); (first | decide | (simp only [nl, Nat.reduceAdd, Nat.reduceMul, Int.reduceToNat]; omega)))))
    | ((with_reducible apply J.pl2_off); exact rfl; ((with_reducible apply Gd.off); exact rfl; exact rfl; exact rfl); exact rfl; (repeat (first | (with_reducible exact PendF.nil) | ((with_reducible apply PendF.keep); exact rfl) | ((with_reducible apply PendF.gone); exact rfl))))
    | ((with_reducible apply J.pl2_off_none); exact rfl; ((with_reducible apply Gd.off); exact rfl; exact rfl; exact rfl); (repeat (first | (with_reducible exact PendF.nil) | ((with_reducible apply PendF.keep); exact rfl) | ((with_reducible apply PendF.gone); exact rfl))))
    | (with_reducible apply J.owe_nil)
    | ((with_reducible apply J.owe); exact rfl; (first | exact Gd.none | ((with_reducible apply Gd.on); exact rfl; exact rfl)); focus (first
      | ((with_reducible apply Qr.load1); exact rfl; (repeat (first | with_reducible exact In.here | with_reducible apply In.there)); exact rfl)
      | ((with_reducible apply Qr.loadN); exact rfl; (repeat (first | with_reducible exact In.here | with_reducible apply In.there)); (focus ((try simp only [nl, Nat.reduceAdd, Nat.reduceMul, Int.reduceToNat]); try exact rfl)); (focus (first | (simp only [nl, Nat.reduceAdd, Nat.reduceMul, Int.reduceToNat]; done) | exact rfl)))
      | ((with_reducible apply Qr.row1); exact rfl; (repeat (first | with_reducible exact In.here | with_reducible apply In.there)); exact rfl)
      | ((with_reducible apply Qr.rowN); exact rfl; (repeat (first | with_reducible exact In.here | with_reducible apply In.there)); (focus ((try simp only [nl, Nat.reduceAdd, Nat.reduceMul, Int.reduceToNat]); try exact rfl)); exact rfl)
      | ((with_reducible apply Qr.lenRow); exact rfl; (repeat (first | with_reducible exact In.here | with_reducible apply In.there)))))
    | ((with_reducible apply J.owe_off); exact rfl; ((with_reducible apply Gd.off); exact rfl; exact rfl; exact rfl))
    | ((with_reducible first | apply J.psplit0 | apply J.psplit1 | apply J.psplit2); exact rfl; exact rfl; exact rfl)
    | (with_reducible apply J.pl_nil)
    | (with_reducible exact J.pl_none)
  any_goals
    rename_i b2 b4 hok
    apply J.reB (b := b4) (C' := wv ((val (s.take 0) : Nat) : Int))
    · (repeat (first | with_reducible exact Upd.here | with_reducible apply Upd.there))
    · rfl
    apply J.loopI (σ := Nat) (I := fun q => (q ≤ s.length ∧ val (s.take q) < 115792089237316195423570985008687907853269984665640564039457584007913129639936)) (L := fun q => [(0, str s), (2, .pointer (some ⟨b2, 0, none⟩)), (4, .pointer (some ⟨b4, 0, none⟩)), (19, .int .i64 (s.length : Int)), (20, .int .i64 (q : Int))]) (HH := fun q => [blk b2 (wv 0) 32, blk b4 (wv (val (s.take q) : Int)) 32]) (m := fun q => s.length - q) (s0 := 0)
    · ((try dsimp only); (exact ⟨by omega, by rw [List.take_zero]; decide⟩))
    · ((try dsimp only); repeat (first | exact sub.nil _ | (refine sub.consE rfl ?_ ?_; (first | with_reducible rfl | (fail) | rfl))))
    · ((try dsimp only); (repeat (first | (with_reducible exact Outs.nil) | ((with_reducible apply Outs.cons); (repeat (first | with_reducible exact Out.here | with_reducible apply Out.there))))))
    rintro i ⟨i1, i2⟩
    try dsimp only at *
    obtain ⟨x, hx⟩ : ∃ x : Int, ((val (s.take i) : Nat) : Int) = x := ⟨_, rfl⟩
    rw [hx]
    have dg : i < s.length → 48 ≤ (at_ s i).toNat ∧ (at_ s i).toNat ≤ 57 ∧ ((dv (at_ s i) : Nat) : Int) = ((at_ s i).toNat : Int) - 48 ∧ val (s.take (i + 1)) = val (s.take i) * 10 + dv (at_ s i) ∧ val (s.take (i + 1)) ≤ val s := fun hi => by
      have h1 := (dig_nat _).1 (dig_at (ok_all (by assumption)) hi)
      exact ⟨h1.1, h1.2, by unfold dv; omega, val_s hi, val_take s _⟩
    have dg8 : (at_ s i).toNat < 256 := UInt8.toNat_lt _
    have dgA : i < s.length ∨ i = s.length := by omega
    have dgB : i = s.length ∨ (48 ≤ (at_ s i).toNat ∧ (at_ s i).toNat ≤ 57) := by
      rcases dgA with z | z
      · exact .inr ⟨(dg z).1, (dg z).2.1⟩
      · exact .inl z
    repeat' first
      | (with_reducible apply J.seq)
      | (with_reducible apply J.region_lit)
      | (with_reducible apply J.ops_nil)
      | (with_reducible apply J.app_cons)
      | (with_reducible apply J.app_nil)
      | (with_reducible apply J.then_)
      | (with_reducible apply J.blk_)
      | (with_reducible apply J.skip)
      | (with_reducible apply J.block)
      | ((with_reducible apply J.q0); exact rfl; focus (first
        | ((with_reducible apply Qv.idxS (n := i)); exact rfl; exact rfl; rfl; exact at_get (by first | omega | exact List.length_pos_iff.2 (by assumption)))
        | ((with_reducible apply Qv.lenS8); exact rfl)
        | ((with_reducible apply Qv.sub); exact rfl; exact rfl; exact wru8 (by omega) (by omega))
        | ((with_reducible first | apply Qv.eqlS | apply Qv.neqS | apply Qv.lssS); exact rfl; exact rfl)
        | ((with_reducible apply Qv.buildW); exact rfl; exact rfl; (first | with_reducible assumption | (unfold Wo; omega) | (simp only [Wd, Wo] at *; omega)))
        | ((with_reducible apply Qv.buildW0); exact rfl; exact rfl)
        | ((with_reducible apply Qv.pure); exact rfl)
        | ((with_reducible apply Qv.fieldAddr); exact rfl; (focus ((try simp only [nl, Nat.reduceAdd, Nat.reduceMul, Int.reduceToNat]); try exact rfl)))
        | ((with_reducible first | apply Qv.indexArr | apply Qv.indexBlk | apply Qv.indexN); exact rfl; exact rfl; (first | decide | omega | (constructor <;> omega)); (focus ((try simp only [nl, Nat.reduceAdd, Nat.reduceMul, Int.reduceToNat]); try exact rfl)))
        | ((with_reducible apply Qv.field1); exact rfl; exact rfl)
        | ((with_reducible apply Qv.fieldN); exact rfl; (focus ((try simp only [nl, Nat.reduceAdd, Nat.reduceMul, Int.reduceToNat]); try exact rfl)))
        | ((with_reducible apply Qv.index1); exact rfl; exact rfl; (first | decide | omega | (constructor <;> omega)); exact rfl)
        | ((with_reducible first | apply Qv.add | apply Qv.sub | apply Qv.mul); exact rfl; exact rfl; (first | exact wr64 (by omega) (by omega) (by (try simp only [Int.reduceAdd, Int.reduceSub, Int.reduceMul]); exact rfl) | exact wru64 (by omega) (by omega) (by (try simp only [Int.reduceAdd, Int.reduceSub, Int.reduceMul]); exact rfl) | exact rfl))
        | ((with_reducible apply Qv.conv); exact rfl; (first | exact wr64 (by omega) (by omega) (by (try simp only [Int.reduceAdd, Int.reduceSub, Int.reduceMul]); exact rfl) | exact wru64 (by omega) (by omega) (by (try simp only [Int.reduceAdd, Int.reduceSub, Int.reduceMul]); exact rfl) | exact rfl))
        | ((with_reducible first | apply Qv.eqlB | apply Qv.neqB); exact rfl; exact rfl)
        | ((with_reducible first | apply Qv.buildA | apply Qv.buildS); exact rfl; (simp only [bfill, nl, Nat.reduceAdd, Nat.reduceMul, Int.reduceToNat]; exact rfl))
        | ((with_reducible apply Qv.quoP); exact rfl; exact rfl; (first | decide | omega); (omega); (first | exact wr64 (by omega) (by omega) rfl | exact wru64 (by omega) (by omega) rfl))
        | ((with_reducible apply Qv.remP); exact rfl; exact rfl; (first | decide | omega); omega)
        | ((with_reducible apply Qv.rem); exact rfl; exact rfl; (first | decide | omega); exact rfl)
        | ((with_reducible apply Qv.quo); exact rfl; exact rfl; (first | decide | omega); (first | exact wr64 (by omega) (by omega) (by (try simp only [Int.reduceAdd, Int.reduceSub, Int.reduceMul]); exact rfl) | exact wru64 (by omega) (by omega) (by (try simp only [Int.reduceAdd, Int.reduceSub, Int.reduceMul]); exact rfl) | exact rfl))
        | ((with_reducible apply Qv.shl); exact rfl; exact rfl; (first | decide | omega); (first | (first | exact wr64 (by omega) (by omega) (by (try simp only [Int.reduceAdd, Int.reduceSub, Int.reduceMul]); exact rfl) | exact wru64 (by omega) (by omega) (by (try simp only [Int.reduceAdd, Int.reduceSub, Int.reduceMul]); exact rfl) | exact rfl) | exact rfl))
        | ((with_reducible apply Qv.shr); exact rfl; exact rfl; (first | decide | omega); exact rfl)
        | ((with_reducible apply Qv.lenS); exact rfl)
        | ((with_reducible apply Qv.lenStr); exact rfl)
        | ((with_reducible apply Qv.capS); exact rfl)
        | ((with_reducible apply Qv.max); exact rfl; exact rfl)
        | ((with_reducible apply Qv.min); exact rfl; exact rfl)))
      | ((with_reducible apply J.q1); exact rfl; focus (first
        | ((with_reducible apply Qr.load1); exact rfl; (repeat (first | with_reducible exact In.here | with_reducible apply In.there)); exact rfl)
        | ((with_reducible apply Qr.loadN); exact rfl; (repeat (first | with_reducible exact In.here | with_reducible apply In.there)); (focus ((try simp only [nl, Nat.reduceAdd, Nat.reduceMul, Int.reduceToNat]); try exact rfl)); (focus (first | (simp only [nl, Nat.reduceAdd, Nat.reduceMul, Int.reduceToNat]; done) | exact rfl)))
        | ((with_reducible apply Qr.row1); exact rfl; (repeat (first | with_reducible exact In.here | with_reducible apply In.there)); exact rfl)
        | ((with_reducible apply Qr.rowN); exact rfl; (repeat (first | with_reducible exact In.here | with_reducible apply In.there)); (focus ((try simp only [nl, Nat.reduceAdd, Nat.reduceMul, Int.reduceToNat]); try exact rfl)); exact rfl)
        | ((with_reducible apply Qr.lenRow); exact rfl; (repeat (first | with_reducible exact In.here | with_reducible apply In.there)))))
      | ((with_reducible apply J.guard_on); exact rfl; exact rfl)
      | ((with_reducible apply J.guard_off); exact rfl; exact rfl; exact rfl; exact rfl)
      | ((with_reducible apply J.guard_off_none); exact rfl; exact rfl; exact rfl)
      | ((with_reducible apply J.gsplit); exact rfl; exact rfl)
      | ((with_reducible apply J.list); focus (first
        | ((with_reducible apply J.allocW); exact rfl; exact rfl; intro _)
        | ((with_reducible apply J.givesP (digits _)); exact rfl; exact rfl; (exact hl))
        | ((with_reducible apply J.givesP (WMul.mul _ _)); exact rfl; exact rfl; (refine ⟨?_, ?_⟩ <;> (first | (unfold Wd; omega) | (unfold Wo; omega))))
        | ((with_reducible apply J.givesP (Wide.of _)); exact rfl; exact rfl; (unfold Wo; omega))
        | ((with_reducible apply J.givesP (Wide.add _ _)); exact rfl; exact rfl; (refine ⟨by rw [← hx]; exact wmul_wd10 _ (by omega), ?_⟩; unfold Wd; omega))
        | ((with_reducible apply J.buildSlice); exact rfl; exact rfl; exact rfl; exact rfl; exact rfl; (simp only [bfill, rep, List.replicate_succ, List.replicate_zero, List.flatten_cons, List.flatten_nil, nl, Nat.reduceAdd, Nat.reduceMul, Int.reduceToNat]; exact rfl); intro _)
        | ((with_reducible apply J.buildSlice0); exact rfl; intro _)
        | ((with_reducible apply J.append); exact rfl; exact rfl; (repeat (first | with_reducible exact Out.here | with_reducible apply Out.there)); exact rfl; (repeat (first | with_reducible exact In.here | with_reducible apply In.there)); (focus ((try simp only [nl, Nat.reduceAdd, Nat.reduceMul, Int.reduceToNat]); try exact rfl)); exact rfl; exact rfl; exact rfl; exact rfl; exact rfl; (first | decide | (simp only [maxLen]; omega) | omega); (first | decide | (simp only [maxLen]; omega) | omega); intro _)
        | ((with_reducible apply J.appendNil); exact rfl; exact rfl; exact rfl; (repeat (first | with_reducible exact In.here | with_reducible apply In.there)); (focus ((try simp only [nl, Nat.reduceAdd, Nat.reduceMul, Int.reduceToNat]); try exact rfl)); exact rfl; exact rfl; exact rfl; exact rfl; exact rfl; (first | decide | (simp only [maxLen]; omega) | omega); (first | decide | (simp only [maxLen]; omega) | omega); intro _)
        | ((with_reducible apply J.boxN); exact rfl; exact rfl; intro _)
        | ((with_reducible apply J.box1); exact rfl; exact rfl; exact rfl; intro _)
        | ((with_reducible apply J.alloc); exact rfl; intro _)
        | ((with_reducible apply J.storeN); exact rfl; exact rfl; (repeat (first | with_reducible exact Upd.here | with_reducible apply Upd.there)); (focus ((try simp only [nl, Nat.reduceAdd, Nat.reduceMul, Int.reduceToNat]); try exact rfl)); (focus (first | (simp only [nl, Nat.reduceAdd, Nat.reduceMul, Int.reduceToNat]; done) | exact rfl)); (focus (first | (simp only [nl, Nat.reduceAdd, Nat.reduceMul, Int.reduceToNat]; done) | (simp only [nl, Nat.reduceAdd, Nat.reduceMul, Int.reduceToNat]; omega) | decide)); (first | (with_reducible exact wvs_ones _ _) | exact rfl))
        | ((with_reducible apply J.store1); exact rfl; exact rfl; exact rfl; (repeat (first | with_reducible exact Upd.here | with_reducible apply Upd.there)); (focus ((try simp only [nl, Nat.reduceAdd, Nat.reduceMul, Int.reduceToNat]); try exact rfl)); (first | decide | (simp only [nl, Nat.reduceAdd, Nat.reduceMul, Int.reduceToNat]; omega)))))
      | ((with_reducible apply J.cond_true); exact rfl)
      | ((with_reducible apply J.cond_false); exact rfl)
      | ((with_reducible apply J.cond); exact rfl)
      | (intro h; exfalso; (first | (simp at h; done) | (simp at h; omega) | omega))
      | (intro h; (try simp only [decide_eq_true_eq, decide_eq_false_iff_not, beq_iff_eq, beq_eq_false_iff_ne, Bool.not_eq_true', Bool.not_eq_false', bne_iff_ne, bne_eq_false_iff_eq, ne_eq, ge_iff_le, gt_iff_lt] at h))
      | (with_reducible apply J.cret)
      | ((with_reducible apply J.ret); exact rfl; exact rfl; (repeat (first | (with_reducible exact Res.nil) | ((with_reducible apply Res.tmp); exact rfl) | ((with_reducible apply Res.cell1); exact rfl; (repeat (first | with_reducible exact In.here | with_reducible apply In.there)); exact rfl) | ((with_reducible apply Res.cellN); exact rfl; (repeat (first | with_reducible exact In.here | with_reducible apply In.there)); (focus ((try simp only [nl, Nat.reduceAdd, Nat.reduceMul, Int.reduceToNat]); try exact rfl)); (focus (first | (simp only [nl, Nat.reduceAdd, Nat.reduceMul, Int.reduceToNat]; done) | exact rfl))))); exact rfl)
      | ((with_reducible apply J.ret_normal); exact rfl; exact rfl; (repeat (first | (with_reducible exact Res.nil) | ((with_reducible apply Res.tmp); exact rfl) | ((with_reducible apply Res.cell1); exact rfl; (repeat (first | with_reducible exact In.here | with_reducible apply In.there)); exact rfl) | ((with_reducible apply Res.cellN); exact rfl; (repeat (first | with_reducible exact In.here | with_reducible apply In.there)); (focus ((try simp only [nl, Nat.reduceAdd, Nat.reduceMul, Int.reduceToNat]); try exact rfl)); (focus (first | (simp only [nl, Nat.reduceAdd, Nat.reduceMul, Int.reduceToNat]; done) | exact rfl))))); exact rfl)
      | (with_reducible apply J.gave')
      | ((with_reducible apply J.kept'); rotate_left; (repeat (first | (with_reducible exact Outs.nil) | ((with_reducible apply Outs.cons); (repeat (first | with_reducible exact Out.here | with_reducible apply Out.there))))))
      | (with_reducible apply J.exit)
      | (with_reducible apply J.then_ret)
      | (with_reducible apply J.then_exit)
      | (with_reducible apply J.then_panic)
      | (with_reducible apply J.blk_ret)
      | (with_reducible apply J.blk_panic)
      | (with_reducible apply J.blk_exit)
      | ((with_reducible apply J.blk_past); exact rfl)
      | ((with_reducible apply J.draw (id := 10) [0, 0, 0, 6, 14, 30, 62, 127, 255, 511, 511, 0, 3071, 8191] (.q 0 (.p 1 (.p 2 (.p 3 (.p 4 (.p 5 (.x 6 (.x 7 (.p 8 (.p 9 (.p 10 (.x 11 (.x 12 (.p 13 .nil) .none) .none)))) (.x 11 (.x 7 (.p 8 (.p 9 (.p 10 (.x 12 (.p 13 .nil) .none)))) .none) .none)) (.x 11 (.x 6 (.x 7 (.p 8 (.p 9 (.p 10 (.x 12 (.p 13 .nil) .none)))) .none) .none) .none)))))))) (by kernel_rfl) ?_ (by kernel_rfl) ?_); (repeat (with_reducible first | exact PanicFree.body | apply PanicFree.then_ | apply PanicFree.blk)))
      | ((with_reducible apply J.pl0); exact rfl; (first | exact Gd.none | ((with_reducible apply Gd.on); exact rfl; exact rfl)); exact rfl; focus (first
        | ((with_reducible apply Qv.idxS (n := i)); exact rfl; exact rfl; rfl; exact at_get (by first | omega | exact List.length_pos_iff.2 (by assumption)))
        | ((with_reducible apply Qv.lenS8); exact rfl)
        | ((with_reducible apply Qv.sub); exact rfl; exact rfl; exact wru8 (by omega) (by omega))
        | ((with_reducible first | apply Qv.eqlS | apply Qv.neqS | apply Qv.lssS); exact rfl; exact rfl)
        | ((with_reducible apply Qv.buildW); exact rfl; exact rfl; (first | with_reducible assumption | (unfold Wo; omega) | (simp only [Wd, Wo] at *; omega)))
        | ((with_reducible apply Qv.buildW0); exact rfl; exact rfl)
        | ((with_reducible apply Qv.pure); exact rfl)
        | ((with_reducible apply Qv.fieldAddr); exact rfl; (focus ((try simp only [nl, Nat.reduceAdd, Nat.reduceMul, Int.reduceToNat]); try exact rfl)))
        | ((with_reducible first | apply Qv.indexArr | apply Qv.indexBlk | apply Qv.indexN); exact rfl; exact rfl; (first | decide | omega | (constructor <;> omega)); (focus ((try simp only [nl, Nat.reduceAdd, Nat.reduceMul, Int.reduceToNat]); try exact rfl)))
        | ((with_reducible apply Qv.field1); exact rfl; exact rfl)
        | ((with_reducible apply Qv.fieldN); exact rfl; (focus ((try simp only [nl, Nat.reduceAdd, Nat.reduceMul, Int.reduceToNat]); try exact rfl)))
        | ((with_reducible apply Qv.index1); exact rfl; exact rfl; (first | decide | omega | (constructor <;> omega)); exact rfl)
        | ((with_reducible first | apply Qv.add | apply Qv.sub | apply Qv.mul); exact rfl; exact rfl; (first | exact wr64 (by omega) (by omega) (by (try simp only [Int.reduceAdd, Int.reduceSub, Int.reduceMul]); exact rfl) | exact wru64 (by omega) (by omega) (by (try simp only [Int.reduceAdd, Int.reduceSub, Int.reduceMul]); exact rfl) | exact rfl))
        | ((with_reducible apply Qv.conv); exact rfl; (first | exact wr64 (by omega) (by omega) (by (try simp only [Int.reduceAdd, Int.reduceSub, Int.reduceMul]); exact rfl) | exact wru64 (by omega) (by omega) (by (try simp only [Int.reduceAdd, Int.reduceSub, Int.reduceMul]); exact rfl) | exact rfl))
        | ((with_reducible first | apply Qv.eqlB | apply Qv.neqB); exact rfl; exact rfl)
        | ((with_reducible first | apply Qv.buildA | apply Qv.buildS); exact rfl; (simp only [bfill, nl, Nat.reduceAdd, Nat.reduceMul, Int.reduceToNat]; exact rfl))
        | ((with_reducible apply Qv.quoP); exact rfl; exact rfl; (first | decide | omega); (omega); (first | exact wr64 (by omega) (by omega) rfl | exact wru64 (by omega) (by omega) rfl))
        | ((with_reducible apply Qv.remP); exact rfl; exact rfl; (first | decide | omega); omega)
        | ((with_reducible apply Qv.rem); exact rfl; exact rfl; (first | decide | omega); exact rfl)
        | ((with_reducible apply Qv.quo); exact rfl; exact rfl; (first | decide | omega); (first | exact wr64 (by omega) (by omega) (by (try simp only [Int.reduceAdd, Int.reduceSub, Int.reduceMul]); exact rfl) | exact wru64 (by omega) (by omega) (by (try simp only [Int.reduceAdd, Int.reduceSub, Int.reduceMul]); exact rfl) | exact rfl))
        | ((with_reducible apply Qv.shl); exact rfl; exact rfl; (first | decide | omega); (first | (first | exact wr64 (by omega) (by omega) (by (try simp only [Int.reduceAdd, Int.reduceSub, Int.reduceMul]); exact rfl) | exact wru64 (by omega) (by omega) (by (try simp only [Int.reduceAdd, Int.reduceSub, Int.reduceMul]); exact rfl) | exact rfl) | exact rfl))
        | ((with_reducible apply Qv.shr); exact rfl; exact rfl; (first | decide | omega); exact rfl)
        | ((with_reducible apply Qv.lenS); exact rfl)
        | ((with_reducible apply Qv.lenStr); exact rfl)
        | ((with_reducible apply Qv.capS); exact rfl)
        | ((with_reducible apply Qv.max); exact rfl; exact rfl)
        | ((with_reducible apply Qv.min); exact rfl; exact rfl)))
      | ((with_reducible apply J.pl0_off); exact rfl; ((with_reducible apply Gd.off); exact rfl; exact rfl; exact rfl); exact rfl)
      | ((with_reducible apply J.pl1); exact rfl; (first | exact Gd.none | ((with_reducible apply Gd.on); exact rfl; exact rfl)); exact rfl; focus (first
        | ((with_reducible apply Qr.load1); exact rfl; (repeat (first | with_reducible exact In.here | with_reducible apply In.there)); exact rfl)
        | ((with_reducible apply Qr.loadN); exact rfl; (repeat (first | with_reducible exact In.here | with_reducible apply In.there)); (focus ((try simp only [nl, Nat.reduceAdd, Nat.reduceMul, Int.reduceToNat]); try exact rfl)); (focus (first | (simp only [nl, Nat.reduceAdd, Nat.reduceMul, Int.reduceToNat]; done) | exact rfl)))
        | ((with_reducible apply Qr.row1); exact rfl; (repeat (first | with_reducible exact In.here | with_reducible apply In.there)); exact rfl)
        | ((with_reducible apply Qr.rowN); exact rfl; (repeat (first | with_reducible exact In.here | with_reducible apply In.there)); (focus ((try simp only [nl, Nat.reduceAdd, Nat.reduceMul, Int.reduceToNat]); try exact rfl)); exact rfl)
        | ((with_reducible apply Qr.lenRow); exact rfl; (repeat (first | with_reducible exact In.here | with_reducible apply In.there)))))
      | ((with_reducible apply J.pl1_off); exact rfl; ((with_reducible apply Gd.off); exact rfl; exact rfl; exact rfl); exact rfl)
      | ((with_reducible apply J.pl2); exact rfl; (first | exact Gd.none | ((with_reducible apply Gd.on); exact rfl; exact rfl)); (repeat (first | (with_reducible exact PendF.nil) | ((with_reducible apply PendF.keep); exact rfl) | ((with_reducible apply PendF.gone); exact rfl))); focus (first
        | ((with_reducible apply J.allocW); exact rfl; exact rfl; intro _)
        | ((with_reducible apply J.givesP (digits _)); exact rfl; exact rfl; (exact hl))
        | ((with_reducible apply J.givesP (WMul.mul _ _)); exact rfl; exact rfl; (refine ⟨?_, ?_⟩ <;> (first | (unfold Wd; omega) | (unfold Wo; omega))))
        | ((with_reducible apply J.givesP (Wide.of _)); exact rfl; exact rfl; (unfold Wo; omega))
        | ((with_reducible apply J.givesP (Wide.add _ _)); exact rfl; exact rfl; (refine ⟨by rw [← hx]; exact wmul_wd10 _ (by omega), ?_⟩; unfold Wd; omega))
        | ((with_reducible apply J.buildSlice); exact rfl; exact rfl; exact rfl; exact rfl; exact rfl; (simp only [bfill, rep, List.replicate_succ, List.replicate_zero, List.flatten_cons, List.flatten_nil, nl, Nat.reduceAdd, Nat.reduceMul, Int.reduceToNat]; exact rfl); intro _)
        | ((with_reducible apply J.buildSlice0); exact rfl; intro _)
        | ((with_reducible apply J.append); exact rfl; exact rfl; (repeat (first | with_reducible exact Out.here | with_reducible apply Out.there)); exact rfl; (repeat (first | with_reducible exact In.here | with_reducible apply In.there)); (focus ((try simp only [nl, Nat.reduceAdd, Nat.reduceMul, Int.reduceToNat]); try exact rfl)); exact rfl; exact rfl; exact rfl; exact rfl; exact rfl; (first | decide | (simp only [maxLen]; omega) | omega); (first | decide | (simp only [maxLen]; omega) | omega); intro _)
        | ((with_reducible apply J.appendNil); exact rfl; exact rfl; exact rfl; (repeat (first | with_reducible exact In.here | with_reducible apply In.there)); (focus ((try simp only [nl, Nat.reduceAdd, Nat.reduceMul, Int.reduceToNat]); try exact rfl)); exact rfl; exact rfl; exact rfl; exact rfl; exact rfl; (first | decide | (simp only [maxLen]; omega) | omega); (first | decide | (simp only [maxLen]; omega) | omega); intro _)
        | ((with_reducible apply J.boxN); exact rfl; exact rfl; intro _)
        | ((with_reducible apply J.box1); exact rfl; exact rfl; exact rfl; intro _)
        | ((with_reducible apply J.alloc); exact rfl; intro _)
        | ((with_reducible apply J.storeN); exact rfl; exact rfl; (repeat (first | with_reducible exact Upd.here | with_reducible apply Upd.there)); (focus ((try simp only [nl, Nat.reduceAdd, Nat.reduceMul, Int.reduceToNat]); try exact rfl)); (focus (first | (simp only [nl, Nat.reduceAdd, Nat.reduceMul, Int.reduceToNat]; done) | exact rfl)); (focus (first | (simp only [nl, Nat.reduceAdd, Nat.reduceMul, Int.reduceToNat]; done) | (simp only [nl, Nat.reduceAdd, Nat.reduceMul, Int.reduceToNat]; omega) | decide)); (first | (with_reducible exact wvs_ones _ _) | exact rfl))
        | ((with_reducible apply J.store1); exact rfl; exact rfl; exact rfl; (repeat (first | with_reducible exact Upd.here | with_reducible apply Upd.there)); (focus ((try simp only [nl, Nat.reduceAdd, Nat.reduceMul, Int.reduceToNat]); try exact rfl)); (first | decide | (simp only [nl, Nat.reduceAdd, Nat.reduceMul, Int.reduceToNat]; omega)))))
      | ((with_reducible apply J.pl2_off); exact rfl; ((with_reducible apply Gd.off); exact rfl; exact rfl; exact rfl); exact rfl; (repeat (first | (with_reducible exact PendF.nil) | ((with_reducible apply PendF.keep); exact rfl) | ((with_reducible apply PendF.gone); exact rfl))))
      | ((with_reducible apply J.pl2_off_none); exact rfl; ((with_reducible apply Gd.off); exact rfl; exact rfl; exact rfl); (repeat (first | (with_reducible exact PendF.nil) | ((with_reducible apply PendF.keep); exact rfl) | ((with_reducible apply PendF.gone); exact rfl))))
      | (with_reducible apply J.owe_nil)
      | ((with_reducible apply J.owe); exact rfl; (first | exact Gd.none | ((with_reducible apply Gd.on); exact rfl; exact rfl)); focus (first
        | ((with_reducible apply Qr.load1); exact rfl; (repeat (first | with_reducible exact In.here | with_reducible apply In.there)); exact rfl)
        | ((with_reducible apply Qr.loadN); exact rfl; (repeat (first | with_reducible exact In.here | with_reducible apply In.there)); (focus ((try simp only [nl, Nat.reduceAdd, Nat.reduceMul, Int.reduceToNat]); try exact rfl)); (focus (first | (simp only [nl, Nat.reduceAdd, Nat.reduceMul, Int.reduceToNat]; done) | exact rfl)))
        | ((with_reducible apply Qr.row1); exact rfl; (repeat (first | with_reducible exact In.here | with_reducible apply In.there)); exact rfl)
        | ((with_reducible apply Qr.rowN); exact rfl; (repeat (first | with_reducible exact In.here | with_reducible apply In.there)); (focus ((try simp only [nl, Nat.reduceAdd, Nat.reduceMul, Int.reduceToNat]); try exact rfl)); exact rfl)
        | ((with_reducible apply Qr.lenRow); exact rfl; (repeat (first | with_reducible exact In.here | with_reducible apply In.there)))))
      | ((with_reducible apply J.owe_off); exact rfl; ((with_reducible apply Gd.off); exact rfl; exact rfl; exact rfl))
      | ((with_reducible first | apply J.psplit0 | apply J.psplit1 | apply J.psplit2); exact rfl; exact rfl; exact rfl)
      | (with_reducible apply J.pl_nil)
      | (with_reducible exact J.pl_none)
  all_goals
    first
    | (have e1 := rd_bad (s := s) (by assumption)
       simp only [retv]
       rw [e1.1, e1.2]
       done)
    | (have e1 := rd_over (s := s) (by assumption) (.inl (by omega))
       simp only [retv]
       rw [e1.1, e1.2]
       done)
    | (have e0 : i = s.length := by omega
       subst e0
       rw [List.take_length] at i2 hx
       subst hx
       have e1 := rd_ok (s := s) (by assumption) (by omega) i2
       simp only [retv]
       rw [e1.1, e1.2]
       done)
    | (obtain ⟨d1, d2, d3, d4, d5⟩ := dg (by omega)
       have e1 := rd_over (s := s) (by assumption) (.inr (by omega))
       simp only [retv]
       rw [e1.1, e1.2]
       done)
    | (obtain ⟨d1, d2, d3, d4, d5⟩ := dg (by omega)
       have hm : x * 10 < 115792089237316195423570985008687907853269984665640564039457584007913129639936 := by omega
       have e0 : wmul x 10 = x * 10 := if_pos hm
       rw [e0] at h
       have e1 := rd_over (s := s) (by assumption) (.inr (by omega))
       simp only [retv]
       rw [e1.1, e1.2]
       done)
    | (obtain ⟨d1, d2, d3, d4, d5⟩ := dg (by omega)
       have hm : x * 10 < 115792089237316195423570985008687907853269984665640564039457584007913129639936 := by omega
       have e1 : wmul x 10 = x * 10 := if_pos hm
       rw [e1] at h ⊢
       apply J.reB (b := b4) (C' := wv (val (s.take (i + 1)) : Int))
       · (repeat (first | with_reducible exact Upd.here | with_reducible apply Upd.there))
       · rw [wadd_lt (by omega)]; congr 1; omega
       · (apply J.againI (s := i) (s' := (i + 1)); (focus (omega)); (focus ((try dsimp only); (exact ⟨by omega, by omega⟩))); (focus (((try dsimp only); repeat (first | exact sub.nil _ | (refine sub.consE rfl ?_ ?_; (first | with_reducible rfl | ((focus (congr 1; omega))) | rfl)))))); ((try dsimp only); (repeat (first | (with_reducible exact Outs.nil) | ((with_reducible apply Outs.cons); (repeat (first | with_reducible exact Out.here | with_reducible apply Out.there))))))))
    | (trace_state; fail)
theorem lett {r : Nat} (h : r < 10) : (([48, 49, 50, 51, 52, 53, 54, 55, 56, 57, 97, 98, 99, 100, 101, 102] : List UInt8).drop r).take (r + 1 - r) = [dc r] := by
  rcases (by omega : r = 0 ∨ r = 1 ∨ r = 2 ∨ r = 3 ∨ r = 4 ∨ r = 5 ∨ r = 6 ∨ r = 7 ∨ r = 8 ∨ r = 9) with h | h | h | h | h | h | h | h | h | h <;> (subst h; rfl)
theorem dec78 {n : Nat} (h : n < 115792089237316195423570985008687907853269984665640564039457584007913129639936) : (dec n).length ≤ 78 := dec_len (by decide) (Nat.lt_trans h (by decide))
theorem dec_z : dec 0 = [48] := dec_lt (by decide)
theorem dec_120 : dec 120 = [49, 50, 48] := by rw [dec_ge (by decide), dec_ge (by decide), dec_lt (by decide)]; rfl
theorem put (a : Int) (h : Wd a) (w : World) : CSpec Try.prog 70 [.agg (wv a).toArray] [] w (Gives (str (dec a.toNat))) := by
  refine spec_of Try.func70 rfl Try.ntmps70 rfl (l0 := [(0, .agg (wv a).toArray)]) rfl ?_
  intro fp
  repeat' first
    | (with_reducible apply J.seq)
    | (with_reducible apply J.region_lit)
    | (with_reducible apply J.ops_nil)
    | (with_reducible apply J.app_cons)
    | (with_reducible apply J.app_nil)
    | (with_reducible apply J.then_)
    | (with_reducible apply J.blk_)
    | (with_reducible apply J.skip)
    | (with_reducible apply J.block)
    | ((with_reducible apply J.q0); exact rfl; focus (first
      | ((with_reducible apply Qv.sliceS (n := n % 10) (n' := n % 10 + 1)); exact rfl; exact rfl; exact rfl; omega; omega; omega; (show _ ≤ 16; omega))
      | ((with_reducible apply Qv.concat); exact rfl; exact rfl; (rw [lett (by omega)]; simp only [List.length_singleton]; omega))
      | ((with_reducible apply Qv.buildW); exact rfl; exact rfl; (first | with_reducible assumption | (unfold Wo; omega) | (simp only [Wd, Wo] at *; omega)))
      | ((with_reducible apply Qv.buildW0); exact rfl; exact rfl)
      | ((with_reducible apply Qv.eqlA); exact rfl; exact rfl; (kernel_rfl); (refine weq _ _ (And.intro ?_ ?_) <;> (first | exact hq | (unfold Wd; omega))))
      | ((with_reducible apply Qv.pure); exact rfl)
      | ((with_reducible apply Qv.fieldAddr); exact rfl; (focus ((try simp only [nl, Nat.reduceAdd, Nat.reduceMul, Int.reduceToNat]); try exact rfl)))
      | ((with_reducible first | apply Qv.indexArr | apply Qv.indexBlk | apply Qv.indexN); exact rfl; exact rfl; (first | decide | omega | (constructor <;> omega)); (focus ((try simp only [nl, Nat.reduceAdd, Nat.reduceMul, Int.reduceToNat]); try exact rfl)))
      | ((with_reducible apply Qv.field1); exact rfl; exact rfl)
      | ((with_reducible apply Qv.fieldN); exact rfl; (focus ((try simp only [nl, Nat.reduceAdd, Nat.reduceMul, Int.reduceToNat]); try exact rfl)))
      | ((with_reducible apply Qv.index1); exact rfl; exact rfl; (first | decide | omega | (constructor <;> omega)); exact rfl)
      | ((with_reducible first | apply Qv.add | apply Qv.sub | apply Qv.mul); exact rfl; exact rfl; (first | exact wr64 (by omega) (by omega) (by (try simp only [Int.reduceAdd, Int.reduceSub, Int.reduceMul]); exact rfl) | exact wru64 (by omega) (by omega) (by (try simp only [Int.reduceAdd, Int.reduceSub, Int.reduceMul]); exact rfl) | exact rfl))
      | ((with_reducible apply Qv.conv); exact rfl; (first | exact wr64 (by omega) (by omega) (by (try simp only [Int.reduceAdd, Int.reduceSub, Int.reduceMul]); exact rfl) | exact wru64 (by omega) (by omega) (by (try simp only [Int.reduceAdd, Int.reduceSub, Int.reduceMul]); exact rfl) | exact rfl))
      | ((with_reducible first | apply Qv.eqlB | apply Qv.neqB); exact rfl; exact rfl)
      | ((with_reducible first | apply Qv.buildA | apply Qv.buildS); exact rfl; (simp only [bfill, nl, Nat.reduceAdd, Nat.reduceMul, Int.reduceToNat]; exact rfl))
      | ((with_reducible apply Qv.quoP); exact rfl; exact rfl; (first | decide | omega); (omega); (first | exact wr64 (by omega) (by omega) rfl | exact wru64 (by omega) (by omega) rfl))
      | ((with_reducible apply Qv.remP); exact rfl; exact rfl; (first | decide | omega); omega)
      | ((with_reducible apply Qv.rem); exact rfl; exact rfl; (first | decide | omega); exact rfl)
      | ((with_reducible apply Qv.quo); exact rfl; exact rfl; (first | decide | omega); (first | exact wr64 (by omega) (by omega) (by (try simp only [Int.reduceAdd, Int.reduceSub, Int.reduceMul]); exact rfl) | exact wru64 (by omega) (by omega) (by (try simp only [Int.reduceAdd, Int.reduceSub, Int.reduceMul]); exact rfl) | exact rfl))
      | ((with_reducible apply Qv.shl); exact rfl; exact rfl; (first | decide | omega); (first | (first | exact wr64 (by omega) (by omega) (by (try simp only [Int.reduceAdd, Int.reduceSub, Int.reduceMul]); exact rfl) | exact wru64 (by omega) (by omega) (by (try simp only [Int.reduceAdd, Int.reduceSub, Int.reduceMul]); exact rfl) | exact rfl) | exact rfl))
      | ((with_reducible apply Qv.shr); exact rfl; exact rfl; (first | decide | omega); exact rfl)
      | ((with_reducible apply Qv.lenS); exact rfl)
      | ((with_reducible apply Qv.lenStr); exact rfl)
      | ((with_reducible apply Qv.capS); exact rfl)
      | ((with_reducible apply Qv.max); exact rfl; exact rfl)
      | ((with_reducible apply Qv.min); exact rfl; exact rfl)))
    | ((with_reducible apply J.q1); exact rfl; focus (first
      | ((with_reducible apply Qr.load1); exact rfl; (repeat (first | with_reducible exact In.here | with_reducible apply In.there)); exact rfl)
      | ((with_reducible apply Qr.loadN); exact rfl; (repeat (first | with_reducible exact In.here | with_reducible apply In.there)); (focus ((try simp only [nl, Nat.reduceAdd, Nat.reduceMul, Int.reduceToNat]); try exact rfl)); (focus (first | (simp only [nl, Nat.reduceAdd, Nat.reduceMul, Int.reduceToNat]; done) | exact rfl)))
      | ((with_reducible apply Qr.row1); exact rfl; (repeat (first | with_reducible exact In.here | with_reducible apply In.there)); exact rfl)
      | ((with_reducible apply Qr.rowN); exact rfl; (repeat (first | with_reducible exact In.here | with_reducible apply In.there)); (focus ((try simp only [nl, Nat.reduceAdd, Nat.reduceMul, Int.reduceToNat]); try exact rfl)); exact rfl)
      | ((with_reducible apply Qr.lenRow); exact rfl; (repeat (first | with_reducible exact In.here | with_reducible apply In.there)))))
    | ((with_reducible apply J.guard_on); exact rfl; exact rfl)
    | ((with_reducible apply J.guard_off); exact rfl; exact rfl; exact rfl; exact rfl)
    | ((with_reducible apply J.guard_off_none); exact rfl; exact rfl; exact rfl)
    | ((with_reducible apply J.gsplit); exact rfl; exact rfl)
    | ((with_reducible apply J.list); focus (first
      | ((with_reducible apply J.allocW); exact rfl; exact rfl; intro _)
      | ((with_reducible apply J.givesP (div_t _ _)); exact rfl; exact rfl; (exact ⟨hx, by unfold Wo; omega, by omega⟩))
      | ((with_reducible apply J.buildSlice); exact rfl; exact rfl; exact rfl; exact rfl; exact rfl; (simp only [bfill, rep, List.replicate_succ, List.replicate_zero, List.flatten_cons, List.flatten_nil, nl, Nat.reduceAdd, Nat.reduceMul, Int.reduceToNat]; exact rfl); intro _)
      | ((with_reducible apply J.buildSlice0); exact rfl; intro _)
      | ((with_reducible apply J.append); exact rfl; exact rfl; (repeat (first | with_reducible exact Out.here | with_reducible apply Out.there)); exact rfl; (repeat (first | with_reducible exact In.here | with_reducible apply In.there)); (focus ((try simp only [nl, Nat.reduceAdd, Nat.reduceMul, Int.reduceToNat]); try exact rfl)); exact rfl; exact rfl; exact rfl; exact rfl; exact rfl; (first | decide | (simp only [maxLen]; omega) | omega); (first | decide | (simp only [maxLen]; omega) | omega); intro _)
      | ((with_reducible apply J.appendNil); exact rfl; exact rfl; exact rfl; (repeat (first | with_reducible exact In.here | with_reducible apply In.there)); (focus ((try simp only [nl, Nat.reduceAdd, Nat.reduceMul, Int.reduceToNat]); try exact rfl)); exact rfl; exact rfl; exact rfl; exact rfl; exact rfl; (first | decide | (simp only [maxLen]; omega) | omega); (first | decide | (simp only [maxLen]; omega) | omega); intro _)
      | ((with_reducible apply J.boxN); exact rfl; exact rfl; intro _)
      | ((with_reducible apply J.box1); exact rfl; exact rfl; exact rfl; intro _)
      | ((with_reducible apply J.alloc); exact rfl; intro _)
      | ((with_reducible apply J.storeN); exact rfl; exact rfl; (repeat (first | with_reducible exact Upd.here | with_reducible apply Upd.there)); (focus ((try simp only [nl, Nat.reduceAdd, Nat.reduceMul, Int.reduceToNat]); try exact rfl)); (focus (first | (simp only [nl, Nat.reduceAdd, Nat.reduceMul, Int.reduceToNat]; done) | exact rfl)); (focus (first | (simp only [nl, Nat.reduceAdd, Nat.reduceMul, Int.reduceToNat]; done) | (simp only [nl, Nat.reduceAdd, Nat.reduceMul, Int.reduceToNat]; omega) | decide)); (first | (with_reducible exact wvs_ones _ _) | exact rfl))
      | ((with_reducible apply J.store1); exact rfl; exact rfl; exact rfl; (repeat (first | with_reducible exact Upd.here | with_reducible apply Upd.there)); (focus ((try simp only [nl, Nat.reduceAdd, Nat.reduceMul, Int.reduceToNat]); try exact rfl)); (first | decide | (simp only [nl, Nat.reduceAdd, Nat.reduceMul, Int.reduceToNat]; omega)))))
    | ((with_reducible apply J.cond_true); exact rfl)
    | ((with_reducible apply J.cond_false); exact rfl)
    | ((with_reducible apply J.cond); exact rfl)
    | (intro h; exfalso; (first | (simp at h; done) | (simp at h; omega) | omega))
    | (intro h; (try simp only [decide_eq_true_eq, decide_eq_false_iff_not, beq_iff_eq, beq_eq_false_iff_ne, Bool.not_eq_true', Bool.not_eq_false', bne_iff_ne, bne_eq_false_iff_eq, ne_eq, ge_iff_le, gt_iff_lt] at h))
    | (with_reducible apply J.cret)
    | ((with_reducible apply J.ret); exact rfl; exact rfl; (repeat (first | (with_reducible exact Res.nil) | ((with_reducible apply Res.tmp); exact rfl) | ((with_reducible apply Res.cell1); exact rfl; (repeat (first | with_reducible exact In.here | with_reducible apply In.there)); exact rfl) | ((with_reducible apply Res.cellN); exact rfl; (repeat (first | with_reducible exact In.here | with_reducible apply In.there)); (focus ((try simp only [nl, Nat.reduceAdd, Nat.reduceMul, Int.reduceToNat]); try exact rfl)); (focus (first | (simp only [nl, Nat.reduceAdd, Nat.reduceMul, Int.reduceToNat]; done) | exact rfl))))); exact rfl)
    | ((with_reducible apply J.ret_normal); exact rfl; exact rfl; (repeat (first | (with_reducible exact Res.nil) | ((with_reducible apply Res.tmp); exact rfl) | ((with_reducible apply Res.cell1); exact rfl; (repeat (first | with_reducible exact In.here | with_reducible apply In.there)); exact rfl) | ((with_reducible apply Res.cellN); exact rfl; (repeat (first | with_reducible exact In.here | with_reducible apply In.there)); (focus ((try simp only [nl, Nat.reduceAdd, Nat.reduceMul, Int.reduceToNat]); try exact rfl)); (focus (first | (simp only [nl, Nat.reduceAdd, Nat.reduceMul, Int.reduceToNat]; done) | exact rfl))))); exact rfl)
    | (with_reducible apply J.gave')
    | ((with_reducible apply J.kept'); rotate_left; (repeat (first | (with_reducible exact Outs.nil) | ((with_reducible apply Outs.cons); (repeat (first | with_reducible exact Out.here | with_reducible apply Out.there))))))
    | (with_reducible apply J.exit)
    | (with_reducible apply J.then_ret)
    | (with_reducible apply J.then_exit)
    | (with_reducible apply J.then_panic)
    | (with_reducible apply J.blk_ret)
    | (with_reducible apply J.blk_panic)
    | (with_reducible apply J.blk_exit)
    | ((with_reducible apply J.blk_past); exact rfl)
  rename_i b1
  apply J.reB (b := b1) (C' := wv ((a.toNat : Nat) : Int))
  · (repeat (first | with_reducible exact Upd.here | with_reducible apply Upd.there))
  · (congr 1; unfold Wd at h; omega)
  apply J.loopI (σ := Nat × List UInt8) (I := fun q => (q.1 < 115792089237316195423570985008687907853269984665640564039457584007913129639936 ∧ dec q.1 ++ q.2 = dec a.toNat)) (L := fun q => [(1, .pointer (some ⟨b1, 0, none⟩)), (3, str q.2)]) (HH := fun q => [blk b1 (wv (q.1 : Int)) 32]) (m := fun q => q.1) (s0 := (a.toNat, []))
  · ((try dsimp only); (refine ⟨?_, ?_⟩; (unfold Wd at h; omega); exact List.append_nil _))
  · ((try dsimp only); repeat (first | exact sub.nil _ | (refine sub.consE rfl ?_ ?_; (first | with_reducible rfl | (fail) | rfl))))
  · ((try dsimp only); (repeat (first | (with_reducible exact Outs.nil) | ((with_reducible apply Outs.cons); (repeat (first | with_reducible exact Out.here | with_reducible apply Out.there))))))
  rintro ⟨n, t⟩ ⟨i1, i2⟩
  try dsimp only at *
  have hl : t.length ≤ 78 := by
    have h1 := congrArg List.length i2
    have h2 := dec78 (n := a.toNat) (by unfold Wd at h; omega)
    rw [List.length_append] at h1
    omega
  obtain ⟨x, hx0⟩ : ∃ x : Int, (n : Int) = x := ⟨_, rfl⟩
  rw [hx0]
  have hx : Wd x := by unfold Wd; omega
  have hq : Wd (x / 10) := by unfold Wd; omega
  repeat' first
    | (with_reducible apply J.seq)
    | (with_reducible apply J.region_lit)
    | (with_reducible apply J.ops_nil)
    | (with_reducible apply J.app_cons)
    | (with_reducible apply J.app_nil)
    | (with_reducible apply J.then_)
    | (with_reducible apply J.blk_)
    | (with_reducible apply J.skip)
    | (with_reducible apply J.block)
    | ((with_reducible apply J.q0); exact rfl; focus (first
      | ((with_reducible apply Qv.sliceS (n := n % 10) (n' := n % 10 + 1)); exact rfl; exact rfl; exact rfl; omega; omega; omega; (show _ ≤ 16; omega))
      | ((with_reducible apply Qv.concat); exact rfl; exact rfl; (rw [lett (by omega)]; simp only [List.length_singleton]; omega))
      | ((with_reducible apply Qv.buildW); exact rfl; exact rfl; (first | with_reducible assumption | (unfold Wo; omega) | (simp only [Wd, Wo] at *; omega)))
      | ((with_reducible apply Qv.buildW0); exact rfl; exact rfl)
      | ((with_reducible apply Qv.eqlA); exact rfl; exact rfl; (kernel_rfl); (refine weq _ _ (And.intro ?_ ?_) <;> (first | exact hq | (unfold Wd; omega))))
      | ((with_reducible apply Qv.pure); exact rfl)
      | ((with_reducible apply Qv.fieldAddr); exact rfl; (focus ((try simp only [nl, Nat.reduceAdd, Nat.reduceMul, Int.reduceToNat]); try exact rfl)))
      | ((with_reducible first | apply Qv.indexArr | apply Qv.indexBlk | apply Qv.indexN); exact rfl; exact rfl; (first | decide | omega | (constructor <;> omega)); (focus ((try simp only [nl, Nat.reduceAdd, Nat.reduceMul, Int.reduceToNat]); try exact rfl)))
      | ((with_reducible apply Qv.field1); exact rfl; exact rfl)
      | ((with_reducible apply Qv.fieldN); exact rfl; (focus ((try simp only [nl, Nat.reduceAdd, Nat.reduceMul, Int.reduceToNat]); try exact rfl)))
      | ((with_reducible apply Qv.index1); exact rfl; exact rfl; (first | decide | omega | (constructor <;> omega)); exact rfl)
      | ((with_reducible first | apply Qv.add | apply Qv.sub | apply Qv.mul); exact rfl; exact rfl; (first | exact wr64 (by omega) (by omega) (by (try simp only [Int.reduceAdd, Int.reduceSub, Int.reduceMul]); exact rfl) | exact wru64 (by omega) (by omega) (by (try simp only [Int.reduceAdd, Int.reduceSub, Int.reduceMul]); exact rfl) | exact rfl))
      | ((with_reducible apply Qv.conv); exact rfl; (first | exact wr64 (by omega) (by omega) (by (try simp only [Int.reduceAdd, Int.reduceSub, Int.reduceMul]); exact rfl) | exact wru64 (by omega) (by omega) (by (try simp only [Int.reduceAdd, Int.reduceSub, Int.reduceMul]); exact rfl) | exact rfl))
      | ((with_reducible first | apply Qv.eqlB | apply Qv.neqB); exact rfl; exact rfl)
      | ((with_reducible first | apply Qv.buildA | apply Qv.buildS); exact rfl; (simp only [bfill, nl, Nat.reduceAdd, Nat.reduceMul, Int.reduceToNat]; exact rfl))
      | ((with_reducible apply Qv.quoP); exact rfl; exact rfl; (first | decide | omega); (omega); (first | exact wr64 (by omega) (by omega) rfl | exact wru64 (by omega) (by omega) rfl))
      | ((with_reducible apply Qv.remP); exact rfl; exact rfl; (first | decide | omega); omega)
      | ((with_reducible apply Qv.rem); exact rfl; exact rfl; (first | decide | omega); exact rfl)
      | ((with_reducible apply Qv.quo); exact rfl; exact rfl; (first | decide | omega); (first | exact wr64 (by omega) (by omega) (by (try simp only [Int.reduceAdd, Int.reduceSub, Int.reduceMul]); exact rfl) | exact wru64 (by omega) (by omega) (by (try simp only [Int.reduceAdd, Int.reduceSub, Int.reduceMul]); exact rfl) | exact rfl))
      | ((with_reducible apply Qv.shl); exact rfl; exact rfl; (first | decide | omega); (first | (first | exact wr64 (by omega) (by omega) (by (try simp only [Int.reduceAdd, Int.reduceSub, Int.reduceMul]); exact rfl) | exact wru64 (by omega) (by omega) (by (try simp only [Int.reduceAdd, Int.reduceSub, Int.reduceMul]); exact rfl) | exact rfl) | exact rfl))
      | ((with_reducible apply Qv.shr); exact rfl; exact rfl; (first | decide | omega); exact rfl)
      | ((with_reducible apply Qv.lenS); exact rfl)
      | ((with_reducible apply Qv.lenStr); exact rfl)
      | ((with_reducible apply Qv.capS); exact rfl)
      | ((with_reducible apply Qv.max); exact rfl; exact rfl)
      | ((with_reducible apply Qv.min); exact rfl; exact rfl)))
    | ((with_reducible apply J.q1); exact rfl; focus (first
      | ((with_reducible apply Qr.load1); exact rfl; (repeat (first | with_reducible exact In.here | with_reducible apply In.there)); exact rfl)
      | ((with_reducible apply Qr.loadN); exact rfl; (repeat (first | with_reducible exact In.here | with_reducible apply In.there)); (focus ((try simp only [nl, Nat.reduceAdd, Nat.reduceMul, Int.reduceToNat]); try exact rfl)); (focus (first | (simp only [nl, Nat.reduceAdd, Nat.reduceMul, Int.reduceToNat]; done) | exact rfl)))
      | ((with_reducible apply Qr.row1); exact rfl; (repeat (first | with_reducible exact In.here | with_reducible apply In.there)); exact rfl)
      | ((with_reducible apply Qr.rowN); exact rfl; (repeat (first | with_reducible exact In.here | with_reducible apply In.there)); (focus ((try simp only [nl, Nat.reduceAdd, Nat.reduceMul, Int.reduceToNat]); try exact rfl)); exact rfl)
      | ((with_reducible apply Qr.lenRow); exact rfl; (repeat (first | with_reducible exact In.here | with_reducible apply In.there)))))
    | ((with_reducible apply J.guard_on); exact rfl; exact rfl)
    | ((with_reducible apply J.guard_off); exact rfl; exact rfl; exact rfl; exact rfl)
    | ((with_reducible apply J.guard_off_none); exact rfl; exact rfl; exact rfl)
    | ((with_reducible apply J.gsplit); exact rfl; exact rfl)
    | ((with_reducible apply J.list); focus (first
      | ((with_reducible apply J.allocW); exact rfl; exact rfl; intro _)
      | ((with_reducible apply J.givesP (div_t _ _)); exact rfl; exact rfl; (exact ⟨hx, by unfold Wo; omega, by omega⟩))
      | ((with_reducible apply J.buildSlice); exact rfl; exact rfl; exact rfl; exact rfl; exact rfl; (simp only [bfill, rep, List.replicate_succ, List.replicate_zero, List.flatten_cons, List.flatten_nil, nl, Nat.reduceAdd, Nat.reduceMul, Int.reduceToNat]; exact rfl); intro _)
      | ((with_reducible apply J.buildSlice0); exact rfl; intro _)
      | ((with_reducible apply J.append); exact rfl; exact rfl; (repeat (first | with_reducible exact Out.here | with_reducible apply Out.there)); exact rfl; (repeat (first | with_reducible exact In.here | with_reducible apply In.there)); (focus ((try simp only [nl, Nat.reduceAdd, Nat.reduceMul, Int.reduceToNat]); try exact rfl)); exact rfl; exact rfl; exact rfl; exact rfl; exact rfl; (first | decide | (simp only [maxLen]; omega) | omega); (first | decide | (simp only [maxLen]; omega) | omega); intro _)
      | ((with_reducible apply J.appendNil); exact rfl; exact rfl; exact rfl; (repeat (first | with_reducible exact In.here | with_reducible apply In.there)); (focus ((try simp only [nl, Nat.reduceAdd, Nat.reduceMul, Int.reduceToNat]); try exact rfl)); exact rfl; exact rfl; exact rfl; exact rfl; exact rfl; (first | decide | (simp only [maxLen]; omega) | omega); (first | decide | (simp only [maxLen]; omega) | omega); intro _)
      | ((with_reducible apply J.boxN); exact rfl; exact rfl; intro _)
      | ((with_reducible apply J.box1); exact rfl; exact rfl; exact rfl; intro _)
      | ((with_reducible apply J.alloc); exact rfl; intro _)
      | ((with_reducible apply J.storeN); exact rfl; exact rfl; (repeat (first | with_reducible exact Upd.here | with_reducible apply Upd.there)); (focus ((try simp only [nl, Nat.reduceAdd, Nat.reduceMul, Int.reduceToNat]); try exact rfl)); (focus (first | (simp only [nl, Nat.reduceAdd, Nat.reduceMul, Int.reduceToNat]; done) | exact rfl)); (focus (first | (simp only [nl, Nat.reduceAdd, Nat.reduceMul, Int.reduceToNat]; done) | (simp only [nl, Nat.reduceAdd, Nat.reduceMul, Int.reduceToNat]; omega) | decide)); (first | (with_reducible exact wvs_ones _ _) | exact rfl))
      | ((with_reducible apply J.store1); exact rfl; exact rfl; exact rfl; (repeat (first | with_reducible exact Upd.here | with_reducible apply Upd.there)); (focus ((try simp only [nl, Nat.reduceAdd, Nat.reduceMul, Int.reduceToNat]); try exact rfl)); (first | decide | (simp only [nl, Nat.reduceAdd, Nat.reduceMul, Int.reduceToNat]; omega)))))
    | ((with_reducible apply J.cond_true); exact rfl)
    | ((with_reducible apply J.cond_false); exact rfl)
    | ((with_reducible apply J.cond); exact rfl)
    | (intro h; exfalso; (first | (simp at h; done) | (simp at h; omega) | omega))
    | (intro h; (try simp only [decide_eq_true_eq, decide_eq_false_iff_not, beq_iff_eq, beq_eq_false_iff_ne, Bool.not_eq_true', Bool.not_eq_false', bne_iff_ne, bne_eq_false_iff_eq, ne_eq, ge_iff_le, gt_iff_lt] at h))
    | (with_reducible apply J.cret)
    | ((with_reducible apply J.ret); exact rfl; exact rfl; (repeat (first | (with_reducible exact Res.nil) | ((with_reducible apply Res.tmp); exact rfl) | ((with_reducible apply Res.cell1); exact rfl; (repeat (first | with_reducible exact In.here | with_reducible apply In.there)); exact rfl) | ((with_reducible apply Res.cellN); exact rfl; (repeat (first | with_reducible exact In.here | with_reducible apply In.there)); (focus ((try simp only [nl, Nat.reduceAdd, Nat.reduceMul, Int.reduceToNat]); try exact rfl)); (focus (first | (simp only [nl, Nat.reduceAdd, Nat.reduceMul, Int.reduceToNat]; done) | exact rfl))))); exact rfl)
    | ((with_reducible apply J.ret_normal); exact rfl; exact rfl; (repeat (first | (with_reducible exact Res.nil) | ((with_reducible apply Res.tmp); exact rfl) | ((with_reducible apply Res.cell1); exact rfl; (repeat (first | with_reducible exact In.here | with_reducible apply In.there)); exact rfl) | ((with_reducible apply Res.cellN); exact rfl; (repeat (first | with_reducible exact In.here | with_reducible apply In.there)); (focus ((try simp only [nl, Nat.reduceAdd, Nat.reduceMul, Int.reduceToNat]); try exact rfl)); (focus (first | (simp only [nl, Nat.reduceAdd, Nat.reduceMul, Int.reduceToNat]; done) | exact rfl))))); exact rfl)
    | (with_reducible apply J.gave')
    | ((with_reducible apply J.kept'); rotate_left; (repeat (first | (with_reducible exact Outs.nil) | ((with_reducible apply Outs.cons); (repeat (first | with_reducible exact Out.here | with_reducible apply Out.there))))))
    | (with_reducible apply J.exit)
    | (with_reducible apply J.then_ret)
    | (with_reducible apply J.then_exit)
    | (with_reducible apply J.then_panic)
    | (with_reducible apply J.blk_ret)
    | (with_reducible apply J.blk_panic)
    | (with_reducible apply J.blk_exit)
    | ((with_reducible apply J.blk_past); exact rfl)
  all_goals
    first
    | (have e1 : n < 10 := by omega
       rw [dec_lt e1] at i2
       have e2 := lett (r := n % 10) (by omega)
       rw [show n % 10 = n by omega] at e2
       rw [← i2]
       simp only [retv]
       rw [show n % 10 = n by omega, e2]
       done)
    | (have e1 : 10 ≤ n := by omega
       rw [dec_ge e1, List.append_assoc] at i2
       have e2 := lett (r := n % 10) (by omega)
       apply J.reB (b := b1) (C' := wv ((n / 10 : Nat) : Int))
       · (repeat (first | with_reducible exact Upd.here | with_reducible apply Upd.there))
       · congr 1; omega
       · (apply J.againI (s := (n, t)) (s' := (n / 10, [dc (n % 10)] ++ t)); (focus (((try simp only) <;> omega))); (focus ((try dsimp only); (exact ⟨by omega, i2⟩))); (focus (((try dsimp only); repeat (first | exact sub.nil _ | (refine sub.consE rfl ?_ ?_; (first | with_reducible rfl | ((focus (rw [e2]))) | rfl)))))); ((try dsimp only); (repeat (first | (with_reducible exact Outs.nil) | ((with_reducible apply Outs.cons); (repeat (first | with_reducible exact Out.here | with_reducible apply Out.there))))))))
    | (trace_state; fail)
theorem al_r : rde [48, 48, 55] = 16 ∧ rdv [48, 48, 55] = 0 := rd_bad (by decide)
theorem alive32  (w : World) : CSpec Try.prog 68 [] [] w (Gives (.bool true)) := by
  refine spec_of Try.func68 rfl Try.ntmps68 rfl (l0 := []) rfl ?_
  intro fp
  repeat' first
    | (with_reducible apply J.seq)
    | (with_reducible apply J.region_lit)
    | (with_reducible apply J.ops_nil)
    | (with_reducible apply J.app_cons)
    | (with_reducible apply J.app_nil)
    | (with_reducible apply J.then_)
    | (with_reducible apply J.blk_)
    | (with_reducible apply J.skip)
    | (with_reducible apply J.block)
    | ((with_reducible apply J.q0); exact rfl; focus (first
      | ((with_reducible apply Qv.buildW); exact rfl; exact rfl; (first | with_reducible assumption | (unfold Wo; omega) | (simp only [Wd, Wo] at *; omega)))
      | ((with_reducible apply Qv.buildW0); exact rfl; exact rfl)
      | ((with_reducible first | apply Qv.eqlS | apply Qv.neqS | apply Qv.lssS); exact rfl; exact rfl)
      | ((with_reducible apply Qv.pure); exact rfl)
      | ((with_reducible apply Qv.fieldAddr); exact rfl; (focus ((try simp only [nl, Nat.reduceAdd, Nat.reduceMul, Int.reduceToNat]); try exact rfl)))
      | ((with_reducible first | apply Qv.indexArr | apply Qv.indexBlk | apply Qv.indexN); exact rfl; exact rfl; (first | decide | omega | (constructor <;> omega)); (focus ((try simp only [nl, Nat.reduceAdd, Nat.reduceMul, Int.reduceToNat]); try exact rfl)))
      | ((with_reducible apply Qv.field1); exact rfl; exact rfl)
      | ((with_reducible apply Qv.fieldN); exact rfl; (focus ((try simp only [nl, Nat.reduceAdd, Nat.reduceMul, Int.reduceToNat]); try exact rfl)))
      | ((with_reducible apply Qv.index1); exact rfl; exact rfl; (first | decide | omega | (constructor <;> omega)); exact rfl)
      | ((with_reducible first | apply Qv.add | apply Qv.sub | apply Qv.mul); exact rfl; exact rfl; (first | exact wr64 (by omega) (by omega) (by (try simp only [Int.reduceAdd, Int.reduceSub, Int.reduceMul]); exact rfl) | exact wru64 (by omega) (by omega) (by (try simp only [Int.reduceAdd, Int.reduceSub, Int.reduceMul]); exact rfl) | exact rfl))
      | ((with_reducible apply Qv.conv); exact rfl; (first | exact wr64 (by omega) (by omega) (by (try simp only [Int.reduceAdd, Int.reduceSub, Int.reduceMul]); exact rfl) | exact wru64 (by omega) (by omega) (by (try simp only [Int.reduceAdd, Int.reduceSub, Int.reduceMul]); exact rfl) | exact rfl))
      | ((with_reducible first | apply Qv.eqlB | apply Qv.neqB); exact rfl; exact rfl)
      | ((with_reducible first | apply Qv.buildA | apply Qv.buildS); exact rfl; (simp only [bfill, nl, Nat.reduceAdd, Nat.reduceMul, Int.reduceToNat]; exact rfl))
      | ((with_reducible apply Qv.quoP); exact rfl; exact rfl; (first | decide | omega); (omega); (first | exact wr64 (by omega) (by omega) rfl | exact wru64 (by omega) (by omega) rfl))
      | ((with_reducible apply Qv.remP); exact rfl; exact rfl; (first | decide | omega); omega)
      | ((with_reducible apply Qv.rem); exact rfl; exact rfl; (first | decide | omega); exact rfl)
      | ((with_reducible apply Qv.quo); exact rfl; exact rfl; (first | decide | omega); (first | exact wr64 (by omega) (by omega) (by (try simp only [Int.reduceAdd, Int.reduceSub, Int.reduceMul]); exact rfl) | exact wru64 (by omega) (by omega) (by (try simp only [Int.reduceAdd, Int.reduceSub, Int.reduceMul]); exact rfl) | exact rfl))
      | ((with_reducible apply Qv.shl); exact rfl; exact rfl; (first | decide | omega); (first | (first | exact wr64 (by omega) (by omega) (by (try simp only [Int.reduceAdd, Int.reduceSub, Int.reduceMul]); exact rfl) | exact wru64 (by omega) (by omega) (by (try simp only [Int.reduceAdd, Int.reduceSub, Int.reduceMul]); exact rfl) | exact rfl) | exact rfl))
      | ((with_reducible apply Qv.shr); exact rfl; exact rfl; (first | decide | omega); exact rfl)
      | ((with_reducible apply Qv.lenS); exact rfl)
      | ((with_reducible apply Qv.lenStr); exact rfl)
      | ((with_reducible apply Qv.capS); exact rfl)
      | ((with_reducible apply Qv.max); exact rfl; exact rfl)
      | ((with_reducible apply Qv.min); exact rfl; exact rfl)))
    | ((with_reducible apply J.q1); exact rfl; focus (first
      | ((with_reducible apply Qr.load1); exact rfl; (repeat (first | with_reducible exact In.here | with_reducible apply In.there)); exact rfl)
      | ((with_reducible apply Qr.loadN); exact rfl; (repeat (first | with_reducible exact In.here | with_reducible apply In.there)); (focus ((try simp only [nl, Nat.reduceAdd, Nat.reduceMul, Int.reduceToNat]); try exact rfl)); (focus (first | (simp only [nl, Nat.reduceAdd, Nat.reduceMul, Int.reduceToNat]; done) | exact rfl)))
      | ((with_reducible apply Qr.row1); exact rfl; (repeat (first | with_reducible exact In.here | with_reducible apply In.there)); exact rfl)
      | ((with_reducible apply Qr.rowN); exact rfl; (repeat (first | with_reducible exact In.here | with_reducible apply In.there)); (focus ((try simp only [nl, Nat.reduceAdd, Nat.reduceMul, Int.reduceToNat]); try exact rfl)); exact rfl)
      | ((with_reducible apply Qr.lenRow); exact rfl; (repeat (first | with_reducible exact In.here | with_reducible apply In.there)))))
    | ((with_reducible apply J.guard_on); exact rfl; exact rfl)
    | ((with_reducible apply J.guard_off); exact rfl; exact rfl; exact rfl; exact rfl)
    | ((with_reducible apply J.guard_off_none); exact rfl; exact rfl; exact rfl)
    | ((with_reducible apply J.gsplit); exact rfl; exact rfl)
    | ((with_reducible apply J.list); focus (first
      | ((with_reducible apply J.allocW); exact rfl; exact rfl; intro _)
      | ((with_reducible apply J.givesP (read _)); exact rfl; exact rfl; (decide))
      | ((with_reducible apply J.givesP (put _)); exact rfl; exact rfl; (unfold Wd; omega))
      | ((with_reducible apply J.buildSlice); exact rfl; exact rfl; exact rfl; exact rfl; exact rfl; (simp only [bfill, rep, List.replicate_succ, List.replicate_zero, List.flatten_cons, List.flatten_nil, nl, Nat.reduceAdd, Nat.reduceMul, Int.reduceToNat]; exact rfl); intro _)
      | ((with_reducible apply J.buildSlice0); exact rfl; intro _)
      | ((with_reducible apply J.append); exact rfl; exact rfl; (repeat (first | with_reducible exact Out.here | with_reducible apply Out.there)); exact rfl; (repeat (first | with_reducible exact In.here | with_reducible apply In.there)); (focus ((try simp only [nl, Nat.reduceAdd, Nat.reduceMul, Int.reduceToNat]); try exact rfl)); exact rfl; exact rfl; exact rfl; exact rfl; exact rfl; (first | decide | (simp only [maxLen]; omega) | omega); (first | decide | (simp only [maxLen]; omega) | omega); intro _)
      | ((with_reducible apply J.appendNil); exact rfl; exact rfl; exact rfl; (repeat (first | with_reducible exact In.here | with_reducible apply In.there)); (focus ((try simp only [nl, Nat.reduceAdd, Nat.reduceMul, Int.reduceToNat]); try exact rfl)); exact rfl; exact rfl; exact rfl; exact rfl; exact rfl; (first | decide | (simp only [maxLen]; omega) | omega); (first | decide | (simp only [maxLen]; omega) | omega); intro _)
      | ((with_reducible apply J.boxN); exact rfl; exact rfl; intro _)
      | ((with_reducible apply J.box1); exact rfl; exact rfl; exact rfl; intro _)
      | ((with_reducible apply J.alloc); exact rfl; intro _)
      | ((with_reducible apply J.storeN); exact rfl; exact rfl; (repeat (first | with_reducible exact Upd.here | with_reducible apply Upd.there)); (focus ((try simp only [nl, Nat.reduceAdd, Nat.reduceMul, Int.reduceToNat]); try exact rfl)); (focus (first | (simp only [nl, Nat.reduceAdd, Nat.reduceMul, Int.reduceToNat]; done) | exact rfl)); (focus (first | (simp only [nl, Nat.reduceAdd, Nat.reduceMul, Int.reduceToNat]; done) | (simp only [nl, Nat.reduceAdd, Nat.reduceMul, Int.reduceToNat]; omega) | decide)); (first | (with_reducible exact wvs_ones _ _) | exact rfl))
      | ((with_reducible apply J.store1); exact rfl; exact rfl; exact rfl; (repeat (first | with_reducible exact Upd.here | with_reducible apply Upd.there)); (focus ((try simp only [nl, Nat.reduceAdd, Nat.reduceMul, Int.reduceToNat]); try exact rfl)); (first | decide | (simp only [nl, Nat.reduceAdd, Nat.reduceMul, Int.reduceToNat]; omega)))))
    | ((with_reducible apply J.cond_true); exact rfl)
    | ((with_reducible apply J.cond_false); exact rfl)
    | ((with_reducible apply J.cond); exact rfl)
    | (intro h; exfalso; (first | (simp [al_r] at h; done) | (rw [show (0 : Int).toNat = 0 from rfl, dec_z] at h; simp at h; done) | (rw [show (120 : Int).toNat = 120 from rfl, dec_120] at h; simp at h; done) | omega))
    | (intro h; (try simp only [decide_eq_true_eq, decide_eq_false_iff_not, beq_iff_eq, beq_eq_false_iff_ne, Bool.not_eq_true', Bool.not_eq_false', bne_iff_ne, bne_eq_false_iff_eq, ne_eq, ge_iff_le, gt_iff_lt] at h))
    | (with_reducible apply J.cret)
    | ((with_reducible apply J.ret); exact rfl; exact rfl; (repeat (first | (with_reducible exact Res.nil) | ((with_reducible apply Res.tmp); exact rfl) | ((with_reducible apply Res.cell1); exact rfl; (repeat (first | with_reducible exact In.here | with_reducible apply In.there)); exact rfl) | ((with_reducible apply Res.cellN); exact rfl; (repeat (first | with_reducible exact In.here | with_reducible apply In.there)); (focus ((try simp only [nl, Nat.reduceAdd, Nat.reduceMul, Int.reduceToNat]); try exact rfl)); (focus (first | (simp only [nl, Nat.reduceAdd, Nat.reduceMul, Int.reduceToNat]; done) | exact rfl))))); exact rfl)
    | ((with_reducible apply J.ret_normal); exact rfl; exact rfl; (repeat (first | (with_reducible exact Res.nil) | ((with_reducible apply Res.tmp); exact rfl) | ((with_reducible apply Res.cell1); exact rfl; (repeat (first | with_reducible exact In.here | with_reducible apply In.there)); exact rfl) | ((with_reducible apply Res.cellN); exact rfl; (repeat (first | with_reducible exact In.here | with_reducible apply In.there)); (focus ((try simp only [nl, Nat.reduceAdd, Nat.reduceMul, Int.reduceToNat]); try exact rfl)); (focus (first | (simp only [nl, Nat.reduceAdd, Nat.reduceMul, Int.reduceToNat]; done) | exact rfl))))); exact rfl)
    | (with_reducible apply J.gave')
    | ((with_reducible apply J.kept'); rotate_left; (repeat (first | (with_reducible exact Outs.nil) | ((with_reducible apply Outs.cons); (repeat (first | with_reducible exact Out.here | with_reducible apply Out.there))))))
    | (with_reducible apply J.exit)
    | (with_reducible apply J.then_ret)
    | (with_reducible apply J.then_exit)
    | (with_reducible apply J.then_panic)
    | (with_reducible apply J.blk_ret)
    | (with_reducible apply J.blk_panic)
    | (with_reducible apply J.blk_exit)
    | ((with_reducible apply J.blk_past); exact rfl)
  all_goals ((first | rfl | (simp only [retv]; rw [show (120 : Int).toNat = 120 from rfl, dec_120]; rfl) | (trace_state; fail)))
end Go.Proofs.Ytnbckkpflmpnlaa.Txt
