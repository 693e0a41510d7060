/-
  The functions of math/bits on words: the product, the length, the quotient. No conditions.
-/
import Derived.Test.YtnbckkpflmpnlaaTy
import Derived.Test.YtnbckkpflmpnlaaSrc
namespace Go.Proofs.Ytnbckkpflmpnlaa.Bits
open Go Go.RowKit Eng
set_option linter.unusedVariables false
set_option maxRecDepth 100000
set_option linter.unusedSimpArgs false
set_option maxHeartbeats 2000000
section
variable {P : Program} {l : TL} {m : Nat}
theorem wrap_u {e : Int} : IntKind.u64.wrap e = e % 18446744073709551616 := by
  simp [IntKind.wrap, IntKind.signed, IntKind.bits]
theorem Qv.mulM {T T' : Nat} {x y : Operand} {e f : Int} (hx : ev l x = some (.int .u64 e)) (hy : ev l y = some (.int .u64 f)) : Qv P m l (.binOp .mul T x y T') (.int .u64 ((e * f) % 18446744073709551616)) := Qv.mul hx hy wrap_u
theorem Qv.addM {T T' : Nat} {x y : Operand} {e f : Int} (hx : ev l x = some (.int .u64 e)) (hy : ev l y = some (.int .u64 f)) : Qv P m l (.binOp .add T x y T') (.int .u64 ((e + f) % 18446744073709551616)) := Qv.add hx hy wrap_u
theorem Qv.subM {T T' : Nat} {x y : Operand} {e f : Int} (hx : ev l x = some (.int .u64 e)) (hy : ev l y = some (.int .u64 f)) : Qv P m l (.binOp .sub T x y T') (.int .u64 ((e - f) % 18446744073709551616)) := Qv.sub hx hy wrap_u
theorem Qv.shrC {T T' : Nat} {x y : Operand} {k' : IntKind} {e f : Int} (d : Int) (hx : ev l x = some (.int .u64 e)) (hy : ev l y = some (.int k' f)) (hf : ¬ f < 0) (hd : (2 : Int) ^ (min f.toNat IntKind.u64.bits) = d) : Qv P m l (.binOp .shr T x y T') (.int .u64 (e / d)) :=
  Qv.shr hx hy hf (by rw [hd, Int.fdiv_eq_ediv_of_nonneg _ (by rw [← hd]; exact Int.le_of_lt (Int.pow_pos (by decide)))])
theorem and_low {e : Int} (h : 0 ≤ e ∧ e < 18446744073709551616) : (((e % 2 ^ IntKind.u64.bits).toNat &&& 4294967295 % 2 ^ IntKind.u64.bits : Nat) : Int) = e % 4294967296 := by
  have e64 : IntKind.u64.bits = 64 := rfl
  have h1 : (4294967295 % 2 ^ 64 : Nat) = 2 ^ 32 - 1 := by decide
  rw [e64, h1, Nat.and_two_pow_sub_one_eq_mod]
  omega
theorem Qv.andC {T T' : Nat} {x y : Operand} {e : Int} (hx : ev l x = some (.int .u64 e)) (hy : ev l y = some (.int .u64 4294967295)) (he : 0 ≤ e ∧ e < 18446744073709551616) : Qv P m l (.binOp .and T x y T') (.int .u64 (e % 4294967296)) := fun a w _ _ _ _ s => by
  simp [execOp, s.ev hx, s.ev hy, eqGuard, binOp, Op.intBits]
  rw [and_low he, wru64 (by omega) (by omega) rfl]
end
theorem mulB {u v : Int} (hu : 0 ≤ u ∧ u ≤ 4294967295) (hv : 0 ≤ v ∧ v ≤ 4294967295) : 0 ≤ u * v ∧ u * v ≤ 18446744065119617025 :=
  ⟨Int.mul_nonneg hu.1 hv.1, Int.le_trans (Int.mul_le_mul hu.2 hv.2 hv.1 (by omega)) (by decide)⟩
theorem mul_hi {x y : Int} (hx : 0 ≤ x ∧ x < 18446744073709551616) (hy : 0 ≤ y ∧ y < 18446744073709551616) :
    ((((x / 4294967296 * (y / 4294967296)) % 18446744073709551616 + ((x / 4294967296 * (y % 4294967296)) % 18446744073709551616 + ((x % 4294967296 * (y % 4294967296)) % 18446744073709551616) / 4294967296) % 18446744073709551616 / 4294967296) % 18446744073709551616 + ((((x / 4294967296 * (y % 4294967296)) % 18446744073709551616 + ((x % 4294967296 * (y % 4294967296)) % 18446744073709551616) / 4294967296) % 18446744073709551616) % 4294967296 + (x % 4294967296 * (y / 4294967296)) % 18446744073709551616) % 18446744073709551616 / 4294967296) % 18446744073709551616) = x * y / 18446744073709551616 := by
  have e1 : x = 4294967296 * (x / 4294967296) + x % 4294967296 := by omega
  have e2 : y = 4294967296 * (y / 4294967296) + y % 4294967296 := by omega
  have hxy : x * y = 18446744073709551616 * (x / 4294967296 * (y / 4294967296)) + 4294967296 * (x / 4294967296 * (y % 4294967296) + x % 4294967296 * (y / 4294967296)) + x % 4294967296 * (y % 4294967296) := by
    generalize x / 4294967296 = x1 at *
    generalize x % 4294967296 = x0 at *
    generalize y / 4294967296 = y1 at *
    generalize y % 4294967296 = y0 at *
    subst e1; subst e2
    grind
  have b1 := mulB (u := x / 4294967296) (v := y / 4294967296) (by omega) (by omega)
  have b2 := mulB (u := x / 4294967296) (v := y % 4294967296) (by omega) (by omega)
  have b3 := mulB (u := x % 4294967296) (v := y / 4294967296) (by omega) (by omega)
  have b4 := mulB (u := x % 4294967296) (v := y % 4294967296) (by omega) (by omega)
  rw [hxy]
  generalize x / 4294967296 * (y / 4294967296) = p11 at *
  generalize x / 4294967296 * (y % 4294967296) = p10 at *
  generalize x % 4294967296 * (y / 4294967296) = p01 at *
  generalize x % 4294967296 * (y % 4294967296) = p00 at *
  omega
theorem mul64 (x y : Int) (h : Wo x ∧ Wo y) (w : World) : CSpec Try.prog 88 [.int .u64 x, .int .u64 y] [] w (Gives (.tuple [.int .u64 (x * y / 18446744073709551616), .int .u64 ((x * y) % 18446744073709551616)].toArray)) := by
  obtain ⟨hx, hy⟩ := h
  unfold Wo at hx hy
  refine spec_of Try.func88 rfl Try.ntmps88 rfl (l0 := [(0, .int .u64 x), (1, .int .u64 y)]) rfl ?_
  intro fp
  repeat' first
    | (with_reducible apply J.seq)
    | (with_reducible apply J.region_lit)
    | (with_reducible apply J.ops_nil)
    | (with_reducible apply J.app_cons)
    | (with_reducible apply J.app_nil)
    | (with_reducible apply J.then_)
    | (with_reducible apply J.blk_)
    | (with_reducible apply J.skip)
    | (with_reducible apply J.block)
    | ((with_reducible apply J.q0); exact rfl; focus (first
      | ((with_reducible apply Qv.mulM); exact rfl; exact rfl)
      | ((with_reducible apply Qv.addM); exact rfl; exact rfl)
      | ((with_reducible apply Qv.subM); exact rfl; exact rfl)
      | ((with_reducible apply Qv.shrC 4294967296); exact rfl; exact rfl; (decide); (decide))
      | ((with_reducible apply Qv.shrC 65536); exact rfl; exact rfl; (decide); (decide))
      | ((with_reducible apply Qv.shrC 256); exact rfl; exact rfl; (decide); (decide))
      | ((with_reducible apply Qv.andC); exact rfl; exact rfl; omega)
      | ((with_reducible apply Qv.pure); exact rfl)
      | ((with_reducible apply Qv.fieldAddr); exact rfl; (focus ((try simp only [nl, Nat.reduceAdd, Nat.reduceMul, Int.reduceToNat]); try exact rfl)))
      | ((with_reducible first | apply Qv.indexArr | apply Qv.indexBlk | apply Qv.indexN); exact rfl; exact rfl; (first | decide | omega | (constructor <;> omega)); (focus ((try simp only [nl, Nat.reduceAdd, Nat.reduceMul, Int.reduceToNat]); try exact rfl)))
      | ((with_reducible apply Qv.field1); exact rfl; exact rfl)
      | ((with_reducible apply Qv.fieldN); exact rfl; (focus ((try simp only [nl, Nat.reduceAdd, Nat.reduceMul, Int.reduceToNat]); try exact rfl)))
      | ((with_reducible apply Qv.index1); exact rfl; exact rfl; (first | decide | omega | (constructor <;> omega)); exact rfl)
      | ((with_reducible first | apply Qv.add | apply Qv.sub | apply Qv.mul); exact rfl; exact rfl; (first | exact wr64 (by omega) (by omega) (by (try simp only [Int.reduceAdd, Int.reduceSub, Int.reduceMul]); exact rfl) | exact wru64 (by omega) (by omega) (by (try simp only [Int.reduceAdd, Int.reduceSub, Int.reduceMul]); exact rfl) | exact rfl))
      | ((with_reducible apply Qv.conv); exact rfl; (first | exact wr64 (by omega) (by omega) (by (try simp only [Int.reduceAdd, Int.reduceSub, Int.reduceMul]); exact rfl) | exact wru64 (by omega) (by omega) (by (try simp only [Int.reduceAdd, Int.reduceSub, Int.reduceMul]); exact rfl) | exact rfl))
      | ((with_reducible first | apply Qv.eqlB | apply Qv.neqB); exact rfl; exact rfl)
      | ((with_reducible first | apply Qv.buildA | apply Qv.buildS); exact rfl; (simp only [bfill, nl, Nat.reduceAdd, Nat.reduceMul, Int.reduceToNat]; exact rfl))
      | ((with_reducible apply Qv.quoP); exact rfl; exact rfl; (first | decide | omega); (omega); (first | exact wr64 (by omega) (by omega) rfl | exact wru64 (by omega) (by omega) rfl))
      | ((with_reducible apply Qv.remP); exact rfl; exact rfl; (first | decide | omega); omega)
      | ((with_reducible apply Qv.rem); exact rfl; exact rfl; (first | decide | omega); exact rfl)
      | ((with_reducible apply Qv.quo); exact rfl; exact rfl; (first | decide | omega); (first | exact wr64 (by omega) (by omega) (by (try simp only [Int.reduceAdd, Int.reduceSub, Int.reduceMul]); exact rfl) | exact wru64 (by omega) (by omega) (by (try simp only [Int.reduceAdd, Int.reduceSub, Int.reduceMul]); exact rfl) | exact rfl))
      | ((with_reducible apply Qv.shl); exact rfl; exact rfl; (first | decide | omega); (first | (first | exact wr64 (by omega) (by omega) (by (try simp only [Int.reduceAdd, Int.reduceSub, Int.reduceMul]); exact rfl) | exact wru64 (by omega) (by omega) (by (try simp only [Int.reduceAdd, Int.reduceSub, Int.reduceMul]); exact rfl) | exact rfl) | exact rfl))
      | ((with_reducible apply Qv.shr); exact rfl; exact rfl; (first | decide | omega); exact rfl)
      | ((with_reducible apply Qv.lenS); exact rfl)
      | ((with_reducible apply Qv.lenStr); exact rfl)
      | ((with_reducible apply Qv.capS); exact rfl)
      | ((with_reducible apply Qv.max); exact rfl; exact rfl)
      | ((with_reducible apply Qv.min); exact rfl; exact rfl)))
    | ((with_reducible apply J.q1); exact rfl; focus (first
      | ((with_reducible apply Qr.load1); exact rfl; (repeat (first | with_reducible exact In.here | with_reducible apply In.there)); exact rfl)
      | ((with_reducible apply Qr.loadN); exact rfl; (repeat (first | with_reducible exact In.here | with_reducible apply In.there)); (focus ((try simp only [nl, Nat.reduceAdd, Nat.reduceMul, Int.reduceToNat]); try exact rfl)); (focus (first | (simp only [nl, Nat.reduceAdd, Nat.reduceMul, Int.reduceToNat]; done) | exact rfl)))
      | ((with_reducible apply Qr.row1); exact rfl; (repeat (first | with_reducible exact In.here | with_reducible apply In.there)); exact rfl)
      | ((with_reducible apply Qr.rowN); exact rfl; (repeat (first | with_reducible exact In.here | with_reducible apply In.there)); (focus ((try simp only [nl, Nat.reduceAdd, Nat.reduceMul, Int.reduceToNat]); try exact rfl)); exact rfl)
      | ((with_reducible apply Qr.lenRow); exact rfl; (repeat (first | with_reducible exact In.here | with_reducible apply In.there)))))
    | ((with_reducible apply J.guard_on); exact rfl; exact rfl)
    | ((with_reducible apply J.guard_off); exact rfl; exact rfl; exact rfl; exact rfl)
    | ((with_reducible apply J.guard_off_none); exact rfl; exact rfl; exact rfl)
    | ((with_reducible apply J.gsplit); exact rfl; exact rfl)
    | ((with_reducible apply J.list); focus (first
      | ((with_reducible apply J.buildSlice); exact rfl; exact rfl; exact rfl; exact rfl; exact rfl; (simp only [bfill, rep, List.replicate_succ, List.replicate_zero, List.flatten_cons, List.flatten_nil, nl, Nat.reduceAdd, Nat.reduceMul, Int.reduceToNat]; exact rfl); intro _)
      | ((with_reducible apply J.buildSlice0); exact rfl; intro _)
      | ((with_reducible apply J.append); exact rfl; exact rfl; (repeat (first | with_reducible exact Out.here | with_reducible apply Out.there)); exact rfl; (repeat (first | with_reducible exact In.here | with_reducible apply In.there)); (focus ((try simp only [nl, Nat.reduceAdd, Nat.reduceMul, Int.reduceToNat]); try exact rfl)); exact rfl; exact rfl; exact rfl; exact rfl; exact rfl; (first | decide | (simp only [maxLen]; omega) | omega); (first | decide | (simp only [maxLen]; omega) | omega); intro _)
      | ((with_reducible apply J.appendNil); exact rfl; exact rfl; exact rfl; (repeat (first | with_reducible exact In.here | with_reducible apply In.there)); (focus ((try simp only [nl, Nat.reduceAdd, Nat.reduceMul, Int.reduceToNat]); try exact rfl)); exact rfl; exact rfl; exact rfl; exact rfl; exact rfl; (first | decide | (simp only [maxLen]; omega) | omega); (first | decide | (simp only [maxLen]; omega) | omega); intro _)
      | ((with_reducible apply J.boxN); exact rfl; exact rfl; intro _)
      | ((with_reducible apply J.box1); exact rfl; exact rfl; exact rfl; intro _)
      | ((with_reducible apply J.alloc); exact rfl; intro _)
      | ((with_reducible apply J.storeN); exact rfl; exact rfl; (repeat (first | with_reducible exact Upd.here | with_reducible apply Upd.there)); (focus ((try simp only [nl, Nat.reduceAdd, Nat.reduceMul, Int.reduceToNat]); try exact rfl)); (focus (first | (simp only [nl, Nat.reduceAdd, Nat.reduceMul, Int.reduceToNat]; done) | exact rfl)); (focus (first | (simp only [nl, Nat.reduceAdd, Nat.reduceMul, Int.reduceToNat]; done) | (simp only [nl, Nat.reduceAdd, Nat.reduceMul, Int.reduceToNat]; omega) | decide)); (first | (with_reducible exact wvs_ones _ _) | exact rfl))
      | ((with_reducible apply J.store1); exact rfl; exact rfl; exact rfl; (repeat (first | with_reducible exact Upd.here | with_reducible apply Upd.there)); (focus ((try simp only [nl, Nat.reduceAdd, Nat.reduceMul, Int.reduceToNat]); try exact rfl)); (first | decide | (simp only [nl, Nat.reduceAdd, Nat.reduceMul, Int.reduceToNat]; omega)))))
    | ((with_reducible apply J.cond_true); exact rfl)
    | ((with_reducible apply J.cond_false); exact rfl)
    | ((with_reducible apply J.cond); exact rfl)
    | (intro h; exfalso; (first | (simp at h; done) | (simp at h; omega)))
    | (intro h; (try simp only [decide_eq_true_eq, decide_eq_false_iff_not, beq_iff_eq, beq_eq_false_iff_ne, Bool.not_eq_true', Bool.not_eq_false', bne_iff_ne, bne_eq_false_iff_eq, ne_eq, ge_iff_le, gt_iff_lt] at h))
    | (with_reducible apply J.cret)
    | ((with_reducible apply J.ret); exact rfl; exact rfl; (repeat (first | (with_reducible exact Res.nil) | ((with_reducible apply Res.tmp); exact rfl) | ((with_reducible apply Res.cell1); exact rfl; (repeat (first | with_reducible exact In.here | with_reducible apply In.there)); exact rfl) | ((with_reducible apply Res.cellN); exact rfl; (repeat (first | with_reducible exact In.here | with_reducible apply In.there)); (focus ((try simp only [nl, Nat.reduceAdd, Nat.reduceMul, Int.reduceToNat]); try exact rfl)); (focus (first | (simp only [nl, Nat.reduceAdd, Nat.reduceMul, Int.reduceToNat]; done) | exact rfl))))); exact rfl)
    | ((with_reducible apply J.ret_normal); exact rfl; exact rfl; (repeat (first | (with_reducible exact Res.nil) | ((with_reducible apply Res.tmp); exact rfl) | ((with_reducible apply Res.cell1); exact rfl; (repeat (first | with_reducible exact In.here | with_reducible apply In.there)); exact rfl) | ((with_reducible apply Res.cellN); exact rfl; (repeat (first | with_reducible exact In.here | with_reducible apply In.there)); (focus ((try simp only [nl, Nat.reduceAdd, Nat.reduceMul, Int.reduceToNat]); try exact rfl)); (focus (first | (simp only [nl, Nat.reduceAdd, Nat.reduceMul, Int.reduceToNat]; done) | exact rfl))))); exact rfl)
    | (with_reducible apply J.gave')
    | ((with_reducible apply J.kept'); rotate_left; (repeat (first | (with_reducible exact Outs.nil) | ((with_reducible apply Outs.cons); (repeat (first | with_reducible exact Out.here | with_reducible apply Out.there))))))
    | (with_reducible apply J.exit)
    | (with_reducible apply J.then_ret)
    | (with_reducible apply J.then_exit)
    | (with_reducible apply J.then_panic)
    | (with_reducible apply J.blk_ret)
    | (with_reducible apply J.blk_panic)
    | (with_reducible apply J.blk_exit)
    | ((with_reducible apply J.blk_past); exact rfl)
  all_goals ((simp only [retv]; rw [mul_hi hx hy]; done))
end Go.Proofs.Ytnbckkpflmpnlaa.Bits
