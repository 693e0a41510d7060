/-
  The functions of wide, as of numbers. No conditions.
-/
import Derived.Test.YtfcaeifpclpnoaaQAu
namespace Go.Proofs.Ytfcaeifpclpnoaa.Wide
open Go Go.RowKit Eng
set_option linter.unusedVariables false
set_option maxRecDepth 100000
set_option linter.unusedSimpArgs false
theorem add64 (x y c : Int) (h : Wo x ∧ Wo y ∧ 0 ≤ c ∧ c ≤ 1) (w : World) : (callFunc 97 [.int .u64 x, .int .u64 y, .int .u64 c].toArray).run Try.prog w =
    .ok (.value (.tuple [.int .u64 ((x + y + c) % 18446744073709551616), .int .u64 ((x + y + c) / 18446744073709551616)].toArray)) w := by
  rw [run_callFunc_extern Try.func97 (by kernel_rfl) (by kernel_rfl) (by kernel_rfl) (e := add64Entry) (by kernel_rfl)]
  rw [show [Value.int .u64 x, .int .u64 y, .int .u64 c].toArray = #[Value.int .u64 x, .int .u64 y, .int .u64 c] from rfl, run_add64 x y c h.1.1 h.2.1.1 h.2.2.1 h.2.2.2]
  rfl
theorem of (x : Int) (h : Wo x) (w : World) : CSpec Try.prog 32 [.int .u64 x] [] w (Gives (.agg (wv x).toArray)) := by
  refine spec_of Try.func32 rfl Try.ntmps32 rfl (l0 := [(0, .int .u64 x)]) rfl ?_
  intro fp
  repeat' first
    | refine J.one ?_
    | refine J.loudS ?_
    | (refine J.loudQ ?_; intro _ _)
    | (refine J.loudB ?_; intro _)
    | (with_reducible apply J.list)
    | ((with_reducible apply J.gsplit); exact rfl; exact rfl)
    | ((with_reducible first | apply J.cond | apply JC.cond); exact rfl)
    | (intro h; exfalso; (first | (simp at h; done) | (simp at h; omega)))
    | (intro h; (try simp only [decide_eq_true_eq, decide_eq_false_iff_not, beq_iff_eq, beq_eq_false_iff_ne, Bool.not_eq_true', Bool.not_eq_false', bne_iff_ne, bne_eq_false_iff_eq, ne_eq, ge_iff_le, gt_iff_lt] at h))
    | (with_reducible apply J.gave')
    | ((with_reducible apply J.kept'); rotate_left; (repeat (first | (with_reducible exact Outs.nil) | ((with_reducible apply Outs.cons); (repeat (first | with_reducible exact Out.here | with_reducible apply Out.there))))))
  all_goals (simp only [retv]; rw [wv_small h])
theorem add (a b : Int) (h : Wd a ∧ Wd b) (w : World) : CSpec Try.prog 61 [.agg (wv a).toArray, .agg (wv b).toArray] [] w (Gives (.tuple [.agg (wv (wadd a b)).toArray, .bool (decide (a + b < 115792089237316195423570985008687907853269984665640564039457584007913129639936))].toArray)) := by
  obtain ⟨a0, a1, a2, a3, ha0, ha1, ha2, ha3, rfl⟩ := wd_words h.1
  obtain ⟨b0, b1, b2, b3, hb0, hb1, hb2, hb3, rfl⟩ := wd_words h.2
  rw [wv_words ha0 ha1 ha2 ha3, wv_words hb0 hb1 hb2 hb3]
  refine spec_of Try.func61 rfl Try.ntmps61 rfl (l0 := [(0, .agg [.int .u64 a0, .int .u64 a1, .int .u64 a2, .int .u64 a3].toArray), (1, .agg [.int .u64 b0, .int .u64 b1, .int .u64 b2, .int .u64 b3].toArray)]) rfl ?_
  intro fp
  repeat' first
    | (with_reducible refine J.rounds 5 ?_)
    | (with_reducible apply J.round)
    | (refine J.qv ?_; (with_reducible apply exq); focus (first
      | ((with_reducible apply Qv.ext); exact rfl; exact add64 _ _ _ (by first | (unfold Wo at *; omega) | omega))))
    | refine J.one ?_
    | refine J.loudS ?_
    | (refine J.loudQ ?_; intro _ _)
    | (refine J.loudB ?_; intro _)
    | (with_reducible apply J.list)
    | ((with_reducible apply J.draw (id := 6) [0, 0, 2, 6, 0, 16, 48, 0, 254, 510, 1022, 1022, 2047, 6143, 16383] (.p 0 (.p 1 (.p 2 (.q 3 (.p 4 (.p 5 (.q 6 (.p 7 (.p 8 (.p 9 (.p 10 (.p 11 (.p 12 (.x 13 (.p 14 .nil) .none)))))))))))))) (by kernel_rfl) ?_ (by kernel_rfl) ?_); (repeat (with_reducible first | exact PanicFree.body | exact PanicFree.np | exact PanicFree.lvS | apply PanicFree.then_ | apply PanicFree.blk)))
    | ((with_reducible apply J.pl2); exact rfl; (first | exact Gd.none | ((with_reducible apply Gd.on); exact rfl; exact rfl)); (repeat (first | (with_reducible exact PendF.nil) | ((with_reducible apply PendF.keep); exact rfl) | ((with_reducible apply PendF.gone); exact rfl))))
    | ((with_reducible apply J.pl2_off); exact rfl; ((with_reducible apply Gd.off); exact rfl; exact rfl; exact rfl); exact rfl; (repeat (first | (with_reducible exact PendF.nil) | ((with_reducible apply PendF.keep); exact rfl) | ((with_reducible apply PendF.gone); exact rfl))))
    | ((with_reducible apply J.pl2_off_none); exact rfl; ((with_reducible apply Gd.off); exact rfl; exact rfl; exact rfl); (repeat (first | (with_reducible exact PendF.nil) | ((with_reducible apply PendF.keep); exact rfl) | ((with_reducible apply PendF.gone); exact rfl))))
    | ((with_reducible first | apply J.psplit0 | apply J.psplit1 | apply J.psplit2); exact rfl; exact rfl; exact rfl)
    | (with_reducible exact J.pl_none)
    | ((with_reducible apply J.gsplit); exact rfl; exact rfl)
    | ((with_reducible first | apply J.cond | apply JC.cond); exact rfl)
    | (intro h; exfalso; (first | (simp at h; done) | (simp at h; omega)))
    | (intro h; (try simp only [decide_eq_true_eq, decide_eq_false_iff_not, beq_iff_eq, beq_eq_false_iff_ne, Bool.not_eq_true', Bool.not_eq_false', bne_iff_ne, bne_eq_false_iff_eq, ne_eq, ge_iff_le, gt_iff_lt] at h))
    | (with_reducible apply J.gave')
    | ((with_reducible apply J.kept'); rotate_left; (repeat (first | (with_reducible exact Outs.nil) | ((with_reducible apply Outs.cons); (repeat (first | with_reducible exact Out.here | with_reducible apply Out.there))))))
  all_goals
    (
    have e0 : a0 + b0 = (a0 + b0 + 0) % 18446744073709551616 + 18446744073709551616 * ((a0 + b0 + 0) / 18446744073709551616) := by first | omega | (split <;> omega)
    have m0 : Wo ((a0 + b0 + 0) % 18446744073709551616) := by unfold Wo; omega
    generalize (a0 + b0 + 0) % 18446744073709551616 = s0 at *
    generalize (a0 + b0 + 0) / 18446744073709551616 = c0 at *
    have e1 : a1 + b1 + c0 = (a1 + b1 + c0) % 18446744073709551616 + 18446744073709551616 * ((a1 + b1 + c0) / 18446744073709551616) := by first | omega | (split <;> omega)
    have m1 : Wo ((a1 + b1 + c0) % 18446744073709551616) := by unfold Wo; omega
    generalize (a1 + b1 + c0) % 18446744073709551616 = s1 at *
    generalize (a1 + b1 + c0) / 18446744073709551616 = c1 at *
    have e2 : a2 + b2 + c1 = (a2 + b2 + c1) % 18446744073709551616 + 18446744073709551616 * ((a2 + b2 + c1) / 18446744073709551616) := by first | omega | (split <;> omega)
    have m2 : Wo ((a2 + b2 + c1) % 18446744073709551616) := by unfold Wo; omega
    generalize (a2 + b2 + c1) % 18446744073709551616 = s2 at *
    generalize (a2 + b2 + c1) / 18446744073709551616 = c2 at *
    have e3 : a3 + b3 + c2 = (a3 + b3 + c2) % 18446744073709551616 + 18446744073709551616 * ((a3 + b3 + c2) / 18446744073709551616) := by first | omega | (split <;> omega)
    have m3 : Wo ((a3 + b3 + c2) % 18446744073709551616) := by unfold Wo; omega
    generalize (a3 + b3 + c2) % 18446744073709551616 = s3 at *
    generalize (a3 + b3 + c2) / 18446744073709551616 = c3 at *
    obtain ⟨hy, hn⟩ := add_words ha0 ha1 ha2 ha3 hb0 hb1 hb2 hb3 m0 m1 m2 m3 e0 e1 e2 e3
    by_cases hc : c3 = 0
    · obtain ⟨y1, y2⟩ := hy hc
      unfold Wd at y1
      simp only [retv, wadd, if_pos y1.2, y2, decide_eq_true y1.2]
      first | done | (exfalso; simp_all)
    · have n1 := hn hc
      have n2 : ¬ ((a0 + 18446744073709551616 * a1 + 340282366920938463463374607431768211456 * a2 + 6277101735386680763835789423207666416102355444464034512896 * a3) + (b0 + 18446744073709551616 * b1 + 340282366920938463463374607431768211456 * b2 + 6277101735386680763835789423207666416102355444464034512896 * b3) < 115792089237316195423570985008687907853269984665640564039457584007913129639936) := by
        intro h5; apply n1; unfold Wd at *; omega
      simp only [retv, wadd, if_neg n2, wv_zero, decide_eq_false n2]
      first | done | (exfalso; simp_all))
theorem wflat : flat Try.prog 3 24 = some wsh := by kernel_rfl
theorem weq (a b : Int) (h : Wd a ∧ Wd b) (w : World) : (Op.equal 24 (.agg (wv a).toArray) (.agg (wv b).toArray)).run Try.prog w = .ok (decide (a = b)) w :=
  wv_eq wflat (by kernel_rfl) (by kernel_rfl) (by kernel_rfl) h.1 h.2 w
end Go.Proofs.Ytfcaeifpclpnoaa.Wide
