/-
  The functions of wide, as of numbers. No conditions.
-/
import Derived.Test.YtljbedladifgmaaGreatQAu
namespace Go.Proofs.YtljbedladifgmaaGreat.Wide
open Go Go.RowKit Eng
set_option linter.unusedVariables false
set_option maxRecDepth 100000
set_option linter.unusedSimpArgs false
theorem add64 (x y c : Int) (h : Wo x ∧ Wo y ∧ 0 ≤ c ∧ c ≤ 1) (w : World) : (callFunc 82 [.int .u64 x, .int .u64 y, .int .u64 c].toArray).run Tryz.prog w =
    .ok (.value (.tuple [.int .u64 ((x + y + c) % 18446744073709551616), .int .u64 ((x + y + c) / 18446744073709551616)].toArray)) w := by
  rw [run_callFunc_extern Tryz.func82 (by kernel_rfl) (by kernel_rfl) (by kernel_rfl) (e := add64Entry) (by kernel_rfl)]
  rw [show [Value.int .u64 x, .int .u64 y, .int .u64 c].toArray = #[Value.int .u64 x, .int .u64 y, .int .u64 c] from rfl, run_add64 x y c h.1.1 h.2.1.1 h.2.2.1 h.2.2.2]
  rfl
theorem sub64 (x y c : Int) (h : Wo x ∧ Wo y ∧ 0 ≤ c ∧ c ≤ 1) (w : World) : (callFunc 109 [.int .u64 x, .int .u64 y, .int .u64 c].toArray).run Tryz.prog w =
    .ok (.value (.tuple [.int .u64 ((x - y - c) % 18446744073709551616), .int .u64 (if x < y + c then 1 else 0)].toArray)) w := by
  have key : ∃ e, Extern.find Tryz.f109 = some e ∧ ∀ (x y b : Nat) (w : World), b ≤ 1 → (e #[.int .u64 x, .int .u64 y, .int .u64 b]).run Tryz.prog w =
      .ok (.tuple #[.int .u64 (((x + 18446744073709551616 - y - b) % 18446744073709551616 : Nat) : Int), .int .u64 ((if x < y + b then 1 else 0 : Nat) : Int)]) w := by
    refine ⟨_, rfl, fun x y b w hb => ?_⟩
    have : b = 0 ∨ b = 1 := by omega
    rcases this with rfl | rfl <;> rfl
  obtain ⟨e, he, hr⟩ := key
  obtain ⟨hx, hy, hc0, hc1⟩ := h
  unfold Wo at hx hy
  obtain ⟨x, rfl⟩ := Int.eq_ofNat_of_zero_le hx.1
  obtain ⟨y, rfl⟩ := Int.eq_ofNat_of_zero_le hy.1
  obtain ⟨c, rfl⟩ := Int.eq_ofNat_of_zero_le hc0
  rw [run_callFunc_extern Tryz.func109 (by kernel_rfl) (by kernel_rfl) (by kernel_rfl) he]
  rw [show [Value.int .u64 x, .int .u64 y, .int .u64 c].toArray = #[Value.int .u64 x, .int .u64 y, .int .u64 c] from rfl, hr x y c w (by omega)]
  have e1 : (((x + 18446744073709551616 - y - c) % 18446744073709551616 : Nat) : Int) = ((x : Int) - y - c) % 18446744073709551616 := by omega
  have e2 : ((if x < y + c then 1 else 0 : Nat) : Int) = if (x : Int) < y + c then 1 else 0 := by split <;> split <;> omega
  simp only [Result.andThen, e1, e2]
theorem of (x : Int) (h : Wo x) (w : World) : CSpec Tryz.prog 47 [.int .u64 x] [] w (Gives (.agg (wv x).toArray)) := by
  refine spec_of Tryz.func47 rfl Tryz.ntmps47 rfl (l0 := [(0, .int .u64 x)]) rfl ?_
  intro fp
  repeat' first
    | refine J.one ?_
    | refine J.loudS ?_
    | (refine J.loudQ ?_; intro _ _)
    | (refine J.loudB ?_; intro _)
    | (with_reducible apply J.list)
    | ((with_reducible apply J.gsplit); exact rfl; exact rfl)
    | ((with_reducible first | apply J.cond | apply JC.cond); exact rfl)
    | (intro h; exfalso; (first | (simp at h; done) | (simp at h; omega)))
    | (intro h; (try simp only [decide_eq_true_eq, decide_eq_false_iff_not, beq_iff_eq, beq_eq_false_iff_ne, Bool.not_eq_true', Bool.not_eq_false', bne_iff_ne, bne_eq_false_iff_eq, ne_eq, ge_iff_le, gt_iff_lt] at h))
    | (with_reducible apply J.gave')
    | ((with_reducible apply J.kept'); rotate_left; (first | exact outs_au | fail))
  all_goals (simp only [retv]; rw [wv_small h])
theorem add (a b : Int) (h : Wd a ∧ Wd b) (w : World) : CSpec Tryz.prog 48 [.agg (wv a).toArray, .agg (wv b).toArray] [] w (Gives (.tuple [.agg (wv (wadd a b)).toArray, .bool (decide (a + b < 115792089237316195423570985008687907853269984665640564039457584007913129639936))].toArray)) := by
  obtain ⟨a0, a1, a2, a3, ha0, ha1, ha2, ha3, rfl⟩ := wd_words h.1
  obtain ⟨b0, b1, b2, b3, hb0, hb1, hb2, hb3, rfl⟩ := wd_words h.2
  rw [wv_words ha0 ha1 ha2 ha3, wv_words hb0 hb1 hb2 hb3]
  refine spec_of Tryz.func48 rfl Tryz.ntmps48 rfl (l0 := [(0, .agg [.int .u64 a0, .int .u64 a1, .int .u64 a2, .int .u64 a3].toArray), (1, .agg [.int .u64 b0, .int .u64 b1, .int .u64 b2, .int .u64 b3].toArray)]) rfl ?_
  intro fp
  repeat' first
    | (with_reducible refine J.rounds 5 ?_)
    | (with_reducible apply J.round)
    | (refine J.qv ?_; (with_reducible apply exq); focus (first
      | ((with_reducible apply Qv.ext); exact rfl; exact add64 _ _ _ (by first | (unfold Wo at *; omega) | omega))))
    | refine J.one ?_
    | refine J.loudS ?_
    | (refine J.loudQ ?_; intro _ _)
    | (refine J.loudB ?_; intro _)
    | (with_reducible apply J.list)
    | ((with_reducible apply J.draw (id := 6) [0, 0, 2, 6, 0, 16, 48, 0, 254, 510, 1022, 1022, 2047, 6143, 16383] (.p 0 (.p 1 (.p 2 (.q 3 (.p 4 (.p 5 (.q 6 (.p 7 (.p 8 (.p 9 (.p 10 (.p 11 (.p 12 (.x 13 (.p 14 .nil) .none)))))))))))))) (by kernel_rfl) ?_ (by kernel_rfl) ?_); (repeat (with_reducible first | exact PanicFree.body | exact PanicFree.np | exact PanicFree.lvS | apply PanicFree.then_ | apply PanicFree.blk)))
    | ((with_reducible apply J.pl2); exact rfl; (first | exact Gd.none | ((with_reducible apply Gd.on); exact rfl; exact rfl)); (first | exact pend_au | fail))
    | ((with_reducible apply J.pl2_off); exact rfl; ((with_reducible apply Gd.off); exact rfl; exact rfl; exact rfl); exact rfl; (first | exact pend_au | fail))
    | ((with_reducible apply J.pl2_off_none); exact rfl; ((with_reducible apply Gd.off); exact rfl; exact rfl; exact rfl); (first | exact pend_au | fail))
    | ((with_reducible first | apply J.psplit0 | apply J.psplit1 | apply J.psplit2); exact rfl; exact rfl; exact rfl)
    | (with_reducible exact J.pl_none)
    | ((with_reducible apply J.gsplit); exact rfl; exact rfl)
    | ((with_reducible first | apply J.cond | apply JC.cond); exact rfl)
    | (intro h; exfalso; (first | (simp at h; done) | (simp at h; omega)))
    | (intro h; (try simp only [decide_eq_true_eq, decide_eq_false_iff_not, beq_iff_eq, beq_eq_false_iff_ne, Bool.not_eq_true', Bool.not_eq_false', bne_iff_ne, bne_eq_false_iff_eq, ne_eq, ge_iff_le, gt_iff_lt] at h))
    | (with_reducible apply J.gave')
    | ((with_reducible apply J.kept'); rotate_left; (first | exact outs_au | fail))
  all_goals
    (
    have e0 : a0 + b0 = (a0 + b0 + 0) % 18446744073709551616 + 18446744073709551616 * ((a0 + b0 + 0) / 18446744073709551616) := by first | omega | (split <;> omega)
    have m0 : Wo ((a0 + b0 + 0) % 18446744073709551616) := by unfold Wo; omega
    generalize (a0 + b0 + 0) % 18446744073709551616 = s0 at *
    generalize (a0 + b0 + 0) / 18446744073709551616 = c0 at *
    have e1 : a1 + b1 + c0 = (a1 + b1 + c0) % 18446744073709551616 + 18446744073709551616 * ((a1 + b1 + c0) / 18446744073709551616) := by first | omega | (split <;> omega)
    have m1 : Wo ((a1 + b1 + c0) % 18446744073709551616) := by unfold Wo; omega
    generalize (a1 + b1 + c0) % 18446744073709551616 = s1 at *
    generalize (a1 + b1 + c0) / 18446744073709551616 = c1 at *
    have e2 : a2 + b2 + c1 = (a2 + b2 + c1) % 18446744073709551616 + 18446744073709551616 * ((a2 + b2 + c1) / 18446744073709551616) := by first | omega | (split <;> omega)
    have m2 : Wo ((a2 + b2 + c1) % 18446744073709551616) := by unfold Wo; omega
    generalize (a2 + b2 + c1) % 18446744073709551616 = s2 at *
    generalize (a2 + b2 + c1) / 18446744073709551616 = c2 at *
    have e3 : a3 + b3 + c2 = (a3 + b3 + c2) % 18446744073709551616 + 18446744073709551616 * ((a3 + b3 + c2) / 18446744073709551616) := by first | omega | (split <;> omega)
    have m3 : Wo ((a3 + b3 + c2) % 18446744073709551616) := by unfold Wo; omega
    generalize (a3 + b3 + c2) % 18446744073709551616 = s3 at *
    generalize (a3 + b3 + c2) / 18446744073709551616 = c3 at *
    obtain ⟨hy, hn⟩ := add_words ha0 ha1 ha2 ha3 hb0 hb1 hb2 hb3 m0 m1 m2 m3 e0 e1 e2 e3
    by_cases hc : c3 = 0
    · obtain ⟨y1, y2⟩ := hy hc
      unfold Wd at y1
      simp only [retv, wadd, if_pos y1.2, y2, decide_eq_true y1.2]
      first | done | (exfalso; simp_all)
    · have n1 := hn hc
      have n2 : ¬ ((a0 + 18446744073709551616 * a1 + 340282366920938463463374607431768211456 * a2 + 6277101735386680763835789423207666416102355444464034512896 * a3) + (b0 + 18446744073709551616 * b1 + 340282366920938463463374607431768211456 * b2 + 6277101735386680763835789423207666416102355444464034512896 * b3) < 115792089237316195423570985008687907853269984665640564039457584007913129639936) := by
        intro h5; apply n1; unfold Wd at *; omega
      simp only [retv, wadd, if_neg n2, wv_zero, decide_eq_false n2]
      first | done | (exfalso; simp_all))
theorem sub (a b : Int) (h : Wd a ∧ Wd b) (w : World) : CSpec Tryz.prog 81 [.agg (wv a).toArray, .agg (wv b).toArray] [] w (Gives (.tuple [.agg (wv (wsub a b)).toArray, .bool (decide (b ≤ a))].toArray)) := by
  obtain ⟨a0, a1, a2, a3, ha0, ha1, ha2, ha3, rfl⟩ := wd_words h.1
  obtain ⟨b0, b1, b2, b3, hb0, hb1, hb2, hb3, rfl⟩ := wd_words h.2
  rw [wv_words ha0 ha1 ha2 ha3, wv_words hb0 hb1 hb2 hb3]
  refine spec_of Tryz.func81 rfl Tryz.ntmps81 rfl (l0 := [(0, .agg [.int .u64 a0, .int .u64 a1, .int .u64 a2, .int .u64 a3].toArray), (1, .agg [.int .u64 b0, .int .u64 b1, .int .u64 b2, .int .u64 b3].toArray)]) rfl ?_
  intro fp
  repeat' first
    | (with_reducible refine J.rounds 5 ?_)
    | (with_reducible apply J.round)
    | (refine J.qv ?_; (with_reducible apply exq); focus (first
      | ((with_reducible apply Qv.ext); exact rfl; exact sub64 _ _ _ (by first | (unfold Wo at *; refine ⟨?_, ?_, ?_⟩; omega; omega; (repeat' split); all_goals omega) | omega))))
    | refine J.one ?_
    | refine J.loudS ?_
    | (refine J.loudQ ?_; intro _ _)
    | (refine J.loudB ?_; intro _)
    | (with_reducible apply J.list)
    | ((with_reducible apply J.draw (id := 6) [0, 0, 2, 6, 0, 16, 48, 0, 254, 510, 1022, 1022, 2047, 6143, 16383] (.p 0 (.p 1 (.p 2 (.q 3 (.p 4 (.p 5 (.q 6 (.p 7 (.p 8 (.p 9 (.p 10 (.p 11 (.p 12 (.x 13 (.p 14 .nil) .none)))))))))))))) (by kernel_rfl) ?_ (by kernel_rfl) ?_); (repeat (with_reducible first | exact PanicFree.body | exact PanicFree.np | exact PanicFree.lvS | apply PanicFree.then_ | apply PanicFree.blk)))
    | ((with_reducible apply J.pl2); exact rfl; (first | exact Gd.none | ((with_reducible apply Gd.on); exact rfl; exact rfl)); (first | exact pend_au | fail))
    | ((with_reducible apply J.pl2_off); exact rfl; ((with_reducible apply Gd.off); exact rfl; exact rfl; exact rfl); exact rfl; (first | exact pend_au | fail))
    | ((with_reducible apply J.pl2_off_none); exact rfl; ((with_reducible apply Gd.off); exact rfl; exact rfl; exact rfl); (first | exact pend_au | fail))
    | ((with_reducible first | apply J.psplit0 | apply J.psplit1 | apply J.psplit2); exact rfl; exact rfl; exact rfl)
    | (with_reducible exact J.pl_none)
    | ((with_reducible apply J.gsplit); exact rfl; exact rfl)
    | ((with_reducible first | apply J.cond | apply JC.cond); exact rfl)
    | (intro h; exfalso; (simp at h; done))
    | (intro h; (try simp only [decide_eq_true_eq, decide_eq_false_iff_not, beq_iff_eq, beq_eq_false_iff_ne, Bool.not_eq_true', Bool.not_eq_false', bne_iff_ne, bne_eq_false_iff_eq, ne_eq, ge_iff_le, gt_iff_lt] at h))
    | (with_reducible apply J.gave')
    | ((with_reducible apply J.kept'); rotate_left; (first | exact outs_au | fail))
  all_goals
    (
    have z0 : 0 ≤ (if a0 < b0 + 0 then 1 else 0 : Int) ∧ (if a0 < b0 + 0 then 1 else 0 : Int) ≤ 1 := by split <;> omega
    have e0 : a0 - b0 = (a0 - b0 - 0) % 18446744073709551616 - 18446744073709551616 * (if a0 < b0 + 0 then 1 else 0) := by unfold Wo at *; split <;> omega
    have m0 : Wo ((a0 - b0 - 0) % 18446744073709551616) := by unfold Wo; omega
    generalize (a0 - b0 - 0) % 18446744073709551616 = s0 at *
    generalize (if a0 < b0 + 0 then (1 : Int) else 0) = c0 at *
    have z1 : 0 ≤ (if a1 < b1 + c0 then 1 else 0 : Int) ∧ (if a1 < b1 + c0 then 1 else 0 : Int) ≤ 1 := by split <;> omega
    have e1 : a1 - b1 - c0 = (a1 - b1 - c0) % 18446744073709551616 - 18446744073709551616 * (if a1 < b1 + c0 then 1 else 0) := by unfold Wo at *; split <;> omega
    have m1 : Wo ((a1 - b1 - c0) % 18446744073709551616) := by unfold Wo; omega
    generalize (a1 - b1 - c0) % 18446744073709551616 = s1 at *
    generalize (if a1 < b1 + c0 then (1 : Int) else 0) = c1 at *
    have z2 : 0 ≤ (if a2 < b2 + c1 then 1 else 0 : Int) ∧ (if a2 < b2 + c1 then 1 else 0 : Int) ≤ 1 := by split <;> omega
    have e2 : a2 - b2 - c1 = (a2 - b2 - c1) % 18446744073709551616 - 18446744073709551616 * (if a2 < b2 + c1 then 1 else 0) := by unfold Wo at *; split <;> omega
    have m2 : Wo ((a2 - b2 - c1) % 18446744073709551616) := by unfold Wo; omega
    generalize (a2 - b2 - c1) % 18446744073709551616 = s2 at *
    generalize (if a2 < b2 + c1 then (1 : Int) else 0) = c2 at *
    have z3 : 0 ≤ (if a3 < b3 + c2 then 1 else 0 : Int) ∧ (if a3 < b3 + c2 then 1 else 0 : Int) ≤ 1 := by split <;> omega
    have e3 : a3 - b3 - c2 = (a3 - b3 - c2) % 18446744073709551616 - 18446744073709551616 * (if a3 < b3 + c2 then 1 else 0) := by unfold Wo at *; split <;> omega
    have m3 : Wo ((a3 - b3 - c2) % 18446744073709551616) := by unfold Wo; omega
    generalize (a3 - b3 - c2) % 18446744073709551616 = s3 at *
    generalize (if a3 < b3 + c2 then (1 : Int) else 0) = c3 at *
    obtain ⟨hy, hn⟩ := sub_words ha0 ha1 ha2 ha3 hb0 hb1 hb2 hb3 m0 m1 m2 m3 e0 e1 e2 e3
    by_cases hc : c3 = 0
    · obtain ⟨y1, y2⟩ := hy hc
      simp only [retv, wsub, if_pos y1, y2, decide_eq_true y1]
      first | done | (exfalso; simp_all)
    · have n1 := hn hc
      simp only [retv, wsub, if_neg n1, wv_zero, decide_eq_false n1]
      first | done | (exfalso; simp_all))
theorem wflat : flat Tryz.prog 3 27 = some wsh := by kernel_rfl
theorem weq (a b : Int) (h : Wd a ∧ Wd b) (w : World) : (Op.equal 27 (.agg (wv a).toArray) (.agg (wv b).toArray)).run Tryz.prog w = .ok (decide (a = b)) w :=
  wv_eq wflat (by kernel_rfl) (by kernel_rfl) (by kernel_rfl) h.1 h.2 w
end Go.Proofs.YtljbedladifgmaaGreat.Wide
