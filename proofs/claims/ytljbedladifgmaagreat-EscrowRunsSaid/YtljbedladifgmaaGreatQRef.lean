/-
  The plain digits of narrowsref01, as of numbers. No conditions.
-/
import Derived.Test.YtljbedladifgmaaGreatQDig
import Derived.Test.YtljbedladifgmaaGreatQWide
namespace Go.Proofs.YtljbedladifgmaaGreat.Ref
open Go Go.RowKit Eng
set_option linter.unusedVariables false
set_option maxRecDepth 100000
set_option linter.unusedSimpArgs false
open Wide
set_option maxHeartbeats 4000000
theorem digits (a : Int) (h : Wd a) (w : World) : CSpec Tryz.prog 87 [.agg (wv a).toArray] [] w (FreshAt 3 1 16 (dgv a 16) []) := by
  obtain ⟨a0, a1, a2, a3, ha0, ha1, ha2, ha3, rfl⟩ := wd_words h
  rw [wv_words ha0 ha1 ha2 ha3]
  unfold Wo at *
  refine spec_of Tryz.func87 rfl Tryz.ntmps87 rfl (l0 := [(0, .agg [.int .u64 a0, .int .u64 a1, .int .u64 a2, .int .u64 a3].toArray)]) rfl ?_
  intro fp
  repeat' first
    | (with_reducible refine J.rounds 5 ?_)
    | (with_reducible apply J.round)
    | refine J.one ?_
    | refine J.loudS ?_
    | (refine J.loudQ ?_; intro _ _)
    | (refine J.loudB ?_; intro _)
    | (with_reducible apply J.list)
    | ((with_reducible apply J.gsplit); exact rfl; exact rfl)
    | ((with_reducible first | apply J.cond | apply JC.cond); exact rfl)
    | (intro h; exfalso; (first | (simp at h; done) | (simp at h; omega)))
    | (intro h; (try simp only [decide_eq_true_eq, decide_eq_false_iff_not, beq_iff_eq, beq_eq_false_iff_ne, Bool.not_eq_true', Bool.not_eq_false', bne_iff_ne, bne_eq_false_iff_eq, ne_eq, ge_iff_le, gt_iff_lt] at h))
    | (with_reducible apply J.gave')
    | ((with_reducible apply J.kept'); rotate_left; (first | exact outs_au | fail))
  all_goals
    apply J.reC (n' := 16) (C' := dgv (a0 + 18446744073709551616 * a1 + 340282366920938463463374607431768211456 * a2 + 6277101735386680763835789423207666416102355444464034512896 * a3) 16)
    · (repeat (first | with_reducible exact Upd.here | with_reducible apply Upd.there))
    · rfl
    rotate_left
    · apply J.freshAt' (C' := dgv (a0 + 18446744073709551616 * a1 + 340282366920938463463374607431768211456 * a2 + 6277101735386680763835789423207666416102355444464034512896 * a3) 16)
      · (first | exact outs_au | fail)
      · decide
      · rfl
    simp only [dgv, List.nil_append, List.cons_append, List.append_assoc, List.cons.injEq, Value.int.injEq, true_and, and_true, sh_eq, Nat.reducePow, Int.cast_ofNat_Int, Int.ediv_one]
    repeat' apply And.intro
    all_goals omega
theorem made (n : Int) (k g cap : Nat) (h : 0 ≤ n ∧ 16 ≤ k ∧ k ≤ 1000 ∧ sh n k = 0) (w : World) : CSpec Tryz.prog 88 [.slice (some ⟨g, 0, none⟩) k cap] [Eng.rowAt g cap 3 1 k (dgv n k)] w (Keeps (.tuple [.agg (wv (if n < 115792089237316195423570985008687907853269984665640564039457584007913129639936 then n else 0)).toArray, .bool (decide (n < 115792089237316195423570985008687907853269984665640564039457584007913129639936))].toArray) [Eng.rowAt g cap 3 1 k (dgv n k)]) := by
  obtain ⟨h0, hk, hk9, hz⟩ := h
  refine spec_of Tryz.func88 rfl Tryz.ntmps88 rfl (l0 := [(0, .slice (some ⟨g, 0, none⟩) k cap)]) rfl ?_
  intro fp
  repeat' first
    | (refine J.qv ?_; (with_reducible apply exq); focus (first
      | ((with_reducible apply Qv.quoN (b := 4)); exact rfl; exact rfl; exact rfl; decide; (first | exact wr64 (by omega) (by omega) rfl | exact wru64 (by omega) (by omega) rfl))
      | ((with_reducible apply Qv.remN (b := 4)); exact rfl; exact rfl; exact rfl; decide)
      | ((with_reducible apply Qv.buildW); exact rfl; exact rfl; (first | with_reducible assumption | (unfold Wo; omega) | (simp only [Wd, Wo] at *; omega)))
      | ((with_reducible apply Qv.buildW0); exact rfl; exact rfl)))
    | (refine J.qr ?_; (with_reducible apply exq); focus (first
      | ((with_reducible apply Qr.row1); exact rfl; (first | exact in_au | fail); exact dgv_get _ (by omega))
      | ((with_reducible apply Qr.load1); exact rfl; (first | exact in_au | fail); exact wv_get (by omega))))
    | ((with_reducible apply J.allocW); exact rfl; exact rfl; intro _)
    | refine J.one ?_
    | refine J.loudS ?_
    | (refine J.loudQ ?_; intro _ _)
    | (refine J.loudB ?_; intro _)
    | (with_reducible apply J.list)
    | ((with_reducible apply J.gsplit); exact rfl; exact rfl)
    | ((with_reducible first | apply J.cond | apply JC.cond); exact rfl)
    | (intro h; exfalso; (first | (simp at h; done) | omega))
    | (intro h; (try simp only [decide_eq_true_eq, decide_eq_false_iff_not, beq_iff_eq, beq_eq_false_iff_ne, Bool.not_eq_true', Bool.not_eq_false', bne_iff_ne, bne_eq_false_iff_eq, ne_eq, ge_iff_le, gt_iff_lt] at h))
    | (with_reducible apply J.gave')
    | ((with_reducible apply J.kept'); rotate_left; (first | exact outs_au | fail))
  rename_i bo ba
  apply J.loopI (σ := Nat × Int) (I := fun s => (s.1 ≤ k ∧ (16 ≤ s.1 → (sh n s.1 = 0 ↔ sh n 16 = 0) ∧ s.2 = lo n 16) ∧ (s.1 < 16 → s.2 = lo n s.1))) (L := fun s => [(0, .slice (some ⟨g, 0, none⟩) k cap), (2, .pointer (some ⟨bo, 0, none⟩)), (3, .bool false), (4, .pointer (some ⟨ba, 0, none⟩)), (5, .int .i64 (s.1 : Int))]) (HH := fun s => [Eng.rowAt g cap 3 1 k (dgv n k), blk bo (wv 0) 27, blk ba (wv s.2) 27]) (m := fun s => k - s.1) (s0 := (0, 0))
  · ((try dsimp only); (refine ⟨by omega, by omega, fun _ => by simp [lo]⟩))
  · ((try dsimp only); repeat (first | exact sub.nil _ | (refine sub.consE rfl ?_ ?_; (first | with_reducible rfl | (fail) | rfl))))
  · ((try dsimp only); (first | exact outs_au | fail))
  rintro ⟨i, x⟩ hI
  try dsimp only at hI ⊢
  repeat' first
    | (refine J.qv ?_; (with_reducible apply exq); focus (first
      | ((with_reducible apply Qv.quoN (b := 4)); exact rfl; exact rfl; exact rfl; decide; (first | exact wr64 (by omega) (by omega) rfl | exact wru64 (by omega) (by omega) rfl))
      | ((with_reducible apply Qv.remN (b := 4)); exact rfl; exact rfl; exact rfl; decide)
      | ((with_reducible apply Qv.buildW); exact rfl; exact rfl; (first | with_reducible assumption | (unfold Wo; omega) | (simp only [Wd, Wo] at *; omega)))
      | ((with_reducible apply Qv.buildW0); exact rfl; exact rfl)))
    | (refine J.qr ?_; (with_reducible apply exq); focus (first
      | ((with_reducible apply Qr.row1); exact rfl; (first | exact in_au | fail); exact dgv_get _ (by omega))
      | ((with_reducible apply Qr.load1); exact rfl; (first | exact in_au | fail); exact wv_get (by omega))))
    | ((with_reducible apply J.allocW); exact rfl; exact rfl; intro _)
    | refine J.one ?_
    | refine J.loudS ?_
    | (refine J.loudQ ?_; intro _ _)
    | (refine J.loudB ?_; intro _)
    | (with_reducible apply J.list)
    | ((with_reducible apply J.gsplit); exact rfl; exact rfl)
    | ((with_reducible first | apply J.cond | apply JC.cond); exact rfl)
    | (intro h; exfalso; (first | (simp at h; done) | omega))
    | (intro h; (try simp only [decide_eq_true_eq, decide_eq_false_iff_not, beq_iff_eq, beq_eq_false_iff_ne, Bool.not_eq_true', Bool.not_eq_false', bne_iff_ne, bne_eq_false_iff_eq, ne_eq, ge_iff_le, gt_iff_lt] at h))
    | (with_reducible apply J.gave')
    | ((with_reducible apply J.kept'); rotate_left; (first | exact outs_au | fail))
  any_goals
    apply J.loopI (σ := Nat) (I := fun s => s ≤ i % 4) (L := fun s => [(0, .slice (some ⟨g, 0, none⟩) k cap), (2, .pointer (some ⟨bo, 0, none⟩)), (3, .bool false), (4, .pointer (some ⟨ba, 0, none⟩)), (5, .int .i64 (i : Int)), (6, .int .u64 (sh n i % 65536 * (65536 ^ s : Nat))), (7, .int .i64 (s : Int))]) (HH := fun s => [Eng.rowAt g cap 3 1 k (dgv n k), blk bo (wv 0) 27, blk ba (wv x) 27]) (m := fun s => i % 4 - s) (s0 := 0)
    · ((try dsimp only); simp)
    · ((try dsimp only); repeat (first | exact sub.nil _ | (refine sub.consE rfl ?_ ?_; (first | with_reducible rfl | ((congr 1; simp)) | rfl))))
    · ((try dsimp only); (first | exact outs_au | fail))
    rintro q hJ
    try dsimp only at hJ ⊢
    repeat' first
      | (refine J.qv ?_; (with_reducible apply exq); focus (first
        | ((with_reducible apply Qv.mul); exact rfl; exact rfl; exact dig_mul (by omega) (by omega) (by omega))
        | ((with_reducible apply Qv.quoN (b := 4)); exact rfl; exact rfl; exact rfl; decide; (first | exact wr64 (by omega) (by omega) rfl | exact wru64 (by omega) (by omega) rfl))
        | ((with_reducible apply Qv.remN (b := 4)); exact rfl; exact rfl; exact rfl; decide)
        | ((with_reducible apply Qv.buildW); exact rfl; exact rfl; (first | with_reducible assumption | (unfold Wo; omega) | (simp only [Wd, Wo] at *; omega)))
        | ((with_reducible apply Qv.buildW0); exact rfl; exact rfl)))
      | (refine J.qr ?_; (with_reducible apply exq); focus (first
        | ((with_reducible apply Qr.row1); exact rfl; (first | exact in_au | fail); exact dgv_get _ (by omega))
        | ((with_reducible apply Qr.load1); exact rfl; (first | exact in_au | fail); exact wv_get (by omega))))
      | ((with_reducible apply J.allocW); exact rfl; exact rfl; intro _)
      | refine J.one ?_
      | refine J.loudS ?_
      | (refine J.loudQ ?_; intro _ _)
      | (refine J.loudB ?_; intro _)
      | (with_reducible apply J.list)
      | ((with_reducible apply J.gsplit); exact rfl; exact rfl)
      | ((with_reducible first | apply J.cond | apply JC.cond); exact rfl)
      | (intro h; exfalso; (first | (simp at h; done) | omega))
      | (intro h; (try simp only [decide_eq_true_eq, decide_eq_false_iff_not, beq_iff_eq, beq_eq_false_iff_ne, Bool.not_eq_true', Bool.not_eq_false', bne_iff_ne, bne_eq_false_iff_eq, ne_eq, ge_iff_le, gt_iff_lt] at h))
      | (with_reducible apply J.gave')
      | ((with_reducible apply J.kept'); rotate_left; (first | exact outs_au | fail))
  all_goals
    first
    | (exfalso; omega)
    | (have e1 : ¬ sh n i = 0 := by omega
       have e2 : ¬ n < 115792089237316195423570985008687907853269984665640564039457584007913129639936 := by rw [← sh16_iff h0]; exact fun z => e1 ((hI.2.1 (by omega)).1.2 z)
       simp only [retv, if_neg e2, decide_eq_false e2]; done)
    | (have e0 : i = k := by omega
       subst e0
       have e1 : sh n 16 = 0 := (hI.2.1 hk).1.1 hz
       have e2 : n < 115792089237316195423570985008687907853269984665640564039457584007913129639936 := (sh16_iff h0).1 e1
       have e3 : x = n := by rw [(hI.2.1 hk).2, lo_all h0 e1]
       simp only [retv, if_pos e2, decide_eq_true e2, e3]; done)
    | (apply J.againI (s := (i, x)) (s' := (i + 1, x)); (focus (((try simp only) <;> omega))); (focus ((try dsimp only); (refine ⟨by omega, fun _ => ⟨?_, (hI.2.1 (by omega)).2⟩, fun _ => by omega⟩; rw [show sh n (i + 1) = sh n i / 65536 from rfl]; have e7 := (hI.2.1 (by omega)).1; omega))); (focus (((try dsimp only); repeat (first | exact sub.nil _ | (refine sub.consE rfl ?_ ?_; (first | with_reducible rfl | ((congr 1; simp)) | rfl)))))); ((try dsimp only); (first | exact outs_au | fail)))
    | (apply J.againI (s := q) (s' := (q + 1)); (focus (((try simp only) <;> omega))); (focus ((try dsimp only); ((try simp only) <;> omega))); (focus (((try dsimp only); repeat (first | exact sub.nil _ | (refine sub.consE rfl ?_ ?_; (first | with_reducible rfl | ((congr 1; simp)) | rfl)))))); ((try dsimp only); (first | exact outs_au | fail)))
    | (have hq : q = i % 4 := by omega
       subst hq
       obtain ⟨m1, m2, m3, m4⟩ := made_step (n := n) (i := i) (by omega) h0
       have hx : x = lo n i := hI.2.2 (by omega)
       subst hx
       apply J.reB (b := ba) (C' := wv (lo n (i + 1)))
       · (repeat (first | with_reducible exact Upd.here | with_reducible apply Upd.there))
       · rw [wru64 m2 m3 rfl]; exact m4
       · (apply J.againI (s := (i, lo n i)) (s' := (i + 1, lo n (i + 1))); (focus (((try simp only) <;> omega))); (focus ((try dsimp only); (refine ⟨by omega, fun h' => ?_, fun _ => rfl⟩; have e5 : i = 15 := (by omega); subst e5; exact ⟨Iff.rfl, rfl⟩))); (focus (((try dsimp only); repeat (first | exact sub.nil _ | (refine sub.consE rfl ?_ ?_; (first | with_reducible rfl | ((congr 1; simp)) | rfl)))))); ((try dsimp only); (first | exact outs_au | fail))))
theorem made_c (n : Int) (k : Nat) (v : Value) (C : List Value) (h : C = dgv n k ∧ 0 ≤ n ∧ 16 ≤ k ∧ k ≤ 1000 ∧ sh n k = 0) (w : World) :
    CSpec Tryz.prog 88 [v] [row v 3 1 k C] w (Keeps (.tuple [.agg (wv (if n < 115792089237316195423570985008687907853269984665640564039457584007913129639936 then n else 0)).toArray, .bool (decide (n < 115792089237316195423570985008687907853269984665640564039457584007913129639936))].toArray) [row v 3 1 k C]) := by
  obtain ⟨rfl, h⟩ := h
  exact CSpec.rowed (by omega) fun g cap => made n k g cap h w
theorem cmp (a b : Int) (h : Wd a ∧ Wd b) (w : World) : CSpec Tryz.prog 117 [.agg (wv a).toArray, .agg (wv b).toArray] [] w (Gives (.int .i64 (wcmp a b))) := by
  have ha := h.1; have hb := h.2
  refine spec_of Tryz.func117 rfl Tryz.ntmps117 rfl (l0 := [(0, .agg (wv a).toArray), (1, .agg (wv b).toArray)]) rfl ?_
  intro fp
  repeat' first
    | (refine J.qv ?_; (with_reducible apply exq); focus (first
      | ((with_reducible apply Qv.buildW); exact rfl; exact rfl; (first | with_reducible assumption | (unfold Wo; omega) | (simp only [Wd, Wo] at *; omega)))
      | ((with_reducible apply Qv.buildW0); exact rfl; exact rfl)))
    | (refine J.qr ?_; (with_reducible apply exq); focus (first
      | ((with_reducible apply Qr.row1); exact rfl; (first | exact in_au | fail); exact dgv_get _ (by omega))))
    | (refine J.qo ?_; refine ⟨?_, ?_⟩; focus (first
      | ((with_reducible apply Qr.row1); exact rfl; (first | exact in_au | fail); exact dgv_get _ (by omega))))
    | ((with_reducible apply J.allocW); exact rfl; exact rfl; intro _)
    | ((with_reducible apply J.freshAtP (digits _)); exact rfl; exact rfl; (first | exact outs_au | fail); (repeat' (first | with_reducible assumption | with_reducible apply wadd_wd | with_reducible apply wsub_wd | with_reducible apply wcap_wd | (unfold Wd; omega) | (unfold Wo; omega) | (simp only [Wd, Wo] at *; omega) | decide)); intro _ _)
    | refine J.one ?_
    | refine J.loudS ?_
    | (refine J.loudQ ?_; intro _ _)
    | (refine J.loudB ?_; intro _)
    | (with_reducible apply J.list)
    | ((with_reducible apply J.draw (id := 1) [0, 1, 0, 7, 15, 31] (.q 0 (.q 2 (.x 1 (.x 3 (.p 4 (.p 5 .nil)) .none) .none))) (by kernel_rfl) ?_ (by kernel_rfl) ?_); (repeat (with_reducible first | exact PanicFree.body | exact PanicFree.np | exact PanicFree.lvS | apply PanicFree.then_ | apply PanicFree.blk)))
    | ((with_reducible apply J.draw (id := 5) [0, 0, 3, 7, 0, 0, 48, 112, 255] (.p 0 (.p 1 (.p 2 (.q 3 (.p 4 (.p 5 (.p 6 (.q 7 (.p 8 .nil))))))))) (by kernel_rfl) ?_ (by kernel_rfl) ?_); (repeat (with_reducible first | exact PanicFree.body | exact PanicFree.np | exact PanicFree.lvS | apply PanicFree.then_ | apply PanicFree.blk)))
    | ((with_reducible apply J.draw (id := 7) [0, 0, 3, 7, 0, 0, 48, 112, 255] (.p 0 (.p 1 (.p 2 (.q 3 (.p 4 (.p 5 (.p 6 (.q 7 (.p 8 .nil))))))))) (by kernel_rfl) ?_ (by kernel_rfl) ?_); (repeat (with_reducible first | exact PanicFree.body | exact PanicFree.np | exact PanicFree.lvS | apply PanicFree.then_ | apply PanicFree.blk)))
    | ((with_reducible apply J.pl2); exact rfl; (first | exact Gd.none | ((with_reducible apply Gd.on); exact rfl; exact rfl)); (first | exact pend_au | fail))
    | ((with_reducible apply J.pl2_off); exact rfl; ((with_reducible apply Gd.off); exact rfl; exact rfl; exact rfl); exact rfl; (first | exact pend_au | fail))
    | ((with_reducible apply J.pl2_off_none); exact rfl; ((with_reducible apply Gd.off); exact rfl; exact rfl; exact rfl); (first | exact pend_au | fail))
    | ((with_reducible first | apply J.psplit0 | apply J.psplit1 | apply J.psplit2); exact rfl; exact rfl; exact rfl)
    | (with_reducible exact J.pl_none)
    | ((with_reducible apply J.gsplit); exact rfl; exact rfl)
    | ((with_reducible first | apply J.cond | apply JC.cond); exact rfl)
    | (intro h; exfalso; (first | (simp at h; done) | omega))
    | (intro h; (try simp only [decide_eq_true_eq, decide_eq_false_iff_not, beq_iff_eq, beq_eq_false_iff_ne, Bool.not_eq_true', Bool.not_eq_false', bne_iff_ne, bne_eq_false_iff_eq, ne_eq, ge_iff_le, gt_iff_lt] at h))
    | (with_reducible apply J.gave')
    | ((with_reducible apply J.kept'); rotate_left; (first | exact outs_au | fail))
  rename_i b2 b3 gx cx gy cy
  apply J.loopI (σ := Int) (I := fun s => (-1 ≤ s ∧ s ≤ 15 ∧ sh a (s + 1).toNat = sh b (s + 1).toNat)) (L := fun s => [(4, .int .i64 0), (5, .slice (some ⟨gx, 0, none⟩) 16 cx), (6, .slice (some ⟨gy, 0, none⟩) 16 cy), (7, .int .i64 s)]) (HH := fun s => [Eng.rowAt gx cx 3 1 16 (dgv a 16), Eng.rowAt gy cy 3 1 16 (dgv b 16)]) (m := fun s => (s + 1).toNat) (s0 := 15)
  · ((try dsimp only); (refine ⟨by omega, by omega, ?_⟩; show sh a 16 = sh b 16; rw [sh16 h.1, sh16 h.2]))
  · ((try dsimp only); repeat (first | exact sub.nil _ | (refine sub.consE rfl ?_ ?_; (first | with_reducible rfl | (fail) | rfl))))
  · ((try dsimp only); (first | exact outs_au | fail))
  rintro i hI
  try dsimp only at hI ⊢
  repeat' first
    | (refine J.qv ?_; (with_reducible apply exq); focus (first
      | ((with_reducible apply Qv.buildW); exact rfl; exact rfl; (first | with_reducible assumption | (unfold Wo; omega) | (simp only [Wd, Wo] at *; omega)))
      | ((with_reducible apply Qv.buildW0); exact rfl; exact rfl)))
    | (refine J.qr ?_; (with_reducible apply exq); focus (first
      | ((with_reducible apply Qr.row1); exact rfl; (first | exact in_au | fail); exact dgv_get _ (by omega))))
    | (refine J.qo ?_; refine ⟨?_, ?_⟩; focus (first
      | ((with_reducible apply Qr.row1); exact rfl; (first | exact in_au | fail); exact dgv_get _ (by omega))))
    | ((with_reducible apply J.allocW); exact rfl; exact rfl; intro _)
    | ((with_reducible apply J.freshAtP (digits _)); exact rfl; exact rfl; (first | exact outs_au | fail); (repeat' (first | with_reducible assumption | with_reducible apply wadd_wd | with_reducible apply wsub_wd | with_reducible apply wcap_wd | (unfold Wd; omega) | (unfold Wo; omega) | (simp only [Wd, Wo] at *; omega) | decide)); intro _ _)
    | refine J.one ?_
    | refine J.loudS ?_
    | (refine J.loudQ ?_; intro _ _)
    | (refine J.loudB ?_; intro _)
    | (with_reducible apply J.list)
    | ((with_reducible apply J.draw (id := 1) [0, 1, 0, 7, 15, 31] (.q 0 (.q 2 (.x 1 (.x 3 (.p 4 (.p 5 .nil)) .none) .none))) (by kernel_rfl) ?_ (by kernel_rfl) ?_); (repeat (with_reducible first | exact PanicFree.body | exact PanicFree.np | exact PanicFree.lvS | apply PanicFree.then_ | apply PanicFree.blk)))
    | ((with_reducible apply J.draw (id := 5) [0, 0, 3, 7, 0, 0, 48, 112, 255] (.p 0 (.p 1 (.p 2 (.q 3 (.p 4 (.p 5 (.p 6 (.q 7 (.p 8 .nil))))))))) (by kernel_rfl) ?_ (by kernel_rfl) ?_); (repeat (with_reducible first | exact PanicFree.body | exact PanicFree.np | exact PanicFree.lvS | apply PanicFree.then_ | apply PanicFree.blk)))
    | ((with_reducible apply J.draw (id := 7) [0, 0, 3, 7, 0, 0, 48, 112, 255] (.p 0 (.p 1 (.p 2 (.q 3 (.p 4 (.p 5 (.p 6 (.q 7 (.p 8 .nil))))))))) (by kernel_rfl) ?_ (by kernel_rfl) ?_); (repeat (with_reducible first | exact PanicFree.body | exact PanicFree.np | exact PanicFree.lvS | apply PanicFree.then_ | apply PanicFree.blk)))
    | ((with_reducible apply J.pl2); exact rfl; (first | exact Gd.none | ((with_reducible apply Gd.on); exact rfl; exact rfl)); (first | exact pend_au | fail))
    | ((with_reducible apply J.pl2_off); exact rfl; ((with_reducible apply Gd.off); exact rfl; exact rfl; exact rfl); exact rfl; (first | exact pend_au | fail))
    | ((with_reducible apply J.pl2_off_none); exact rfl; ((with_reducible apply Gd.off); exact rfl; exact rfl; exact rfl); (first | exact pend_au | fail))
    | ((with_reducible first | apply J.psplit0 | apply J.psplit1 | apply J.psplit2); exact rfl; exact rfl; exact rfl)
    | (with_reducible exact J.pl_none)
    | ((with_reducible apply J.gsplit); exact rfl; exact rfl)
    | ((with_reducible first | apply J.cond | apply JC.cond); exact rfl)
    | (intro h; exfalso; (first | (simp at h; done) | omega))
    | (intro h; (try simp only [decide_eq_true_eq, decide_eq_false_iff_not, beq_iff_eq, beq_eq_false_iff_ne, Bool.not_eq_true', Bool.not_eq_false', bne_iff_ne, bne_eq_false_iff_eq, ne_eq, ge_iff_le, gt_iff_lt] at h))
    | (with_reducible apply J.gave')
    | ((with_reducible apply J.kept'); rotate_left; (first | exact outs_au | fail))
  all_goals
    first
    | (exfalso; omega)
    | (have e1 : (i + 1).toNat = i.toNat + 1 := by omega
       obtain ⟨h1, h2, h3⟩ := hI
       rw [e1] at h3
       simp only [sh] at h3
       have e2 : sh a i.toNat < sh b i.toNat := by omega
       have e3 := sh_lt e2
       simp only [retv, wcmp, if_pos e3]; done)
    | (have e1 : (i + 1).toNat = i.toNat + 1 := by omega
       obtain ⟨h1, h2, h3⟩ := hI
       rw [e1] at h3
       simp only [sh] at h3
       have e2 : sh b i.toNat < sh a i.toNat := by omega
       have e3 := sh_lt e2
       simp only [retv, wcmp, if_neg (show ¬ a < b by omega), if_pos e3]; done)
    | (obtain ⟨h1, h2, h3⟩ := hI
       have e0 : i = -1 := by omega
       subst e0
       have e3 : a = b := h3
       simp only [retv, wcmp, if_neg (show ¬ a < b by omega), if_neg (show ¬ b < a by omega)]; done)
    | (have e1 : (i + 1).toNat = i.toNat + 1 := by omega
       obtain ⟨h1, h2, h3⟩ := hI
       rw [e1] at h3
       simp only [sh] at h3
       (apply J.againI (s := i) (s' := (i - 1)); (focus (omega)); (focus ((try dsimp only); (refine ⟨by omega, by omega, ?_⟩; rw [show (i - 1 + 1).toNat = i.toNat by omega]; omega))); (focus (((try dsimp only); repeat (first | exact sub.nil _ | (refine sub.consE rfl ?_ ?_; (first | with_reducible rfl | ((congr 1; omega)) | rfl)))))); ((try dsimp only); (first | exact outs_au | fail))))
theorem add_hp {a b cc : Int} {i : Nat} (ha : Wd a) (hb : Wd b) (hI : i ≤ 16 ∧ 0 ≤ cc ∧ cc ≤ 1 ∧ cc = sh (a + b) i - sh a i - sh b i) (h : ¬ (i : Int) < 16) :
    dgv (a + b) i ++ [.int .i64 cc] = dgv (a + b) (i + 1) ∧ 0 ≤ a + b ∧ 16 ≤ i + 1 ∧ i + 1 ≤ 1000 ∧ sh (a + b) (i + 1) = 0 := by
  have e0 : i = 16 := by omega
  subst e0
  have ea := sh16 ha
  have eb := sh16 hb
  refine ⟨?_, by unfold Wd at *; omega, by omega, by omega, ?_⟩
  · show dgv (a + b) 16 ++ [.int .i64 cc] = dgv (a + b) 16 ++ [.int .i64 (sh (a + b) 16 % 65536)]
    congr 3; omega
  · show sh (a + b) 16 / 65536 = 0
    omega
theorem add_r (a b : Int) (h : Wd a ∧ Wd b) (w : World) : CSpec Tryz.prog 52 [.agg (wv a).toArray, .agg (wv b).toArray] [] w (Gives (.tuple [.agg (wv (wadd a b)).toArray, .bool (decide (a + b < 115792089237316195423570985008687907853269984665640564039457584007913129639936))].toArray)) := by
  have ha := h.1; have hb := h.2
  refine spec_of Tryz.func52 rfl Tryz.ntmps52 rfl (l0 := [(0, .agg (wv a).toArray), (1, .agg (wv b).toArray)]) rfl ?_
  intro fp
  repeat' first
    | (refine J.qv ?_; (with_reducible apply exq); focus (first
      | ((with_reducible apply Qv.buildW); exact rfl; exact rfl; (first | with_reducible assumption | (unfold Wo; omega) | (simp only [Wd, Wo] at *; omega)))
      | ((with_reducible apply Qv.buildW0); exact rfl; exact rfl)))
    | (refine J.qr ?_; (with_reducible apply exq); focus (first
      | ((with_reducible apply Qr.row1); exact rfl; (first | exact in_au | fail); exact dgv_get _ (by omega))))
    | (refine J.qo ?_; refine ⟨?_, ?_⟩; focus (first
      | ((with_reducible apply Qr.row1); exact rfl; (first | exact in_au | fail); exact dgv_get _ (by omega))))
    | ((with_reducible apply J.allocW); exact rfl; exact rfl; intro _)
    | ((with_reducible apply J.freshAtP (digits _)); exact rfl; exact rfl; (first | exact outs_au | fail); (repeat' (first | with_reducible assumption | with_reducible apply wadd_wd | with_reducible apply wsub_wd | with_reducible apply wcap_wd | (unfold Wd; omega) | (unfold Wo; omega) | (simp only [Wd, Wo] at *; omega) | decide)); intro _ _)
    | ((with_reducible apply J.keepsP (made_c (a + b) _ _ _)); exact rfl; exact rfl; (first | exact outs_au | fail); exact add_hp ha hb hI (by omega))
    | refine J.one ?_
    | refine J.loudS ?_
    | (refine J.loudQ ?_; intro _ _)
    | (refine J.loudB ?_; intro _)
    | (with_reducible apply J.list)
    | ((with_reducible apply J.draw (id := 1) [0, 1, 0, 7, 15, 31] (.q 0 (.q 2 (.x 1 (.x 3 (.p 4 (.p 5 .nil)) .none) .none))) (by kernel_rfl) ?_ (by kernel_rfl) ?_); (repeat (with_reducible first | exact PanicFree.body | exact PanicFree.np | exact PanicFree.lvS | apply PanicFree.then_ | apply PanicFree.blk)))
    | ((with_reducible apply J.draw (id := 7) [0, 0, 0, 6, 14, 31, 0, 0, 192, 448, 1023, 2047] (.p 0 (.p 1 (.p 2 (.p 3 (.q 4 (.p 5 (.p 6 (.p 7 (.p 8 (.q 9 (.p 10 (.p 11 .nil)))))))))))) (by kernel_rfl) ?_ (by kernel_rfl) ?_); (repeat (with_reducible first | exact PanicFree.body | exact PanicFree.np | exact PanicFree.lvS | apply PanicFree.then_ | apply PanicFree.blk)))
    | ((with_reducible apply J.pl2); exact rfl; (first | exact Gd.none | ((with_reducible apply Gd.on); exact rfl; exact rfl)); (first | exact pend_au | fail))
    | ((with_reducible apply J.pl2_off); exact rfl; ((with_reducible apply Gd.off); exact rfl; exact rfl; exact rfl); exact rfl; (first | exact pend_au | fail))
    | ((with_reducible apply J.pl2_off_none); exact rfl; ((with_reducible apply Gd.off); exact rfl; exact rfl; exact rfl); (first | exact pend_au | fail))
    | ((with_reducible first | apply J.psplit0 | apply J.psplit1 | apply J.psplit2); exact rfl; exact rfl; exact rfl)
    | (with_reducible exact J.pl_none)
    | ((with_reducible apply J.gsplit); exact rfl; exact rfl)
    | ((with_reducible first | apply J.cond | apply JC.cond); exact rfl)
    | (intro h; exfalso; (first | (simp at h; done) | omega))
    | (intro h; (try simp only [decide_eq_true_eq, decide_eq_false_iff_not, beq_iff_eq, beq_eq_false_iff_ne, Bool.not_eq_true', Bool.not_eq_false', bne_iff_ne, bne_eq_false_iff_eq, ne_eq, ge_iff_le, gt_iff_lt] at h))
    | (with_reducible apply J.gave')
    | ((with_reducible apply J.kept'); rotate_left; (first | exact outs_au | fail))
  rename_i b2 b3 b4 gx cx gy cy
  refine J.nilRowC 3 1 (dgv (a + b) 0) rfl ?_
  apply J.loopI (σ := Nat × Int × Value) (I := fun s => (s.1 ≤ 16 ∧ 0 ≤ s.2.1 ∧ s.2.1 ≤ 1 ∧ s.2.1 = sh (a + b) s.1 - sh a s.1 - sh b s.1)) (L := fun s => [(4, .pointer (some ⟨b4, 0, none⟩)), (5, .bool false), (6, .slice (some ⟨gx, 0, none⟩) 16 cx), (7, .slice (some ⟨gy, 0, none⟩) 16 cy), (8, s.2.2), (9, .int .i64 s.2.1), (10, .int .i64 (s.1 : Int))]) (HH := fun s => [row s.2.2 3 1 s.1 (dgv (a + b) s.1), Eng.rowAt gx cx 3 1 16 (dgv a 16), Eng.rowAt gy cy 3 1 16 (dgv b 16), blk b4 (wv 0) 27]) (m := fun s => 16 - s.1) (s0 := (0, 0, .slice none 0 0))
  · ((try dsimp only); (refine ⟨by omega, by omega, by omega, ?_⟩; simp only [sh]; omega))
  · ((try dsimp only); repeat (first | exact sub.nil _ | (refine sub.consE rfl ?_ ?_; (first | with_reducible rfl | (fail) | rfl))))
  · ((try dsimp only); (first | exact outs_au | fail))
  rintro ⟨i, cc, v⟩ hI
  try dsimp only at hI ⊢
  repeat' first
    | (refine J.qv ?_; (with_reducible apply exq); focus (first
      | ((with_reducible apply Qv.buildW); exact rfl; exact rfl; (first | with_reducible assumption | (unfold Wo; omega) | (simp only [Wd, Wo] at *; omega)))
      | ((with_reducible apply Qv.buildW0); exact rfl; exact rfl)))
    | (refine J.qr ?_; (with_reducible apply exq); focus (first
      | ((with_reducible apply Qr.row1); exact rfl; (first | exact in_au | fail); exact dgv_get _ (by omega))))
    | (refine J.qo ?_; refine ⟨?_, ?_⟩; focus (first
      | ((with_reducible apply Qr.row1); exact rfl; (first | exact in_au | fail); exact dgv_get _ (by omega))))
    | ((with_reducible apply J.allocW); exact rfl; exact rfl; intro _)
    | ((with_reducible apply J.freshAtP (digits _)); exact rfl; exact rfl; (first | exact outs_au | fail); (repeat' (first | with_reducible assumption | with_reducible apply wadd_wd | with_reducible apply wsub_wd | with_reducible apply wcap_wd | (unfold Wd; omega) | (unfold Wo; omega) | (simp only [Wd, Wo] at *; omega) | decide)); intro _ _)
    | ((with_reducible apply J.keepsP (made_c (a + b) _ _ _)); exact rfl; exact rfl; (first | exact outs_au | fail); exact add_hp ha hb hI (by omega))
    | refine J.one ?_
    | refine J.loudS ?_
    | (refine J.loudQ ?_; intro _ _)
    | (refine J.loudB ?_; intro _)
    | (with_reducible apply J.list)
    | ((with_reducible apply J.draw (id := 1) [0, 1, 0, 7, 15, 31] (.q 0 (.q 2 (.x 1 (.x 3 (.p 4 (.p 5 .nil)) .none) .none))) (by kernel_rfl) ?_ (by kernel_rfl) ?_); (repeat (with_reducible first | exact PanicFree.body | exact PanicFree.np | exact PanicFree.lvS | apply PanicFree.then_ | apply PanicFree.blk)))
    | ((with_reducible apply J.draw (id := 7) [0, 0, 0, 6, 14, 31, 0, 0, 192, 448, 1023, 2047] (.p 0 (.p 1 (.p 2 (.p 3 (.q 4 (.p 5 (.p 6 (.p 7 (.p 8 (.q 9 (.p 10 (.p 11 .nil)))))))))))) (by kernel_rfl) ?_ (by kernel_rfl) ?_); (repeat (with_reducible first | exact PanicFree.body | exact PanicFree.np | exact PanicFree.lvS | apply PanicFree.then_ | apply PanicFree.blk)))
    | ((with_reducible apply J.pl2); exact rfl; (first | exact Gd.none | ((with_reducible apply Gd.on); exact rfl; exact rfl)); (first | exact pend_au | fail))
    | ((with_reducible apply J.pl2_off); exact rfl; ((with_reducible apply Gd.off); exact rfl; exact rfl; exact rfl); exact rfl; (first | exact pend_au | fail))
    | ((with_reducible apply J.pl2_off_none); exact rfl; ((with_reducible apply Gd.off); exact rfl; exact rfl; exact rfl); (first | exact pend_au | fail))
    | ((with_reducible first | apply J.psplit0 | apply J.psplit1 | apply J.psplit2); exact rfl; exact rfl; exact rfl)
    | (with_reducible exact J.pl_none)
    | ((with_reducible apply J.gsplit); exact rfl; exact rfl)
    | ((with_reducible first | apply J.cond | apply JC.cond); exact rfl)
    | (intro h; exfalso; (first | (simp at h; done) | omega))
    | (intro h; (try simp only [decide_eq_true_eq, decide_eq_false_iff_not, beq_iff_eq, beq_eq_false_iff_ne, Bool.not_eq_true', Bool.not_eq_false', bne_iff_ne, bne_eq_false_iff_eq, ne_eq, ge_iff_le, gt_iff_lt] at h))
    | (with_reducible apply J.gave')
    | ((with_reducible apply J.kept'); rotate_left; (first | exact outs_au | fail))
  all_goals
    first
    | (exfalso; omega)
    | rfl
    | (simp only [retv, wadd]; done)
    | (rename_i bb q hq
       obtain ⟨i1, i2, i3, i4⟩ := hI
       apply J.reC (n' := i + 1) (C' := dgv (a + b) (i + 1))
       · (repeat (first | with_reducible exact Upd.here | with_reducible apply Upd.there))
       · rfl
       · show dgv (a + b) i ++ [.int .i64 ((cc + sh a i % 65536 + sh b i % 65536) % 65536)] = dgv (a + b) i ++ [.int .i64 (sh (a + b) i % 65536)]
         congr 3; omega
       · (apply J.againI (s := (i, cc, v)) (s' := (i + 1, (cc + sh a i % 65536 + sh b i % 65536) / 65536, .slice q.1 (i + 1) q.2)); (focus (((try simp only) <;> omega))); (focus ((try dsimp only); (refine ⟨by omega, by omega, by omega, ?_⟩; show _ = sh (a + b) i / 65536 - sh a i / 65536 - sh b i / 65536; omega))); (focus (((try dsimp only); repeat (first | exact sub.nil _ | (refine sub.consE rfl ?_ ?_; (first | with_reducible rfl | ((congr 1; omega)) | rfl)))))); ((try dsimp only); (first | exact outs_au | fail))))
theorem sub_hp {a b : Int} {i : Nat} (ha : Wd a) (hb : Wd b) (hba : b ≤ a) (hi : i ≤ 16) (h : ¬ (i : Int) < 16) :
    dgv (a - b) i = dgv (a - b) i ∧ 0 ≤ a - b ∧ 16 ≤ i ∧ i ≤ 1000 ∧ sh (a - b) i = 0 := by
  have e0 : i = 16 := by omega
  subst e0
  exact ⟨rfl, by omega, by omega, by omega, sh16 (by unfold Wd at *; omega)⟩
theorem sub_r (a b : Int) (h : Wd a ∧ Wd b) (w : World) : CSpec Tryz.prog 86 [.agg (wv a).toArray, .agg (wv b).toArray] [] w (Gives (.tuple [.agg (wv (wsub a b)).toArray, .bool (decide (b ≤ a))].toArray)) := by
  have ha := h.1; have hb := h.2
  refine spec_of Tryz.func86 rfl Tryz.ntmps86 rfl (l0 := [(0, .agg (wv a).toArray), (1, .agg (wv b).toArray)]) rfl ?_
  intro fp
  repeat' first
    | (refine J.qv ?_; (with_reducible apply exq); focus (first
      | ((with_reducible apply Qv.buildW); exact rfl; exact rfl; (first | with_reducible assumption | (unfold Wo; omega) | (simp only [Wd, Wo] at *; omega)))
      | ((with_reducible apply Qv.buildW0); exact rfl; exact rfl)))
    | (refine J.qr ?_; (with_reducible apply exq); focus (first
      | ((with_reducible apply Qr.row1); exact rfl; (first | exact in_au | fail); exact dgv_get _ (by omega))))
    | (refine J.qo ?_; refine ⟨?_, ?_⟩; focus (first
      | ((with_reducible apply Qr.row1); exact rfl; (first | exact in_au | fail); exact dgv_get _ (by omega))))
    | ((with_reducible apply J.allocW); exact rfl; exact rfl; intro _)
    | ((with_reducible apply J.givesP (cmp _ _)); exact rfl; exact rfl; with_reducible assumption)
    | ((with_reducible apply J.freshAtP (digits _)); exact rfl; exact rfl; (first | exact outs_au | fail); (repeat' (first | with_reducible assumption | with_reducible apply wadd_wd | with_reducible apply wsub_wd | with_reducible apply wcap_wd | (unfold Wd; omega) | (unfold Wo; omega) | (simp only [Wd, Wo] at *; omega) | decide)); intro _ _)
    | ((with_reducible apply J.keepsP (made_c (a - b) _ _ _)); exact rfl; exact rfl; (first | exact outs_au | fail); exact sub_hp ha hb hba (by omega) (by omega))
    | refine J.one ?_
    | refine J.loudS ?_
    | (refine J.loudQ ?_; intro _ _)
    | (refine J.loudB ?_; intro _)
    | (with_reducible apply J.list)
    | ((with_reducible apply J.draw (id := 3) [0, 1, 0, 7, 15, 31] (.q 0 (.q 2 (.x 1 (.x 3 (.p 4 (.p 5 .nil)) .none) .none))) (by kernel_rfl) ?_ (by kernel_rfl) ?_); (repeat (with_reducible first | exact PanicFree.body | exact PanicFree.np | exact PanicFree.lvS | apply PanicFree.then_ | apply PanicFree.blk)))
    | ((with_reducible apply J.draw (id := 9) [0, 0, 3, 7, 0, 0, 48, 112, 255, 0, 1023, 2047] (.p 0 (.p 1 (.p 2 (.q 3 (.p 4 (.p 5 (.p 6 (.q 7 (.p 8 (.p 9 (.p 10 (.p 11 .nil)))))))))))) (by kernel_rfl) ?_ (by kernel_rfl) ?_); (repeat (with_reducible first | exact PanicFree.body | exact PanicFree.np | exact PanicFree.lvS | apply PanicFree.then_ | apply PanicFree.blk)))
    | ((with_reducible apply J.pl2); exact rfl; (first | exact Gd.none | ((with_reducible apply Gd.on); exact rfl; exact rfl)); (first | exact pend_au | fail))
    | ((with_reducible apply J.pl2_off); exact rfl; ((with_reducible apply Gd.off); exact rfl; exact rfl; exact rfl); exact rfl; (first | exact pend_au | fail))
    | ((with_reducible apply J.pl2_off_none); exact rfl; ((with_reducible apply Gd.off); exact rfl; exact rfl; exact rfl); (first | exact pend_au | fail))
    | ((with_reducible first | apply J.psplit0 | apply J.psplit1 | apply J.psplit2); exact rfl; exact rfl; exact rfl)
    | (with_reducible exact J.pl_none)
    | ((with_reducible apply J.gsplit); exact rfl; exact rfl)
    | ((with_reducible first | apply J.cond | apply JC.cond); exact rfl)
    | (intro h; exfalso; (first | (simp at h; done) | omega))
    | (intro h; (try simp only [decide_eq_true_eq, decide_eq_false_iff_not, beq_iff_eq, beq_eq_false_iff_ne, Bool.not_eq_true', Bool.not_eq_false', bne_iff_ne, bne_eq_false_iff_eq, ne_eq, ge_iff_le, gt_iff_lt] at h))
    | (with_reducible apply J.gave')
    | ((with_reducible apply J.kept'); rotate_left; (first | exact outs_au | fail))
  rotate_left
  rename_i b2 b3 b4 gx cx gy cy
  have hba : b ≤ a := by
    unfold wcmp at h
    (repeat' split at h) <;> omega
  refine J.nilRowC 3 1 (dgv (a - b) 0) rfl ?_
  apply J.loopI (σ := Nat × Int × Value) (I := fun s => (s.1 ≤ 16 ∧ 0 ≤ s.2.1 ∧ s.2.1 ≤ 1 ∧ s.2.1 = sh a s.1 - sh b s.1 - sh (a - b) s.1)) (L := fun s => [(4, .pointer (some ⟨b4, 0, none⟩)), (5, .bool false), (6, .slice (some ⟨gx, 0, none⟩) 16 cx), (7, .slice (some ⟨gy, 0, none⟩) 16 cy), (8, s.2.2), (9, .int .i64 s.2.1), (10, .int .i64 (s.1 : Int))]) (HH := fun s => [row s.2.2 3 1 s.1 (dgv (a - b) s.1), Eng.rowAt gx cx 3 1 16 (dgv a 16), Eng.rowAt gy cy 3 1 16 (dgv b 16), blk b4 (wv 0) 27]) (m := fun s => 16 - s.1) (s0 := (0, 0, .slice none 0 0))
  · ((try dsimp only); (refine ⟨by omega, by omega, by omega, ?_⟩; simp only [sh]; omega))
  · ((try dsimp only); repeat (first | exact sub.nil _ | (refine sub.consE rfl ?_ ?_; (first | with_reducible rfl | (fail) | rfl))))
  · ((try dsimp only); (first | exact outs_au | fail))
  rintro ⟨i, cc, v⟩ hI
  try dsimp only at hI ⊢
  repeat' first
    | (refine J.qv ?_; (with_reducible apply exq); focus (first
      | ((with_reducible apply Qv.buildW); exact rfl; exact rfl; (first | with_reducible assumption | (unfold Wo; omega) | (simp only [Wd, Wo] at *; omega)))
      | ((with_reducible apply Qv.buildW0); exact rfl; exact rfl)))
    | (refine J.qr ?_; (with_reducible apply exq); focus (first
      | ((with_reducible apply Qr.row1); exact rfl; (first | exact in_au | fail); exact dgv_get _ (by omega))))
    | (refine J.qo ?_; refine ⟨?_, ?_⟩; focus (first
      | ((with_reducible apply Qr.row1); exact rfl; (first | exact in_au | fail); exact dgv_get _ (by omega))))
    | ((with_reducible apply J.allocW); exact rfl; exact rfl; intro _)
    | ((with_reducible apply J.givesP (cmp _ _)); exact rfl; exact rfl; with_reducible assumption)
    | ((with_reducible apply J.freshAtP (digits _)); exact rfl; exact rfl; (first | exact outs_au | fail); (repeat' (first | with_reducible assumption | with_reducible apply wadd_wd | with_reducible apply wsub_wd | with_reducible apply wcap_wd | (unfold Wd; omega) | (unfold Wo; omega) | (simp only [Wd, Wo] at *; omega) | decide)); intro _ _)
    | ((with_reducible apply J.keepsP (made_c (a - b) _ _ _)); exact rfl; exact rfl; (first | exact outs_au | fail); exact sub_hp ha hb hba (by omega) (by omega))
    | refine J.one ?_
    | refine J.loudS ?_
    | (refine J.loudQ ?_; intro _ _)
    | (refine J.loudB ?_; intro _)
    | (with_reducible apply J.list)
    | ((with_reducible apply J.draw (id := 3) [0, 1, 0, 7, 15, 31] (.q 0 (.q 2 (.x 1 (.x 3 (.p 4 (.p 5 .nil)) .none) .none))) (by kernel_rfl) ?_ (by kernel_rfl) ?_); (repeat (with_reducible first | exact PanicFree.body | exact PanicFree.np | exact PanicFree.lvS | apply PanicFree.then_ | apply PanicFree.blk)))
    | ((with_reducible apply J.draw (id := 9) [0, 0, 3, 7, 0, 0, 48, 112, 255, 0, 1023, 2047] (.p 0 (.p 1 (.p 2 (.q 3 (.p 4 (.p 5 (.p 6 (.q 7 (.p 8 (.p 9 (.p 10 (.p 11 .nil)))))))))))) (by kernel_rfl) ?_ (by kernel_rfl) ?_); (repeat (with_reducible first | exact PanicFree.body | exact PanicFree.np | exact PanicFree.lvS | apply PanicFree.then_ | apply PanicFree.blk)))
    | ((with_reducible apply J.pl2); exact rfl; (first | exact Gd.none | ((with_reducible apply Gd.on); exact rfl; exact rfl)); (first | exact pend_au | fail))
    | ((with_reducible apply J.pl2_off); exact rfl; ((with_reducible apply Gd.off); exact rfl; exact rfl; exact rfl); exact rfl; (first | exact pend_au | fail))
    | ((with_reducible apply J.pl2_off_none); exact rfl; ((with_reducible apply Gd.off); exact rfl; exact rfl; exact rfl); (first | exact pend_au | fail))
    | ((with_reducible first | apply J.psplit0 | apply J.psplit1 | apply J.psplit2); exact rfl; exact rfl; exact rfl)
    | (with_reducible exact J.pl_none)
    | ((with_reducible apply J.gsplit); exact rfl; exact rfl)
    | ((with_reducible first | apply J.cond | apply JC.cond); exact rfl)
    | (intro h; exfalso; (first | (simp at h; done) | omega))
    | (intro h; (try simp only [decide_eq_true_eq, decide_eq_false_iff_not, beq_iff_eq, beq_eq_false_iff_ne, Bool.not_eq_true', Bool.not_eq_false', bne_iff_ne, bne_eq_false_iff_eq, ne_eq, ge_iff_le, gt_iff_lt] at h))
    | (with_reducible apply J.gave')
    | ((with_reducible apply J.kept'); rotate_left; (first | exact outs_au | fail))
  all_goals
    first
    | (exfalso; omega)
    | (have e1 : ¬ b ≤ a := by unfold wcmp at *; (repeat' split at *) <;> omega
       simp only [retv, wsub, if_neg e1, decide_eq_false e1]; done)
    | (have e1 : a - b < 115792089237316195423570985008687907853269984665640564039457584007913129639936 := by unfold Wd at *; omega
       simp only [retv, wsub, if_pos hba, if_pos e1, decide_eq_true hba, decide_eq_true e1]; done)
    | (rename_i bb q hq
       obtain ⟨i1, i2, i3, i4⟩ := hI
       apply J.reC (n' := i + 1) (C' := dgv (a - b) (i + 1))
       · (repeat (first | with_reducible exact Upd.here | with_reducible apply Upd.there))
       · rfl
       · show dgv (a - b) i ++ [_] = dgv (a - b) i ++ [.int .i64 (sh (a - b) i % 65536)]
         congr 3; omega
       · (apply J.againI (s := (i, cc, v)) (s' := (i + 1, 1, .slice q.1 (i + 1) q.2)); (focus (((try simp only) <;> omega))); (focus ((try dsimp only); (refine ⟨by omega, by omega, by omega, ?_⟩; show _ = sh a i / 65536 - sh b i / 65536 - sh (a - b) i / 65536; omega))); (focus (((try dsimp only); repeat (first | exact sub.nil _ | (refine sub.consE rfl ?_ ?_; (first | with_reducible rfl | ((congr 1; omega)) | rfl)))))); ((try dsimp only); (first | exact outs_au | fail))))
    | (rename_i bb q hq
       obtain ⟨i1, i2, i3, i4⟩ := hI
       apply J.reC (n' := i + 1) (C' := dgv (a - b) (i + 1))
       · (repeat (first | with_reducible exact Upd.here | with_reducible apply Upd.there))
       · rfl
       · show dgv (a - b) i ++ [_] = dgv (a - b) i ++ [.int .i64 (sh (a - b) i % 65536)]
         congr 3; omega
       · (apply J.againI (s := (i, cc, v)) (s' := (i + 1, 0, .slice q.1 (i + 1) q.2)); (focus (((try simp only) <;> omega))); (focus ((try dsimp only); (refine ⟨by omega, by omega, by omega, ?_⟩; show _ = sh a i / 65536 - sh b i / 65536 - sh (a - b) i / 65536; omega))); (focus (((try dsimp only); repeat (first | exact sub.nil _ | (refine sub.consE rfl ?_ ?_; (first | with_reducible rfl | ((congr 1; omega)) | rfl)))))); ((try dsimp only); (first | exact outs_au | fail))))
end Go.Proofs.YtljbedladifgmaaGreat.Ref
