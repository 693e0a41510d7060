/-
  The contract: vaults, places of locks. No conditions.
-/
import Derived.Test.YtljbedladifgmaaGreatQWide
import Derived.Test.YtljbedladifgmaaGreatQEs
import Derived.Test.YtljbedladifgmaaGreatQMss
namespace Go.Proofs.YtljbedladifgmaaGreat.Purse
open Go Go.RowKit Eng
set_option linter.unusedVariables false
set_option maxRecDepth 100000
set_option linter.unusedSimpArgs false
open Wide
theorem zero16r : (rep 16 [Value.int .u64 0, .int .u64 0, .int .u64 0, .int .u64 0]) = wvs (fun _ => 0) 16 := by kernel_rfl
theorem zero2 : ([.int .u64 0, .int .u64 0, .int .u64 0, .int .u64 0, .int .u64 0, .int .u64 0, .int .u64 0, .int .u64 0] : List Value) = wvs (fun _ => 0) 2 := by kernel_rfl
theorem zero16 : ([.int .u64 0, .int .u64 0, .int .u64 0, .int .u64 0, .int .u64 0, .int .u64 0, .int .u64 0, .int .u64 0, .int .u64 0, .int .u64 0, .int .u64 0, .int .u64 0, .int .u64 0, .int .u64 0, .int .u64 0, .int .u64 0, .int .u64 0, .int .u64 0, .int .u64 0, .int .u64 0, .int .u64 0, .int .u64 0, .int .u64 0, .int .u64 0, .int .u64 0, .int .u64 0, .int .u64 0, .int .u64 0, .int .u64 0, .int .u64 0, .int .u64 0, .int .u64 0, .int .u64 0, .int .u64 0, .int .u64 0, .int .u64 0, .int .u64 0, .int .u64 0, .int .u64 0, .int .u64 0, .int .u64 0, .int .u64 0, .int .u64 0, .int .u64 0, .int .u64 0, .int .u64 0, .int .u64 0, .int .u64 0, .int .u64 0, .int .u64 0, .int .u64 0, .int .u64 0, .int .u64 0, .int .u64 0, .int .u64 0, .int .u64 0, .int .u64 0, .int .u64 0, .int .u64 0, .int .u64 0, .int .u64 0, .int .u64 0, .int .u64 0, .int .u64 0] : List Value) = wvs (fun _ => 0) 16 := by kernel_rfl
theorem J.allocB {c : Cx} {l : TL} {H : List Asrt} {P : Program} {Q : Exit → Act → World → Prop} {X : Act → World → Prop} {ty : TypeId} {pos : String} {af : Array Edge} {d T n : Nat} {z : List Value} [i : Ty P T true n z] {ns : Nat → Int} {m : Nat} (hz : z = wvs ns m) (hd : Nat.blt d c.n = true)
    (K : ∀ b, J c ((d, .pointer (some ⟨b, 0, none⟩)) :: l) (blk b (wvs ns m) T :: H) X) : J c l H (OW P Q ⟨some d, .alloc T, ty, pos, af, none⟩ X) := by
  subst hz
  exact J.alloc hd K
theorem at_t (a s : Int) (h : 0 ≤ a ∧ a < 8 ∧ 0 ≤ s ∧ s < 2) (w : World) : CSpec Tryz.prog 80 [.int .i64 a, .int .i64 s] [] w (Gives (.bool true)) := by
  refine spec_of Tryz.func80 rfl Tryz.ntmps80 rfl (l0 := [(0, .int .i64 a), (1, .int .i64 s)]) rfl ?_
  intro fp
  repeat' first
    | refine J.one ?_
    | refine J.loudS ?_
    | (refine J.loudQ ?_; intro _ _)
    | (refine J.loudB ?_; intro _)
    | (with_reducible apply J.list)
    | ((with_reducible apply J.gsplit); exact rfl; exact rfl)
    | ((with_reducible first | apply J.cond | apply JC.cond); exact rfl)
    | (intro h; exfalso; (first | (simp at h; done) | omega))
    | (intro h; (try simp only [decide_eq_true_eq, decide_eq_false_iff_not, beq_iff_eq, beq_eq_false_iff_ne, Bool.not_eq_true', Bool.not_eq_false', bne_iff_ne, bne_eq_false_iff_eq, ne_eq, ge_iff_le, gt_iff_lt] at h))
    | (with_reducible apply J.gave')
    | ((with_reducible apply J.kept'); rotate_left; (first | exact outs_au | fail))
  all_goals (first | rfl | (simp [retv]; omega))
theorem at_f (a s : Int) (h : ¬ (0 ≤ a ∧ a < 8 ∧ 0 ≤ s ∧ s < 2)) (w : World) : CSpec Tryz.prog 80 [.int .i64 a, .int .i64 s] [] w (Gives (.bool false)) := by
  refine spec_of Tryz.func80 rfl Tryz.ntmps80 rfl (l0 := [(0, .int .i64 a), (1, .int .i64 s)]) rfl ?_
  intro fp
  repeat' first
    | refine J.one ?_
    | refine J.loudS ?_
    | (refine J.loudQ ?_; intro _ _)
    | (refine J.loudB ?_; intro _)
    | (with_reducible apply J.list)
    | ((with_reducible apply J.gsplit); exact rfl; exact rfl)
    | ((with_reducible first | apply J.cond | apply JC.cond); exact rfl)
    | (intro h; exfalso; (first | (simp at h; done) | omega))
    | (intro h; (try simp only [decide_eq_true_eq, decide_eq_false_iff_not, beq_iff_eq, beq_eq_false_iff_ne, Bool.not_eq_true', Bool.not_eq_false', bne_iff_ne, bne_eq_false_iff_eq, ne_eq, ge_iff_le, gt_iff_lt] at h))
    | (with_reducible apply J.gave')
    | ((with_reducible apply J.kept'); rotate_left; (first | exact outs_au | fail))
  all_goals (first | rfl | (simp [retv]; omega))
theorem even (x : Int) (h : Wo x) (w : World) : CSpec Tryz.prog 44 [.int .u64 x] [] w (Gives (.agg (wvs (fun _ => x) 16).toArray)) := by
  refine spec_of Tryz.func44 rfl Tryz.ntmps44 rfl (l0 := [(0, .int .u64 x)]) rfl ?_
  intro fp
  repeat' first
    | (refine J.qv ?_; (with_reducible apply exq); focus (first
      | ((with_reducible apply Qv.buildW); exact rfl; exact rfl; (first | with_reducible assumption | (unfold Wo; omega) | (simp only [Wd, Wo] at *; omega)))
      | ((with_reducible apply Qv.buildW0); exact rfl; exact rfl)))
    | ((with_reducible apply J.storeN); exact rfl; exact rfl; (repeat (first | with_reducible exact Upd.here | with_reducible apply Upd.there)); (with_reducible refine wvs_set (k := 2 * i + k) ?_ ?_); omega; omega; exact rfl; (rw [wvs_length]; omega); exact rfl)
    | ((with_reducible apply J.allocB (ns := fun _ => 0) (m := 16)); (first | with_reducible exact zero16 | with_reducible exact zero16r); exact rfl; intro _)
    | ((with_reducible apply J.allocB (ns := fun _ => 0) (m := 2)); (with_reducible exact zero2); exact rfl; intro _)
    | ((with_reducible apply J.allocW); exact rfl; exact rfl; intro _)
    | ((with_reducible apply J.givesP (of _)); exact rfl; exact rfl; (first | with_reducible assumption | (unfold Wo; omega) | (simp only [Wd, Wo] at *; omega)))
    | refine J.one ?_
    | refine J.loudS ?_
    | (refine J.loudQ ?_; intro _ _)
    | (refine J.loudB ?_; intro _)
    | (with_reducible apply J.list)
    | ((with_reducible apply J.draw (id := 8) [0, 0, 0, 4, 1, 31, 63] (.p 0 (.p 1 (.p 2 (.p 4 (.x 3 (.p 5 (.x 6 .nil .none)) .none))))) (by kernel_rfl) ?_ (by kernel_rfl) ?_); (repeat (with_reducible first | exact PanicFree.body | exact PanicFree.np | exact PanicFree.lvS | apply PanicFree.then_ | apply PanicFree.blk)))
    | ((with_reducible apply J.pl2); exact rfl; (first | exact Gd.none | ((with_reducible apply Gd.on); exact rfl; exact rfl)); (first | exact pend_au | fail))
    | ((with_reducible apply J.pl2_off); exact rfl; ((with_reducible apply Gd.off); exact rfl; exact rfl; exact rfl); exact rfl; (first | exact pend_au | fail))
    | ((with_reducible apply J.pl2_off_none); exact rfl; ((with_reducible apply Gd.off); exact rfl; exact rfl; exact rfl); (first | exact pend_au | fail))
    | ((with_reducible first | apply J.psplit0 | apply J.psplit1 | apply J.psplit2); exact rfl; exact rfl; exact rfl)
    | (with_reducible exact J.pl_none)
    | ((with_reducible apply J.gsplit); exact rfl; exact rfl)
    | ((with_reducible first | apply J.cond | apply JC.cond); exact rfl)
    | (intro h; exfalso; (first | (simp at h; done) | omega))
    | (intro h; (try simp only [decide_eq_true_eq, decide_eq_false_iff_not, beq_iff_eq, beq_eq_false_iff_ne, Bool.not_eq_true', Bool.not_eq_false', bne_iff_ne, bne_eq_false_iff_eq, ne_eq, ge_iff_le, gt_iff_lt] at h))
    | (with_reducible apply J.gave')
    | ((with_reducible apply J.kept'); rotate_left; (first | exact outs_au | fail))
  rename_i b2 b3
  apply J.loopI (σ := Nat) (I := fun q => q ≤ 8) (L := fun q => [(0, .int .u64 x), (2, .pointer (some ⟨b2, 0, none⟩)), (3, .pointer (some ⟨b3, 0, none⟩)), (6, .int .i64 (q : Int))]) (HH := fun q => [blk b2 (wvs (fun _ => 0) 16) 30, blk b3 (wvs (fun j => if j < 2 * q then x else 0) 16) 30]) (m := fun q => 8 - q) (s0 := 0)
  · ((try dsimp only); omega)
  · ((try dsimp only); repeat (first | exact sub.nil _ | (refine sub.consE rfl ?_ ?_; (first | with_reducible rfl | (fail) | rfl))))
  · ((try dsimp only); (try simp only [Nat.mul_zero, Nat.not_lt_zero, if_false]); (first | exact outs_au | fail))
  rintro i hI
  try dsimp only at hI ⊢
  repeat' first
    | (refine J.qv ?_; (with_reducible apply exq); focus (first
      | ((with_reducible apply Qv.buildW); exact rfl; exact rfl; (first | with_reducible assumption | (unfold Wo; omega) | (simp only [Wd, Wo] at *; omega)))
      | ((with_reducible apply Qv.buildW0); exact rfl; exact rfl)))
    | ((with_reducible apply J.storeN); exact rfl; exact rfl; (repeat (first | with_reducible exact Upd.here | with_reducible apply Upd.there)); (with_reducible refine wvs_set (k := 2 * i + k) ?_ ?_); omega; omega; exact rfl; (rw [wvs_length]; omega); exact rfl)
    | ((with_reducible apply J.allocB (ns := fun _ => 0) (m := 16)); (first | with_reducible exact zero16 | with_reducible exact zero16r); exact rfl; intro _)
    | ((with_reducible apply J.allocB (ns := fun _ => 0) (m := 2)); (with_reducible exact zero2); exact rfl; intro _)
    | ((with_reducible apply J.allocW); exact rfl; exact rfl; intro _)
    | ((with_reducible apply J.givesP (of _)); exact rfl; exact rfl; (first | with_reducible assumption | (unfold Wo; omega) | (simp only [Wd, Wo] at *; omega)))
    | refine J.one ?_
    | refine J.loudS ?_
    | (refine J.loudQ ?_; intro _ _)
    | (refine J.loudB ?_; intro _)
    | (with_reducible apply J.list)
    | ((with_reducible apply J.draw (id := 8) [0, 0, 0, 4, 1, 31, 63] (.p 0 (.p 1 (.p 2 (.p 4 (.x 3 (.p 5 (.x 6 .nil .none)) .none))))) (by kernel_rfl) ?_ (by kernel_rfl) ?_); (repeat (with_reducible first | exact PanicFree.body | exact PanicFree.np | exact PanicFree.lvS | apply PanicFree.then_ | apply PanicFree.blk)))
    | ((with_reducible apply J.pl2); exact rfl; (first | exact Gd.none | ((with_reducible apply Gd.on); exact rfl; exact rfl)); (first | exact pend_au | fail))
    | ((with_reducible apply J.pl2_off); exact rfl; ((with_reducible apply Gd.off); exact rfl; exact rfl; exact rfl); exact rfl; (first | exact pend_au | fail))
    | ((with_reducible apply J.pl2_off_none); exact rfl; ((with_reducible apply Gd.off); exact rfl; exact rfl; exact rfl); (first | exact pend_au | fail))
    | ((with_reducible first | apply J.psplit0 | apply J.psplit1 | apply J.psplit2); exact rfl; exact rfl; exact rfl)
    | (with_reducible exact J.pl_none)
    | ((with_reducible apply J.gsplit); exact rfl; exact rfl)
    | ((with_reducible first | apply J.cond | apply JC.cond); exact rfl)
    | (intro h; exfalso; (first | (simp at h; done) | omega))
    | (intro h; (try simp only [decide_eq_true_eq, decide_eq_false_iff_not, beq_iff_eq, beq_eq_false_iff_ne, Bool.not_eq_true', Bool.not_eq_false', bne_iff_ne, bne_eq_false_iff_eq, ne_eq, ge_iff_le, gt_iff_lt] at h))
    | (with_reducible apply J.gave')
    | ((with_reducible apply J.kept'); rotate_left; (first | exact outs_au | fail))
  any_goals
    apply J.loopI (σ := Nat) (I := fun q => q ≤ 2) (L := fun q => [(0, .int .u64 x), (2, .pointer (some ⟨b2, 0, none⟩)), (3, .pointer (some ⟨b3, 0, none⟩)), (4, .int .i64 (i : Int)), (6, .int .i64 (i : Int)), (9, .int .i64 (q : Int))]) (HH := fun q => [blk b2 (wvs (fun _ => 0) 16) 30, blk b3 (wvs (fun j => if j < 2 * i + q then x else 0) 16) 30]) (m := fun q => 2 - q) (s0 := 0)
    · ((try dsimp only); omega)
    · ((try dsimp only); repeat (first | exact sub.nil _ | (refine sub.consE rfl ?_ ?_; (first | with_reducible rfl | (fail) | rfl))))
    · ((try dsimp only); (try simp only [Nat.add_zero]); (first | exact outs_au | fail))
    rintro k hJ
    try dsimp only at hJ ⊢
    repeat' first
      | (refine J.qv ?_; (with_reducible apply exq); focus (first
        | ((with_reducible apply Qv.buildW); exact rfl; exact rfl; (first | with_reducible assumption | (unfold Wo; omega) | (simp only [Wd, Wo] at *; omega)))
        | ((with_reducible apply Qv.buildW0); exact rfl; exact rfl)))
      | ((with_reducible apply J.storeN); exact rfl; exact rfl; (repeat (first | with_reducible exact Upd.here | with_reducible apply Upd.there)); (with_reducible refine wvs_set (k := 2 * i + k) ?_ ?_); omega; omega; exact rfl; (rw [wvs_length]; omega); exact rfl)
      | ((with_reducible apply J.allocB (ns := fun _ => 0) (m := 16)); (first | with_reducible exact zero16 | with_reducible exact zero16r); exact rfl; intro _)
      | ((with_reducible apply J.allocB (ns := fun _ => 0) (m := 2)); (with_reducible exact zero2); exact rfl; intro _)
      | ((with_reducible apply J.allocW); exact rfl; exact rfl; intro _)
      | ((with_reducible apply J.givesP (of _)); exact rfl; exact rfl; (first | with_reducible assumption | (unfold Wo; omega) | (simp only [Wd, Wo] at *; omega)))
      | refine J.one ?_
      | refine J.loudS ?_
      | (refine J.loudQ ?_; intro _ _)
      | (refine J.loudB ?_; intro _)
      | (with_reducible apply J.list)
      | ((with_reducible apply J.draw (id := 8) [0, 0, 0, 4, 1, 31, 63] (.p 0 (.p 1 (.p 2 (.p 4 (.x 3 (.p 5 (.x 6 .nil .none)) .none))))) (by kernel_rfl) ?_ (by kernel_rfl) ?_); (repeat (with_reducible first | exact PanicFree.body | exact PanicFree.np | exact PanicFree.lvS | apply PanicFree.then_ | apply PanicFree.blk)))
      | ((with_reducible apply J.pl2); exact rfl; (first | exact Gd.none | ((with_reducible apply Gd.on); exact rfl; exact rfl)); (first | exact pend_au | fail))
      | ((with_reducible apply J.pl2_off); exact rfl; ((with_reducible apply Gd.off); exact rfl; exact rfl; exact rfl); exact rfl; (first | exact pend_au | fail))
      | ((with_reducible apply J.pl2_off_none); exact rfl; ((with_reducible apply Gd.off); exact rfl; exact rfl; exact rfl); (first | exact pend_au | fail))
      | ((with_reducible first | apply J.psplit0 | apply J.psplit1 | apply J.psplit2); exact rfl; exact rfl; exact rfl)
      | (with_reducible exact J.pl_none)
      | ((with_reducible apply J.gsplit); exact rfl; exact rfl)
      | ((with_reducible first | apply J.cond | apply JC.cond); exact rfl)
      | (intro h; exfalso; (first | (simp at h; done) | omega))
      | (intro h; (try simp only [decide_eq_true_eq, decide_eq_false_iff_not, beq_iff_eq, beq_eq_false_iff_ne, Bool.not_eq_true', Bool.not_eq_false', bne_iff_ne, bne_eq_false_iff_eq, ne_eq, ge_iff_le, gt_iff_lt] at h))
      | (with_reducible apply J.gave')
      | ((with_reducible apply J.kept'); rotate_left; (first | exact outs_au | fail))
  all_goals
    first
    | (exfalso; omega)
    | (have e0 : i = 8 := by omega
       subst e0
       have e1 : wvs (fun j => if j < 2 * 8 then x else 0) 16 = wvs (fun _ => x) 16 := wvs_same fun j hj => if_pos (by omega)
       simp only [retv, e1]; done)
    | (have e0 : k = 2 := by omega
       subst e0
       apply J.reB (b := b3) (C' := wvs (fun j => if j < 2 * (i + 1) then x else 0) 16)
       · (repeat (first | with_reducible exact Upd.here | with_reducible apply Upd.there))
       · refine wvs_same fun j hj => ?_
         split <;> split <;> (first | rfl | omega)
       · (apply J.againI (s := i) (s' := (i + 1)); (focus (omega)); (focus ((try dsimp only); omega)); (focus (((try dsimp only); repeat (first | exact sub.nil _ | (refine sub.consE rfl ?_ ?_; (first | with_reducible rfl | ((congr 1; omega)) | rfl)))))); ((try dsimp only); (first | exact outs_au | fail))))
    | (apply J.reB (b := b3) (C' := wvs (fun j => if j < 2 * i + (k + 1) then x else 0) 16)
       · (repeat (first | with_reducible exact Upd.here | with_reducible apply Upd.there))
       · refine wvs_same fun j hj => ?_
         simp only [upd]
         split <;> split <;> (first | rfl | omega)
       · (apply J.againI (s := k) (s' := (k + 1)); (focus (omega)); (focus ((try dsimp only); omega)); (focus (((try dsimp only); repeat (first | exact sub.nil _ | (refine sub.consE rfl ?_ ?_; (first | with_reducible rfl | ((congr 1; omega)) | rfl)))))); ((try dsimp only); (first | exact outs_au | fail))))
theorem of_t (ns : Nat → Int) (a s : Int) (h : 0 ≤ a ∧ a < 8 ∧ 0 ≤ s ∧ s < 2) (w : World) : CSpec Tryz.prog 43 [.agg (wvs ns 16).toArray, .int .i64 a, .int .i64 s] [] w (Gives (.agg (wv (ns (2 * a.toNat + s.toNat))).toArray)) := by
  refine spec_of Tryz.func43 rfl Tryz.ntmps43 rfl (l0 := [(0, .agg (wvs ns 16).toArray), (1, .int .i64 a), (2, .int .i64 s)]) rfl ?_
  intro fp
  repeat' first
    | (refine J.qv ?_; (with_reducible apply exq); focus (first
      | ((with_reducible apply Qv.buildW); exact rfl; exact rfl; (first | with_reducible assumption | (unfold Wo; omega) | (simp only [Wd, Wo] at *; omega)))
      | ((with_reducible apply Qv.buildW0); exact rfl; exact rfl)))
    | (refine J.qr ?_; (with_reducible apply exq); focus (first
      | ((with_reducible apply Qr.loadN); exact rfl; (first | exact in_au | fail); (with_reducible refine wvs_get (k := 2 * a.toNat + s.toNat) ?_ ?_); omega; omega; exact rfl)))
    | ((with_reducible apply J.allocW); exact rfl; exact rfl; intro _)
    | ((with_reducible apply J.givesP (at_t _ _)); exact rfl; exact rfl; omega)
    | ((with_reducible apply J.givesP (at_f _ _)); exact rfl; exact rfl; omega)
    | refine J.one ?_
    | refine J.loudS ?_
    | (refine J.loudQ ?_; intro _ _)
    | (refine J.loudB ?_; intro _)
    | (with_reducible apply J.list)
    | ((with_reducible apply J.gsplit); exact rfl; exact rfl)
    | ((with_reducible first | apply J.cond | apply JC.cond); exact rfl)
    | (intro h; exfalso; (first | (simp at h; done) | omega))
    | (intro h; (try simp only [decide_eq_true_eq, decide_eq_false_iff_not, beq_iff_eq, beq_eq_false_iff_ne, Bool.not_eq_true', Bool.not_eq_false', bne_iff_ne, bne_eq_false_iff_eq, ne_eq, ge_iff_le, gt_iff_lt] at h))
    | (with_reducible apply J.gave')
    | ((with_reducible apply J.kept'); rotate_left; (first | exact outs_au | fail))
  all_goals (rfl)
theorem give_f (ns : Nat → Int) (a s x : Int) (h : ¬ (0 ≤ a ∧ a < 8 ∧ 0 ≤ s ∧ s < 2)) (w : World) : CSpec Tryz.prog 135 [.agg (wvs ns 16).toArray, .int .i64 a, .int .i64 s, .agg (wv x).toArray] [] w (Gives (.tuple [.agg (wvs ns 16).toArray, .int .i64 4].toArray)) := by
  refine spec_of Tryz.func135 rfl Tryz.ntmps135 rfl (l0 := [(0, .agg (wvs ns 16).toArray), (1, .int .i64 a), (2, .int .i64 s), (3, .agg (wv x).toArray)]) rfl ?_
  intro fp
  repeat' first
    | (refine J.qv ?_; (with_reducible apply exq); focus (first
      | ((with_reducible apply Qv.buildW); exact rfl; exact rfl; (first | with_reducible assumption | (unfold Wo; omega) | (simp only [Wd, Wo] at *; omega)))
      | ((with_reducible apply Qv.buildW0); exact rfl; exact rfl)))
    | ((with_reducible apply J.allocB (ns := fun _ => 0) (m := 16)); (first | with_reducible exact zero16 | with_reducible exact zero16r); exact rfl; intro _)
    | ((with_reducible apply J.allocB (ns := fun _ => 0) (m := 2)); (with_reducible exact zero2); exact rfl; intro _)
    | ((with_reducible apply J.allocW); exact rfl; exact rfl; intro _)
    | ((with_reducible apply J.givesP (at_t _ _)); exact rfl; exact rfl; omega)
    | ((with_reducible apply J.givesP (at_f _ _)); exact rfl; exact rfl; omega)
    | refine J.one ?_
    | refine J.loudS ?_
    | (refine J.loudQ ?_; intro _ _)
    | (refine J.loudB ?_; intro _)
    | (with_reducible apply J.list)
    | ((with_reducible apply J.draw (id := 3) [0, 0, 1, 7, 15, 0, 63, 127, 255, 255, 0, 1535, 4095] (.p 0 (.p 1 (.p 2 (.p 3 (.q 4 (.q 5 (.x 6 (.p 7 (.p 8 (.p 9 (.x 10 (.x 11 (.p 12 .nil) .none) .none)))) (.x 10 (.x 6 (.p 7 (.p 8 (.p 9 (.x 11 (.p 12 .nil) .none)))) .none) .none)))))))) (by kernel_rfl) ?_ (by kernel_rfl) ?_); (repeat (with_reducible first | exact PanicFree.body | exact PanicFree.np | exact PanicFree.lvS | apply PanicFree.then_ | apply PanicFree.blk)))
    | ((with_reducible apply J.draw (id := 6) [0, 0, 0, 1, 15, 31] (.p 0 (.p 1 (.q 2 (.p 3 (.p 4 (.x 5 .nil .none)))))) (by kernel_rfl) ?_ (by kernel_rfl) ?_); (repeat (with_reducible first | exact PanicFree.body | exact PanicFree.np | exact PanicFree.lvS | apply PanicFree.then_ | apply PanicFree.blk)))
    | ((with_reducible apply J.pl2); exact rfl; (first | exact Gd.none | ((with_reducible apply Gd.on); exact rfl; exact rfl)); (first | exact pend_au | fail))
    | ((with_reducible apply J.pl2_off); exact rfl; ((with_reducible apply Gd.off); exact rfl; exact rfl; exact rfl); exact rfl; (first | exact pend_au | fail))
    | ((with_reducible apply J.pl2_off_none); exact rfl; ((with_reducible apply Gd.off); exact rfl; exact rfl; exact rfl); (first | exact pend_au | fail))
    | ((with_reducible first | apply J.psplit0 | apply J.psplit1 | apply J.psplit2); exact rfl; exact rfl; exact rfl)
    | (with_reducible exact J.pl_none)
    | ((with_reducible apply J.gsplit); exact rfl; exact rfl)
    | ((with_reducible first | apply J.cond | apply JC.cond); exact rfl)
    | (intro h; exfalso; (first | (simp at h; done) | omega))
    | (intro h; (try simp only [decide_eq_true_eq, decide_eq_false_iff_not, beq_iff_eq, beq_eq_false_iff_ne, Bool.not_eq_true', Bool.not_eq_false', bne_iff_ne, bne_eq_false_iff_eq, ne_eq, ge_iff_le, gt_iff_lt] at h))
    | (with_reducible apply J.gave')
    | ((with_reducible apply J.kept'); rotate_left; (first | exact outs_au | fail))
  all_goals (rfl)
theorem give_t (ns : Nat → Int) (a s x : Int) (h : (0 ≤ a ∧ a < 8 ∧ 0 ≤ s ∧ s < 2) ∧ (∀ j, Wd (ns j)) ∧ Wd x) (w : World) : CSpec Tryz.prog 135 [.agg (wvs ns 16).toArray, .int .i64 a, .int .i64 s, .agg (wv x).toArray] [] w (Gives (.tuple [.agg (wvs (if ns (2 * a.toNat + s.toNat) + x < 115792089237316195423570985008687907853269984665640564039457584007913129639936 then upd ns (2 * a.toNat + s.toNat) (ns (2 * a.toNat + s.toNat) + x) else ns) 16).toArray, .int .i64 (if ns (2 * a.toNat + s.toNat) + x < 115792089237316195423570985008687907853269984665640564039457584007913129639936 then 0 else 38)].toArray)) := by
  obtain ⟨⟨h1, h2, h3, h4⟩, hw, hx⟩ := h
  refine spec_of Tryz.func135 rfl Tryz.ntmps135 rfl (l0 := [(0, .agg (wvs ns 16).toArray), (1, .int .i64 a), (2, .int .i64 s), (3, .agg (wv x).toArray)]) rfl ?_
  intro fp
  repeat' first
    | (refine J.qv ?_; (with_reducible apply exq); focus (first
      | ((with_reducible apply Qv.buildW); exact rfl; exact rfl; (first | with_reducible assumption | (unfold Wo; omega) | (simp only [Wd, Wo] at *; omega)))
      | ((with_reducible apply Qv.buildW0); exact rfl; exact rfl)))
    | (refine J.qr ?_; (with_reducible apply exq); focus (first
      | ((with_reducible apply Qr.loadN); exact rfl; (first | exact in_au | fail); (with_reducible refine wvs_get (k := 2 * a.toNat + s.toNat) ?_ ?_); omega; omega; exact rfl)))
    | (refine J.qo ?_; refine ⟨?_, ?_⟩; focus (first
      | ((with_reducible apply Qr.loadN); exact rfl; (first | exact in_au | fail); (with_reducible refine wvs_get (k := 2 * a.toNat + s.toNat) ?_ ?_); omega; omega; exact rfl)))
    | ((with_reducible apply J.storeN); exact rfl; exact rfl; (repeat (first | with_reducible exact Upd.here | with_reducible apply Upd.there)); (with_reducible refine wvs_set (k := 2 * a.toNat + s.toNat) ?_ ?_); omega; omega; exact rfl; (rw [wvs_length]; omega); exact rfl)
    | ((with_reducible apply J.allocB (ns := fun _ => 0) (m := 16)); (first | with_reducible exact zero16 | with_reducible exact zero16r); exact rfl; intro _)
    | ((with_reducible apply J.allocB (ns := fun _ => 0) (m := 2)); (with_reducible exact zero2); exact rfl; intro _)
    | ((with_reducible apply J.allocW); exact rfl; exact rfl; intro _)
    | ((with_reducible apply J.givesP (at_t _ _)); exact rfl; exact rfl; omega)
    | ((with_reducible apply J.givesP (at_f _ _)); exact rfl; exact rfl; omega)
    | ((with_reducible apply J.givesP (add _ _)); exact rfl; exact rfl; (refine ⟨?_, ?_⟩ <;> first | with_reducible assumption | (exact hw _) | (unfold Wd; omega)))
    | refine J.one ?_
    | refine J.loudS ?_
    | (refine J.loudQ ?_; intro _ _)
    | (refine J.loudB ?_; intro _)
    | (with_reducible apply J.list)
    | ((with_reducible apply J.draw (id := 3) [0, 0, 1, 7, 15, 0, 63, 127, 255, 255, 0, 1535, 4095] (.p 0 (.p 1 (.p 2 (.p 3 (.q 4 (.q 5 (.x 6 (.p 7 (.p 8 (.p 9 (.x 10 (.x 11 (.p 12 .nil) .none) .none)))) (.x 10 (.x 6 (.p 7 (.p 8 (.p 9 (.x 11 (.p 12 .nil) .none)))) .none) .none)))))))) (by kernel_rfl) ?_ (by kernel_rfl) ?_); (repeat (with_reducible first | exact PanicFree.body | exact PanicFree.np | exact PanicFree.lvS | apply PanicFree.then_ | apply PanicFree.blk)))
    | ((with_reducible apply J.draw (id := 6) [0, 0, 0, 1, 15, 31] (.p 0 (.p 1 (.q 2 (.p 3 (.p 4 (.x 5 .nil .none)))))) (by kernel_rfl) ?_ (by kernel_rfl) ?_); (repeat (with_reducible first | exact PanicFree.body | exact PanicFree.np | exact PanicFree.lvS | apply PanicFree.then_ | apply PanicFree.blk)))
    | ((with_reducible apply J.pl2); exact rfl; (first | exact Gd.none | ((with_reducible apply Gd.on); exact rfl; exact rfl)); (first | exact pend_au | fail))
    | ((with_reducible apply J.pl2_off); exact rfl; ((with_reducible apply Gd.off); exact rfl; exact rfl; exact rfl); exact rfl; (first | exact pend_au | fail))
    | ((with_reducible apply J.pl2_off_none); exact rfl; ((with_reducible apply Gd.off); exact rfl; exact rfl; exact rfl); (first | exact pend_au | fail))
    | ((with_reducible first | apply J.psplit0 | apply J.psplit1 | apply J.psplit2); exact rfl; exact rfl; exact rfl)
    | (with_reducible exact J.pl_none)
    | ((with_reducible apply J.gsplit); exact rfl; exact rfl)
    | ((with_reducible first | apply J.cond | apply JC.cond); exact rfl)
    | (intro h; exfalso; (first | (simp at h; done) | omega))
    | (intro h; (try simp only [decide_eq_true_eq, decide_eq_false_iff_not, beq_iff_eq, beq_eq_false_iff_ne, Bool.not_eq_true', Bool.not_eq_false', bne_iff_ne, bne_eq_false_iff_eq, ne_eq, ge_iff_le, gt_iff_lt] at h))
    | (with_reducible apply J.gave')
    | ((with_reducible apply J.kept'); rotate_left; (first | exact outs_au | fail))
  all_goals ((simp only [retv, wadd, wsub]; simp only [*, if_true, if_false]; done))
theorem take_f (ns : Nat → Int) (a s x : Int) (h : ¬ (0 ≤ a ∧ a < 8 ∧ 0 ≤ s ∧ s < 2)) (w : World) : CSpec Tryz.prog 46 [.agg (wvs ns 16).toArray, .int .i64 a, .int .i64 s, .agg (wv x).toArray] [] w (Gives (.tuple [.agg (wvs ns 16).toArray, .int .i64 4].toArray)) := by
  refine spec_of Tryz.func46 rfl Tryz.ntmps46 rfl (l0 := [(0, .agg (wvs ns 16).toArray), (1, .int .i64 a), (2, .int .i64 s), (3, .agg (wv x).toArray)]) rfl ?_
  intro fp
  repeat' first
    | (refine J.qv ?_; (with_reducible apply exq); focus (first
      | ((with_reducible apply Qv.buildW); exact rfl; exact rfl; (first | with_reducible assumption | (unfold Wo; omega) | (simp only [Wd, Wo] at *; omega)))
      | ((with_reducible apply Qv.buildW0); exact rfl; exact rfl)))
    | ((with_reducible apply J.allocB (ns := fun _ => 0) (m := 16)); (first | with_reducible exact zero16 | with_reducible exact zero16r); exact rfl; intro _)
    | ((with_reducible apply J.allocB (ns := fun _ => 0) (m := 2)); (with_reducible exact zero2); exact rfl; intro _)
    | ((with_reducible apply J.allocW); exact rfl; exact rfl; intro _)
    | ((with_reducible apply J.givesP (at_t _ _)); exact rfl; exact rfl; omega)
    | ((with_reducible apply J.givesP (at_f _ _)); exact rfl; exact rfl; omega)
    | refine J.one ?_
    | refine J.loudS ?_
    | (refine J.loudQ ?_; intro _ _)
    | (refine J.loudB ?_; intro _)
    | (with_reducible apply J.list)
    | ((with_reducible apply J.draw (id := 3) [0, 0, 1, 7, 15, 0, 63, 127, 255, 255, 0, 1535, 4095] (.p 0 (.p 1 (.p 2 (.p 3 (.q 4 (.q 5 (.x 6 (.p 7 (.p 8 (.p 9 (.x 10 (.x 11 (.p 12 .nil) .none) .none)))) (.x 10 (.x 6 (.p 7 (.p 8 (.p 9 (.x 11 (.p 12 .nil) .none)))) .none) .none)))))))) (by kernel_rfl) ?_ (by kernel_rfl) ?_); (repeat (with_reducible first | exact PanicFree.body | exact PanicFree.np | exact PanicFree.lvS | apply PanicFree.then_ | apply PanicFree.blk)))
    | ((with_reducible apply J.draw (id := 6) [0, 0, 0, 1, 15, 31] (.p 0 (.p 1 (.q 2 (.p 3 (.p 4 (.x 5 .nil .none)))))) (by kernel_rfl) ?_ (by kernel_rfl) ?_); (repeat (with_reducible first | exact PanicFree.body | exact PanicFree.np | exact PanicFree.lvS | apply PanicFree.then_ | apply PanicFree.blk)))
    | ((with_reducible apply J.pl2); exact rfl; (first | exact Gd.none | ((with_reducible apply Gd.on); exact rfl; exact rfl)); (first | exact pend_au | fail))
    | ((with_reducible apply J.pl2_off); exact rfl; ((with_reducible apply Gd.off); exact rfl; exact rfl; exact rfl); exact rfl; (first | exact pend_au | fail))
    | ((with_reducible apply J.pl2_off_none); exact rfl; ((with_reducible apply Gd.off); exact rfl; exact rfl; exact rfl); (first | exact pend_au | fail))
    | ((with_reducible first | apply J.psplit0 | apply J.psplit1 | apply J.psplit2); exact rfl; exact rfl; exact rfl)
    | (with_reducible exact J.pl_none)
    | ((with_reducible apply J.gsplit); exact rfl; exact rfl)
    | ((with_reducible first | apply J.cond | apply JC.cond); exact rfl)
    | (intro h; exfalso; (first | (simp at h; done) | omega))
    | (intro h; (try simp only [decide_eq_true_eq, decide_eq_false_iff_not, beq_iff_eq, beq_eq_false_iff_ne, Bool.not_eq_true', Bool.not_eq_false', bne_iff_ne, bne_eq_false_iff_eq, ne_eq, ge_iff_le, gt_iff_lt] at h))
    | (with_reducible apply J.gave')
    | ((with_reducible apply J.kept'); rotate_left; (first | exact outs_au | fail))
  all_goals (rfl)
theorem take_t (ns : Nat → Int) (a s x : Int) (h : (0 ≤ a ∧ a < 8 ∧ 0 ≤ s ∧ s < 2) ∧ (∀ j, Wd (ns j)) ∧ Wd x) (w : World) : CSpec Tryz.prog 46 [.agg (wvs ns 16).toArray, .int .i64 a, .int .i64 s, .agg (wv x).toArray] [] w (Gives (.tuple [.agg (wvs (if x ≤ ns (2 * a.toNat + s.toNat) then upd ns (2 * a.toNat + s.toNat) (ns (2 * a.toNat + s.toNat) - x) else ns) 16).toArray, .int .i64 (if x ≤ ns (2 * a.toNat + s.toNat) then 0 else 30)].toArray)) := by
  obtain ⟨⟨h1, h2, h3, h4⟩, hw, hx⟩ := h
  refine spec_of Tryz.func46 rfl Tryz.ntmps46 rfl (l0 := [(0, .agg (wvs ns 16).toArray), (1, .int .i64 a), (2, .int .i64 s), (3, .agg (wv x).toArray)]) rfl ?_
  intro fp
  repeat' first
    | (refine J.qv ?_; (with_reducible apply exq); focus (first
      | ((with_reducible apply Qv.buildW); exact rfl; exact rfl; (first | with_reducible assumption | (unfold Wo; omega) | (simp only [Wd, Wo] at *; omega)))
      | ((with_reducible apply Qv.buildW0); exact rfl; exact rfl)))
    | (refine J.qr ?_; (with_reducible apply exq); focus (first
      | ((with_reducible apply Qr.loadN); exact rfl; (first | exact in_au | fail); (with_reducible refine wvs_get (k := 2 * a.toNat + s.toNat) ?_ ?_); omega; omega; exact rfl)))
    | (refine J.qo ?_; refine ⟨?_, ?_⟩; focus (first
      | ((with_reducible apply Qr.loadN); exact rfl; (first | exact in_au | fail); (with_reducible refine wvs_get (k := 2 * a.toNat + s.toNat) ?_ ?_); omega; omega; exact rfl)))
    | ((with_reducible apply J.storeN); exact rfl; exact rfl; (repeat (first | with_reducible exact Upd.here | with_reducible apply Upd.there)); (with_reducible refine wvs_set (k := 2 * a.toNat + s.toNat) ?_ ?_); omega; omega; exact rfl; (rw [wvs_length]; omega); exact rfl)
    | ((with_reducible apply J.allocB (ns := fun _ => 0) (m := 16)); (first | with_reducible exact zero16 | with_reducible exact zero16r); exact rfl; intro _)
    | ((with_reducible apply J.allocB (ns := fun _ => 0) (m := 2)); (with_reducible exact zero2); exact rfl; intro _)
    | ((with_reducible apply J.allocW); exact rfl; exact rfl; intro _)
    | ((with_reducible apply J.givesP (at_t _ _)); exact rfl; exact rfl; omega)
    | ((with_reducible apply J.givesP (at_f _ _)); exact rfl; exact rfl; omega)
    | ((with_reducible apply J.givesP (sub _ _)); exact rfl; exact rfl; (refine ⟨?_, ?_⟩ <;> first | with_reducible assumption | (exact hw _) | (unfold Wd; omega)))
    | refine J.one ?_
    | refine J.loudS ?_
    | (refine J.loudQ ?_; intro _ _)
    | (refine J.loudB ?_; intro _)
    | (with_reducible apply J.list)
    | ((with_reducible apply J.draw (id := 3) [0, 0, 1, 7, 15, 0, 63, 127, 255, 255, 0, 1535, 4095] (.p 0 (.p 1 (.p 2 (.p 3 (.q 4 (.q 5 (.x 6 (.p 7 (.p 8 (.p 9 (.x 10 (.x 11 (.p 12 .nil) .none) .none)))) (.x 10 (.x 6 (.p 7 (.p 8 (.p 9 (.x 11 (.p 12 .nil) .none)))) .none) .none)))))))) (by kernel_rfl) ?_ (by kernel_rfl) ?_); (repeat (with_reducible first | exact PanicFree.body | exact PanicFree.np | exact PanicFree.lvS | apply PanicFree.then_ | apply PanicFree.blk)))
    | ((with_reducible apply J.draw (id := 6) [0, 0, 0, 1, 15, 31] (.p 0 (.p 1 (.q 2 (.p 3 (.p 4 (.x 5 .nil .none)))))) (by kernel_rfl) ?_ (by kernel_rfl) ?_); (repeat (with_reducible first | exact PanicFree.body | exact PanicFree.np | exact PanicFree.lvS | apply PanicFree.then_ | apply PanicFree.blk)))
    | ((with_reducible apply J.pl2); exact rfl; (first | exact Gd.none | ((with_reducible apply Gd.on); exact rfl; exact rfl)); (first | exact pend_au | fail))
    | ((with_reducible apply J.pl2_off); exact rfl; ((with_reducible apply Gd.off); exact rfl; exact rfl; exact rfl); exact rfl; (first | exact pend_au | fail))
    | ((with_reducible apply J.pl2_off_none); exact rfl; ((with_reducible apply Gd.off); exact rfl; exact rfl; exact rfl); (first | exact pend_au | fail))
    | ((with_reducible first | apply J.psplit0 | apply J.psplit1 | apply J.psplit2); exact rfl; exact rfl; exact rfl)
    | (with_reducible exact J.pl_none)
    | ((with_reducible apply J.gsplit); exact rfl; exact rfl)
    | ((with_reducible first | apply J.cond | apply JC.cond); exact rfl)
    | (intro h; exfalso; (first | (simp at h; done) | omega))
    | (intro h; (try simp only [decide_eq_true_eq, decide_eq_false_iff_not, beq_iff_eq, beq_eq_false_iff_ne, Bool.not_eq_true', Bool.not_eq_false', bne_iff_ne, bne_eq_false_iff_eq, ne_eq, ge_iff_le, gt_iff_lt] at h))
    | (with_reducible apply J.gave')
    | ((with_reducible apply J.kept'); rotate_left; (first | exact outs_au | fail))
  all_goals ((simp only [retv, wadd, wsub]; simp only [*, if_true, if_false]; done))
def inA (a s : Int) : Bool := decide (0 ≤ a) && (decide (a < 8) && (decide (0 ≤ s) && decide (s < 2)))
theorem inA_iff {a s : Int} : inA a s = true ↔ 0 ≤ a ∧ a < 8 ∧ 0 ≤ s ∧ s < 2 := by simp [inA]
def gvR (ns : Nat → Int) (a s x : Int) : (Nat → Int) × Int :=
  if inA a s = true then (if ns (2 * a.toNat + s.toNat) + x < 115792089237316195423570985008687907853269984665640564039457584007913129639936 then (upd ns (2 * a.toNat + s.toNat) (ns (2 * a.toNat + s.toNat) + x), 0) else (ns, 38)) else (ns, 4)
def tkR (ns : Nat → Int) (a s x : Int) : (Nat → Int) × Int :=
  if inA a s = true then (if x ≤ ns (2 * a.toNat + s.toNat) then (upd ns (2 * a.toNat + s.toNat) (ns (2 * a.toNat + s.toNat) - x), 0) else (ns, 30)) else (ns, 4)
theorem gvR_wd {ns : Nat → Int} {a s x : Int} (hw : ∀ j, Wd (ns j)) (hx : Wd x) (j : Nat) : Wd ((gvR ns a s x).1 j) := by
  unfold gvR
  split
  · split
    · dsimp only [upd]
      split
      · have := hw (2 * a.toNat + s.toNat)
        unfold Wd at *; omega
      · exact hw j
    · exact hw j
  · exact hw j
theorem tkR_wd {ns : Nat → Int} {a s x : Int} (hw : ∀ j, Wd (ns j)) (hx : Wd x) (j : Nat) : Wd ((tkR ns a s x).1 j) := by
  unfold tkR
  split
  · split
    · dsimp only [upd]
      split
      · have := hw (2 * a.toNat + s.toNat)
        unfold Wd at *; omega
      · exact hw j
    · exact hw j
  · exact hw j
theorem give (ns : Nat → Int) (a s x : Int) (h : (∀ j, Wd (ns j)) ∧ Wd x) (w : World) : CSpec Tryz.prog 135 [.agg (wvs ns 16).toArray, .int .i64 a, .int .i64 s, .agg (wv x).toArray] [] w (Gives (.tuple [.agg (wvs (gvR ns a s x).1 16).toArray, .int .i64 (gvR ns a s x).2].toArray)) := by
  by_cases hi : 0 ≤ a ∧ a < 8 ∧ 0 ≤ s ∧ s < 2
  · have e := inA_iff.2 hi
    have := give_t ns a s x ⟨hi, h⟩ w
    unfold gvR
    rw [if_pos e]
    split <;> simpa only [*, if_true, if_false] using this
  · have e : ¬ inA a s = true := fun h => hi (inA_iff.1 h)
    unfold gvR
    rw [if_neg e]
    exact give_f ns a s x hi w
theorem take (ns : Nat → Int) (a s x : Int) (h : (∀ j, Wd (ns j)) ∧ Wd x) (w : World) : CSpec Tryz.prog 46 [.agg (wvs ns 16).toArray, .int .i64 a, .int .i64 s, .agg (wv x).toArray] [] w (Gives (.tuple [.agg (wvs (tkR ns a s x).1 16).toArray, .int .i64 (tkR ns a s x).2].toArray)) := by
  by_cases hi : 0 ≤ a ∧ a < 8 ∧ 0 ≤ s ∧ s < 2
  · have e := inA_iff.2 hi
    have := take_t ns a s x ⟨hi, h⟩ w
    unfold tkR
    rw [if_pos e]
    split <;> simpa only [*, if_true, if_false] using this
  · have e : ¬ inA a s = true := fun h => hi (inA_iff.1 h)
    unfold tkR
    rw [if_neg e]
    exact take_f ns a s x hi w
def mvR (ns : Nat → Int) (a b s x : Int) : (Nat → Int) × Int :=
  if (tkR ns a s x).2 = 0 then (if (gvR (tkR ns a s x).1 b s x).2 = 0 then gvR (tkR ns a s x).1 b s x else (ns, (gvR (tkR ns a s x).1 b s x).2)) else (ns, (tkR ns a s x).2)
theorem move (ns : Nat → Int) (a b s x : Int) (h : (∀ j, Wd (ns j)) ∧ Wd x) (w : World) : CSpec Tryz.prog 110 [.agg (wvs ns 16).toArray, .int .i64 a, .int .i64 b, .int .i64 s, .agg (wv x).toArray] [] w (Gives (.tuple [.agg (wvs (mvR ns a b s x).1 16).toArray, .int .i64 (mvR ns a b s x).2].toArray)) := by
  obtain ⟨hw, hx⟩ := h
  refine spec_of Tryz.func110 rfl Tryz.ntmps110 rfl (l0 := [(0, .agg (wvs ns 16).toArray), (1, .int .i64 a), (2, .int .i64 b), (3, .int .i64 s), (4, .agg (wv x).toArray)]) rfl ?_
  intro fp
  repeat' first
    | (refine J.qv ?_; (with_reducible apply exq); focus (first
      | ((with_reducible apply Qv.buildW); exact rfl; exact rfl; (first | with_reducible assumption | (unfold Wo; omega) | (simp only [Wd, Wo] at *; omega)))
      | ((with_reducible apply Qv.buildW0); exact rfl; exact rfl)))
    | ((with_reducible apply J.allocB (ns := fun _ => 0) (m := 16)); (first | with_reducible exact zero16 | with_reducible exact zero16r); exact rfl; intro _)
    | ((with_reducible apply J.allocB (ns := fun _ => 0) (m := 2)); (with_reducible exact zero2); exact rfl; intro _)
    | ((with_reducible apply J.allocW); exact rfl; exact rfl; intro _)
    | ((with_reducible apply J.givesP (give _ _ _ _)); exact rfl; exact rfl; (first | exact ⟨tkR_wd hw hx, hx⟩ | exact ⟨hw, hx⟩))
    | ((with_reducible apply J.givesP (take _ _ _ _)); exact rfl; exact rfl; exact ⟨hw, hx⟩)
    | refine J.one ?_
    | refine J.loudS ?_
    | (refine J.loudQ ?_; intro _ _)
    | (refine J.loudB ?_; intro _)
    | (with_reducible apply J.list)
    | ((with_reducible apply J.gsplit); exact rfl; exact rfl)
    | ((with_reducible first | apply J.cond | apply JC.cond); exact rfl)
    | (intro h; exfalso; (simp at h; done))
    | (intro h; (try simp only [decide_eq_true_eq, decide_eq_false_iff_not, beq_iff_eq, beq_eq_false_iff_ne, Bool.not_eq_true', Bool.not_eq_false', bne_iff_ne, bne_eq_false_iff_eq, ne_eq, ge_iff_le, gt_iff_lt] at h))
    | (with_reducible apply J.gave')
    | ((with_reducible apply J.kept'); rotate_left; (first | exact outs_au | fail))
  all_goals ((simp only [retv, mvR]; simp only [*, if_true, if_false]; done))
end Go.Proofs.YtljbedladifgmaaGreat.Purse
namespace Go.Proofs.YtljbedladifgmaaGreat.Ss
open Go Go.RowKit Eng
set_option linter.unusedVariables false
set_option maxRecDepth 100000
set_option linter.unusedSimpArgs false
open Wide Purse
set_option maxHeartbeats 1000000
abbrev RE := RetE 139
/-- A state's cells. -/
structure SS where
  side : Int
  time : Int
  pu : Nat → Int
  va : Nat → Int
  no : Nat → Int
  he : Nat → Int
  bu : Int
def ncell (no : Nat → Int) : List Value := tab (fun j => .int .i64 (no j)) 8
def SS.cells (s : SS) (lv : Value) : List Value := [.int .i64 s.side, .int .i64 s.time] ++ (wvs s.pu 16 ++ (wvs s.va 16 ++ (ncell s.no ++ (wvs s.he 2 ++ (wv s.bu ++ [lv])))))
theorem splice_mid {A B D vs : List Value} {off : Nat} (ha : A.length = off) (hb : vs.length = B.length) : splice (A ++ (B ++ D)) off vs = A ++ (vs ++ D) := by
  subst ha
  simp [splice, hb]
theorem take_mid {A B D : List Value} {off n : Nat} (ha : A.length = off) (hb : B.length = n) : ((A ++ (B ++ D)).drop off).take n = B := by
  subst ha hb
  simp
theorem ncell_length (no : Nat → Int) : (ncell no).length = 8 := tab_length _
theorem SS.len (s : SS) (lv : Value) : (s.cells lv).length = 151 := by simp [SS.cells, wvs_length, wv_length, ncell_length]
theorem SS.g0 (s : SS) (lv : Value) : (s.cells lv)[0]? = some (.int .i64 s.side) := rfl
theorem SS.g1 (s : SS) (lv : Value) : (s.cells lv)[1]? = some (.int .i64 s.time) := rfl
theorem SS.e1 (s : SS) (lv : Value) : s.cells lv = [.int .i64 s.side] ++ ([.int .i64 s.time] ++ (wvs s.pu 16 ++ (wvs s.va 16 ++ (ncell s.no ++ (wvs s.he 2 ++ (wv s.bu ++ [lv])))))) := by simp only [SS.cells, List.append_assoc]; rfl
theorem SS.s1 (s : SS) (lv : Value) (x : Int) : splice (s.cells lv) 1 [.int .i64 x] = SS.cells { s with time := x } lv := by
  rw [s.e1 lv, SS.e1 { s with time := x } lv]
  exact splice_mid rfl rfl
theorem SS.e2 (s : SS) (lv : Value) : s.cells lv = ([.int .i64 s.side, .int .i64 s.time]) ++ (wvs s.pu 16 ++ (wvs s.va 16 ++ (ncell s.no ++ (wvs s.he 2 ++ (wv s.bu ++ ([lv])))))) := by simp only [SS.cells, List.append_assoc, List.append_nil]
theorem SS.a2 (s : SS) : ([.int .i64 s.side, .int .i64 s.time] : List Value).length = 2 := by simp [wvs_length, wv_length, ncell_length]
theorem SS.g2 (s : SS) (lv : Value) : ((s.cells lv).drop 2).take 64 = wvs s.pu 16 := by
  rw [s.e2 lv]
  exact take_mid s.a2 (by simp [wvs_length, wv_length])
theorem SS.s2 (s : SS) (lv : Value) (x : Nat → Int) : splice (s.cells lv) 2 (wvs x 16) = SS.cells { s with pu := x } lv := by
  rw [s.e2 lv, SS.e2 { s with pu := x } lv]
  exact splice_mid s.a2 (by simp [wvs_length])
theorem SS.e3 (s : SS) (lv : Value) : s.cells lv = ([.int .i64 s.side, .int .i64 s.time] ++ wvs s.pu 16) ++ (wvs s.va 16 ++ (ncell s.no ++ (wvs s.he 2 ++ (wv s.bu ++ ([lv]))))) := by simp only [SS.cells, List.append_assoc, List.append_nil]
theorem SS.a3 (s : SS) : ([.int .i64 s.side, .int .i64 s.time] ++ wvs s.pu 16 : List Value).length = 66 := by simp [wvs_length, wv_length, ncell_length]
theorem SS.g3 (s : SS) (lv : Value) : ((s.cells lv).drop 66).take 64 = wvs s.va 16 := by
  rw [s.e3 lv]
  exact take_mid s.a3 (by simp [wvs_length, wv_length])
theorem SS.s3 (s : SS) (lv : Value) (x : Nat → Int) : splice (s.cells lv) 66 (wvs x 16) = SS.cells { s with va := x } lv := by
  rw [s.e3 lv, SS.e3 { s with va := x } lv]
  exact splice_mid s.a3 (by simp [wvs_length])
theorem SS.e4 (s : SS) (lv : Value) : s.cells lv = ([.int .i64 s.side, .int .i64 s.time] ++ wvs s.pu 16 ++ wvs s.va 16) ++ (ncell s.no ++ (wvs s.he 2 ++ (wv s.bu ++ ([lv])))) := by simp only [SS.cells, List.append_assoc, List.append_nil]
theorem SS.a4 (s : SS) : ([.int .i64 s.side, .int .i64 s.time] ++ wvs s.pu 16 ++ wvs s.va 16 : List Value).length = 130 := by simp [wvs_length, wv_length, ncell_length]
theorem SS.e5 (s : SS) (lv : Value) : s.cells lv = ([.int .i64 s.side, .int .i64 s.time] ++ wvs s.pu 16 ++ wvs s.va 16 ++ ncell s.no) ++ (wvs s.he 2 ++ (wv s.bu ++ ([lv]))) := by simp only [SS.cells, List.append_assoc, List.append_nil]
theorem SS.a5 (s : SS) : ([.int .i64 s.side, .int .i64 s.time] ++ wvs s.pu 16 ++ wvs s.va 16 ++ ncell s.no : List Value).length = 138 := by simp [wvs_length, wv_length, ncell_length]
theorem SS.g5 (s : SS) (lv : Value) : ((s.cells lv).drop 138).take 8 = wvs s.he 2 := by
  rw [s.e5 lv]
  exact take_mid s.a5 (by simp [wvs_length, wv_length])
theorem SS.e6 (s : SS) (lv : Value) : s.cells lv = ([.int .i64 s.side, .int .i64 s.time] ++ wvs s.pu 16 ++ wvs s.va 16 ++ ncell s.no ++ wvs s.he 2) ++ (wv s.bu ++ ([lv])) := by simp only [SS.cells, List.append_assoc, List.append_nil]
theorem SS.a6 (s : SS) : ([.int .i64 s.side, .int .i64 s.time] ++ wvs s.pu 16 ++ wvs s.va 16 ++ ncell s.no ++ wvs s.he 2 : List Value).length = 146 := by simp [wvs_length, wv_length, ncell_length]
theorem SS.g6 (s : SS) (lv : Value) : ((s.cells lv).drop 146).take 4 = wv s.bu := by
  rw [s.e6 lv]
  exact take_mid s.a6 (by simp [wvs_length, wv_length])
theorem SS.s6 (s : SS) (lv : Value) (x : Int) : splice (s.cells lv) 146 (wv x) = SS.cells { s with bu := x } lv := by
  rw [s.e6 lv, SS.e6 { s with bu := x } lv]
  exact splice_mid s.a6 rfl
theorem SS.e7 (s : SS) (lv : Value) : s.cells lv = ([.int .i64 s.side, .int .i64 s.time] ++ wvs s.pu 16 ++ wvs s.va 16 ++ ncell s.no ++ wvs s.he 2 ++ wv s.bu) ++ ([lv] ++ ([])) := by simp only [SS.cells, List.append_assoc, List.append_nil]
theorem SS.a7 (s : SS) : ([.int .i64 s.side, .int .i64 s.time] ++ wvs s.pu 16 ++ wvs s.va 16 ++ ncell s.no ++ wvs s.he 2 ++ wv s.bu : List Value).length = 150 := by simp [wvs_length, wv_length, ncell_length]
theorem SS.s7 (s : SS) (lv x : Value) : splice (s.cells lv) 150 [x] = s.cells x := by
  rw [s.e7 lv, s.e7 x]
  exact splice_mid s.a7 rfl
theorem SS.g7 (s : SS) (lv : Value) : (s.cells lv)[150]? = some lv := by
  rw [s.e7 lv, List.getElem?_append_right (by rw [s.a7]; exact Nat.le_refl _), s.a7]
  rfl
theorem SS.g4 (s : SS) (lv : Value) {i : Nat} (h : i < 8) : (s.cells lv)[130 + i]? = some (.int .i64 (s.no i)) := by
  rw [s.e4 lv, List.getElem?_append_right (by rw [s.a4]; omega), s.a4, List.getElem?_append_left (by rw [ncell_length]; omega), show 130 + i - 130 = i by omega]
  exact tab_get h
theorem splice_in {A B D vs : List Value} {off i : Nat} (ha : A.length = off) (hi : i + vs.length ≤ B.length) : splice (A ++ (B ++ D)) (off + i) vs = A ++ (splice B i vs ++ D) := by
  subst ha
  simp only [splice]
  rw [List.take_append, List.drop_append, List.take_append, List.drop_append]
  rw [List.take_of_length_le (by omega), List.drop_eq_nil_of_le (show A.length ≤ A.length + i + vs.length by omega), show A.length + i - A.length = i by omega, show A.length + i + vs.length - A.length = i + vs.length by omega]
  rw [show i - B.length = 0 by omega, show i + vs.length - B.length = 0 by omega]
  simp
theorem ncell_put (no : Nat → Int) {i : Nat} (h : i < 8) (x : Int) : splice (ncell no) i [.int .i64 x] = ncell (upd no i x) := by
  have h2 := tab_put (g := fun j => Value.int .i64 (no j)) (k := i) (n := 8) (v := .int .i64 x) (off := i) rfl h
  refine h2.trans (tab_same fun j hj => ?_)
  unfold upd
  split <;> rfl
theorem SS.s4 (s : SS) (lv : Value) {i : Nat} (h : i < 8) (x : Int) : splice (s.cells lv) (130 + i) [.int .i64 x] = SS.cells { s with no := upd s.no i x } lv := by
  rw [s.e4 lv, SS.e4 { s with no := upd s.no i x } lv, splice_in s.a4 (by rw [ncell_length]; simp; omega), ncell_put _ h]
theorem SS.g5a (s : SS) (lv : Value) {a : Int} (h0 : 0 ≤ a) (h1 : a ≤ 1) : ((s.cells lv).drop (138 + a.toNat * 4)).take 4 = wv (s.he a.toNat) := by
  have h := s.g5 lv
  have h2 : ((((s.cells lv).drop 138).take 8).drop (a.toNat * 4)).take 4 = ((s.cells lv).drop (138 + a.toNat * 4)).take 4 := by
    rw [List.drop_take, List.drop_drop, List.take_take]
    congr 1
    omega
  rw [← h2, h]
  exact wvs_get (by omega) (by omega)
theorem SS.s5 (s : SS) (lv : Value) {a : Int} (h0 : 0 ≤ a) (h1 : a ≤ 1) (x : Int) : splice (s.cells lv) (138 + a.toNat * 4) (wv x) = SS.cells { s with he := upd s.he a.toNat x } lv := by
  have e := wvs_set (ns := s.he) (x := x) (m := 2) (k := a.toNat) (off := a.toNat * 4) (by omega) (by omega)
  rw [s.e5 lv, SS.e5 { s with he := upd s.he a.toNat x } lv, splice_in s.a5 (by rw [wvs_length]; simp [wv]; omega), e]
section
variable {P : Program} {c : Cx} {l : TL} {H : List Asrt} {Q : Exit → Act → World → Prop} {X : Act → World → Prop} {ty : TypeId} {pos : String} {af : Array Edge}
theorem Qr.ldSide {T n : Nat} {z : List Value} [i : Ty P T false n z] {x : Operand} {b : Nat} {s : SS} {lv : Value} {E : TypeId} (hx : ev l x = some (.pointer (some ⟨b, 0, none⟩))) (hm : In (blk b (s.cells lv) E) H) : Qr P c l H (.load T x) (.int .i64 s.side) := Qr.load1 hx hm (s.g0 lv)
theorem Qr.ldTime {T n : Nat} {z : List Value} [i : Ty P T false n z] {x : Operand} {b : Nat} {s : SS} {lv : Value} {E : TypeId} (hx : ev l x = some (.pointer (some ⟨b, 1, none⟩))) (hm : In (blk b (s.cells lv) E) H) : Qr P c l H (.load T x) (.int .i64 s.time) := Qr.load1 hx hm (s.g1 lv)
theorem Qr.ldLv {T n : Nat} {z : List Value} [i : Ty P T false n z] {x : Operand} {b : Nat} {s : SS} {lv : Value} {E : TypeId} (hx : ev l x = some (.pointer (some ⟨b, 150, none⟩))) (hm : In (blk b (s.cells lv) E) H) : Qr P c l H (.load T x) (lv) := Qr.load1 hx hm (s.g7 lv)
theorem Qr.ldPu {T : Nat} {z : List Value} [i : Ty P T true 64 z] {x : Operand} {b : Nat} {s : SS} {lv : Value} {E : TypeId} (hx : ev l x = some (.pointer (some ⟨b, 2, none⟩))) (hm : In (blk b (s.cells lv) E) H) : Qr P c l H (.load T x) (.agg (wvs s.pu 16).toArray) := Qr.loadN hx hm (s.g2 lv) (by simp [wvs_length, wv_length])
theorem Qr.ldVa {T : Nat} {z : List Value} [i : Ty P T true 64 z] {x : Operand} {b : Nat} {s : SS} {lv : Value} {E : TypeId} (hx : ev l x = some (.pointer (some ⟨b, 66, none⟩))) (hm : In (blk b (s.cells lv) E) H) : Qr P c l H (.load T x) (.agg (wvs s.va 16).toArray) := Qr.loadN hx hm (s.g3 lv) (by simp [wvs_length, wv_length])
theorem Qr.ldBu {T : Nat} {z : List Value} [i : Ty P T true 4 z] {x : Operand} {b : Nat} {s : SS} {lv : Value} {E : TypeId} (hx : ev l x = some (.pointer (some ⟨b, 146, none⟩))) (hm : In (blk b (s.cells lv) E) H) : Qr P c l H (.load T x) (.agg (wv s.bu).toArray) := Qr.loadN hx hm (s.g6 lv) (by simp [wvs_length, wv_length])
theorem Qr.ldHe {T : Nat} {z : List Value} [i : Ty P T true 4 z] {x : Operand} {b : Nat} {s : SS} {lv : Value} {E : TypeId} {a : Int} (hx : ev l x = some (.pointer (some ⟨b, 138 + a.toNat * 4, none⟩))) (hm : In (blk b (s.cells lv) E) H)  (h0 : 0 ≤ a) (h1 : a ≤ 1) : Qr P c l H (.load T x) (.agg (wv (s.he a.toNat)).toArray) := Qr.loadN hx hm (s.g5a lv h0 h1) (by simp [wvs_length, wv_length])
theorem J.stPu {T : Nat} {z : List Value} [i : Ty P T true 64 z] {x y : Operand} {b : Nat} {s : SS} {lv : Value} {E : TypeId} {H' : List Asrt} {p : Nat → Int} (hx : ev l x = some (.pointer (some ⟨b, 2, none⟩))) (hy : ev l y = some (.agg (wvs p 16).toArray)) (hu : Upd (blk b (s.cells lv) E) (blk b (SS.cells { s with pu := p } lv) E) H H') (K : J c l H' X) : J c l H (OW P Q ⟨none, .store T x y, ty, pos, af, none⟩ X) := J.storeN (T := T) hx hy hu (s.s2 lv p) (by simp [wvs_length, wv_length]) (by rw [s.len]; omega) (by first | exact wvs_ones _ _ | rfl) K
theorem J.stVa {T : Nat} {z : List Value} [i : Ty P T true 64 z] {x y : Operand} {b : Nat} {s : SS} {lv : Value} {E : TypeId} {H' : List Asrt} {p : Nat → Int} (hx : ev l x = some (.pointer (some ⟨b, 66, none⟩))) (hy : ev l y = some (.agg (wvs p 16).toArray)) (hu : Upd (blk b (s.cells lv) E) (blk b (SS.cells { s with va := p } lv) E) H H') (K : J c l H' X) : J c l H (OW P Q ⟨none, .store T x y, ty, pos, af, none⟩ X) := J.storeN (T := T) hx hy hu (s.s3 lv p) (by simp [wvs_length, wv_length]) (by rw [s.len]; omega) (by first | exact wvs_ones _ _ | rfl) K
theorem J.stBu {T : Nat} {z : List Value} [i : Ty P T true 4 z] {x y : Operand} {b : Nat} {s : SS} {lv : Value} {E : TypeId} {H' : List Asrt} {p : Int} (hx : ev l x = some (.pointer (some ⟨b, 146, none⟩))) (hy : ev l y = some (.agg (wv p).toArray)) (hu : Upd (blk b (s.cells lv) E) (blk b (SS.cells { s with bu := p } lv) E) H H') (K : J c l H' X) : J c l H (OW P Q ⟨none, .store T x y, ty, pos, af, none⟩ X) := J.storeN (T := T) hx hy hu (s.s6 lv p) (by simp [wvs_length, wv_length]) (by rw [s.len]; omega) (by first | exact wvs_ones _ _ | rfl) K
theorem J.stHe {T : Nat} {z : List Value} [i : Ty P T true 4 z] {x y : Operand} {b : Nat} {s : SS} {lv : Value} {E : TypeId} {H' : List Asrt} {a p : Int} (h0 : 0 ≤ a) (h1 : a ≤ 1) (hx : ev l x = some (.pointer (some ⟨b, 138 + a.toNat * 4, none⟩))) (hy : ev l y = some (.agg (wv p).toArray)) (hu : Upd (blk b (s.cells lv) E) (blk b (SS.cells { s with he := upd s.he a.toNat p } lv) E) H H') (K : J c l H' X) : J c l H (OW P Q ⟨none, .store T x y, ty, pos, af, none⟩ X) := J.storeN (T := T) hx hy hu (s.s5 lv h0 h1 p) (by simp [wvs_length, wv_length]) (by rw [s.len]; omega) (by first | exact wvs_ones _ _ | rfl) K
theorem J.stTime {T : Nat} {z : List Value} [i : Ty P T false 1 z] {x y : Operand} {b : Nat} {s : SS} {lv : Value} {E : TypeId} {H' : List Asrt} {p : Int} (hx : ev l x = some (.pointer (some ⟨b, 1, none⟩))) (hy : ev l y = some (.int .i64 p)) (hu : Upd (blk b (s.cells lv) E) (blk b (SS.cells { s with time := p } lv) E) H H') (K : J c l H' X) : J c l H (OW P Q ⟨none, .store T x y, ty, pos, af, none⟩ X) := J.store1 (T := T) hx hy rfl hu (s.s1 lv p) (by rw [s.len]; omega) K
theorem J.stLv {T : Nat} {z : List Value} [i : Ty P T false 1 z] {x y : Operand} {b : Nat} {s : SS} {lv : Value} {E : TypeId} {H' : List Asrt} {ao : Option Addr} {n cap : Nat} (hx : ev l x = some (.pointer (some ⟨b, 150, none⟩))) (hy : ev l y = some (.slice ao n cap)) (hu : Upd (blk b (s.cells lv) E) (blk b (s.cells (.slice ao n cap)) E) H H') (K : J c l H' X) : J c l H (OW P Q ⟨none, .store T x y, ty, pos, af, none⟩ X) := J.store1 (T := T) hx hy rfl hu (s.s7 lv _) (by rw [s.len]; omega) K
end
end Go.Proofs.YtljbedladifgmaaGreat.Ss
namespace Go.Proofs.YtljbedladifgmaaGreat.Esc
open Go Go.RowKit Eng
set_option linter.unusedVariables false
set_option maxRecDepth 100000
set_option linter.unusedSimpArgs false
open Wide Purse Tx Sha Ss
set_option maxHeartbeats 1000000
theorem check_ (e : Int) (w : World) (hw : True) : CSpec Tryz.prog 111 [.int .i64 e] [] w (RE e (.tuple #[]) []) := by
  refine spec_own0 Tryz.func111 rfl Tryz.ntmps111 rfl (l0 := [(0, .int .i64 e)]) rfl ?_
  repeat' first
    | (with_reducible first | apply J.then_panic | apply J.blk_panic | apply J.sco_panic)
    | ((with_reducible apply J.panic); exact rfl)
    | (refine J.qv ?_; (with_reducible apply exq); focus (first
      | ((with_reducible apply Qv.mkIface (f := 0)); exact rfl)))
    | ((with_reducible apply J.panicOp); exact rfl)
    | refine J.one ?_
    | refine J.loudS ?_
    | (refine J.loudQ ?_; intro _ _)
    | (refine J.loudB ?_; intro _)
    | (with_reducible apply J.list)
    | ((with_reducible apply J.gsplit); exact rfl; exact rfl)
    | ((with_reducible first | apply J.cond | apply JC.cond); exact rfl)
    | (intro h; exfalso; fail)
    | (intro h; (try simp only [decide_eq_true_eq, decide_eq_false_iff_not, beq_iff_eq, beq_eq_false_iff_ne, Bool.not_eq_true', Bool.not_eq_false', bne_iff_ne, bne_eq_false_iff_eq, ne_eq, ge_iff_le, gt_iff_lt] at h))
    | (with_reducible apply J.gave')
    | ((with_reducible apply J.kept'); rotate_left; (first | exact outs_au | fail))
  all_goals
    first
    | ((with_reducible apply J.fine); assumption; exact rfl; (first | exact outs_au | fail))
    | ((with_reducible apply J.stops); assumption; exact rfl)
    | ((with_reducible apply J.stops0); assumption; exact rfl)
    | (trace_state; fail)
theorem need_ (b : Bool) (e : Int) (w : World) (hw : e ≠ 0) : CSpec Tryz.prog 139 [.bool b, .int .i64 e] [] w (RE (if b = true then 0 else e) (.tuple #[]) []) := by
  refine spec_own0 Tryz.func139 rfl Tryz.ntmps139 rfl (l0 := [(0, .bool b), (1, .int .i64 e)]) rfl ?_
  repeat' first
    | (with_reducible first | apply J.then_panic | apply J.blk_panic | apply J.sco_panic)
    | ((with_reducible apply J.panic); exact rfl)
    | (refine J.qv ?_; (with_reducible apply exq); focus (first
      | ((with_reducible apply Qv.mkIface (f := 0)); exact rfl)))
    | ((with_reducible apply J.panicOp); exact rfl)
    | refine J.one ?_
    | refine J.loudS ?_
    | (refine J.loudQ ?_; intro _ _)
    | (refine J.loudB ?_; intro _)
    | (with_reducible apply J.list)
    | ((with_reducible apply J.gsplit); exact rfl; exact rfl)
    | ((with_reducible first | apply J.cond | apply JC.cond); exact rfl)
    | (intro h; exfalso; fail)
    | (intro h; (try simp only [decide_eq_true_eq, decide_eq_false_iff_not, beq_iff_eq, beq_eq_false_iff_ne, Bool.not_eq_true', Bool.not_eq_false', bne_iff_ne, bne_eq_false_iff_eq, ne_eq, ge_iff_le, gt_iff_lt] at h))
    | (with_reducible apply J.gave')
    | ((with_reducible apply J.kept'); rotate_left; (first | exact outs_au | fail))
  all_goals
    first
    | ((with_reducible apply J.fine); exact if_pos (by assumption); exact rfl; (first | exact outs_au | fail))
    | ((with_reducible apply J.fine); (simp [*]; done); exact rfl; (first | exact outs_au | fail))
    | ((with_reducible apply J.stops0); (focus (simp [*]; done)); (focus (simp [*]; done)))
    | (trace_state; fail)
theorem needP_ (p : Prop) (dp : Decidable p) (e : Int) (w : World) (hw : e ≠ 0) : CSpec Tryz.prog 139 [.bool (decide p), .int .i64 e] [] w (RE (if p then 0 else e) (.tuple #[]) []) := by
  have h := need_ (decide p) e w hw
  by_cases hp : p <;> simpa [hp] using h
theorem take_ (b off : Nat) (C : List Value) (ns : Nat → Int) (a s x : Int) (w : World) (hw : (C.drop off).take 64 = wvs ns 16 ∧ C.length = 151 ∧ off ≤ 80 ∧ (∀ j, Wd (ns j)) ∧ Wd x) : CSpec Tryz.prog 136 [.pointer (some ⟨b, off, none⟩), .int .i64 a, .int .i64 s, .agg (wv x).toArray] [blk b C 34] w (RE (tkR ns a s x).2 (.tuple #[]) [blk b (splice C off (wvs (tkR ns a s x).1 16)) 34]) := by
  obtain ⟨hC, hl, ho, hws, hx⟩ := hw
  refine spec_of Tryz.func136 rfl Tryz.ntmps136 rfl (l0 := [(0, .pointer (some ⟨b, off, none⟩)), (1, .int .i64 a), (2, .int .i64 s), (3, .agg (wv x).toArray)]) rfl ?_
  intro fp
  repeat' first
    | (with_reducible first | apply J.then_panic | apply J.blk_panic | apply J.sco_panic)
    | ((with_reducible apply J.panic); exact rfl)
    | (refine J.qr ?_; (with_reducible apply exq); focus (first
      | ((with_reducible apply Qr.loadFull); exact rfl; (first | exact in_au | fail); (exact wvs_length _ _))
      | ((with_reducible apply Qr.loadN); exact rfl; (first | exact in_au | fail); exact hC; exact wvs_length _ _)))
    | (refine J.qo ?_; refine ⟨?_, ?_⟩; focus (first
      | ((with_reducible apply Qr.loadFull); exact rfl; (first | exact in_au | fail); (exact wvs_length _ _))
      | ((with_reducible apply Qr.loadN); exact rfl; (first | exact in_au | fail); exact hC; exact wvs_length _ _)))
    | ((with_reducible apply J.storeFull); exact rfl; exact rfl; (repeat (first | with_reducible exact Upd.here | with_reducible apply Upd.there)); (exact wvs_length _ _); (focus (first | exact wvs_length _ _ | kernel_rfl)); (exact wvs_ones _ _))
    | ((with_reducible apply J.storeN); exact rfl; exact rfl; (repeat (first | with_reducible exact Upd.here | with_reducible apply Upd.there)); exact rfl; exact wvs_length _ _; (focus (rw [hl]; omega)); exact wvs_ones _ _)
    | ((with_reducible apply J.givesP (take _ _ _ _)); exact rfl; exact rfl; exact ⟨hws, hx⟩)
    | ((with_reducible apply J.retER (check_ _)); exact rfl; exact rfl; exact RH.of trivial)
    | refine J.one ?_
    | refine J.loudS ?_
    | (refine J.loudQ ?_; intro _ _)
    | (refine J.loudB ?_; intro _)
    | (with_reducible apply J.list)
    | ((with_reducible apply J.draw (id := 1) [0, 1, 3, 0, 0, 0, 63, 127, 255, 255, 0, 1535, 4095] (.p 0 (.p 1 (.q 2 (.p 3 (.p 4 (.q 5 (.x 6 (.p 7 (.p 8 (.p 9 (.x 10 (.x 11 (.p 12 .nil) .none) .none)))) (.x 10 (.x 6 (.p 7 (.p 8 (.p 9 (.x 11 (.p 12 .nil) .none)))) .none) .none)))))))) (by kernel_rfl) ?_ (by kernel_rfl) ?_); (repeat (with_reducible first | exact PanicFree.body | exact PanicFree.np | exact PanicFree.lvS | apply PanicFree.then_ | apply PanicFree.blk)))
    | ((with_reducible apply J.pl2); exact rfl; (first | exact Gd.none | ((with_reducible apply Gd.on); exact rfl; exact rfl)); (first | exact pend_au | fail))
    | ((with_reducible apply J.pl2_off); exact rfl; ((with_reducible apply Gd.off); exact rfl; exact rfl; exact rfl); exact rfl; (first | exact pend_au | fail))
    | ((with_reducible apply J.pl2_off_none); exact rfl; ((with_reducible apply Gd.off); exact rfl; exact rfl; exact rfl); (first | exact pend_au | fail))
    | ((with_reducible first | apply J.psplit0 | apply J.psplit1 | apply J.psplit2); exact rfl; exact rfl; exact rfl)
    | (with_reducible exact J.pl_none)
    | ((with_reducible apply J.gsplit); exact rfl; exact rfl)
    | ((with_reducible first | apply J.cond | apply JC.cond); exact rfl)
    | (intro h; exfalso; fail)
    | (intro h; (try simp only [decide_eq_true_eq, decide_eq_false_iff_not, beq_iff_eq, beq_eq_false_iff_ne, Bool.not_eq_true', Bool.not_eq_false', bne_iff_ne, bne_eq_false_iff_eq, ne_eq, ge_iff_le, gt_iff_lt] at h))
    | (with_reducible apply J.gave')
    | ((with_reducible apply J.kept'); rotate_left; (first | exact outs_au | fail))
  all_goals
    first
    | ((with_reducible apply J.fine); assumption; exact rfl; (first | exact outs_au | fail))
    | ((with_reducible apply J.stops); assumption; exact rfl)
    | ((with_reducible apply J.stops0); assumption; exact rfl)
    | (trace_state; fail)
theorem put_ (b off : Nat) (C : List Value) (ns : Nat → Int) (a s x : Int) (w : World) (hw : (C.drop off).take 64 = wvs ns 16 ∧ C.length = 151 ∧ off ≤ 80 ∧ (∀ j, Wd (ns j)) ∧ Wd x) : CSpec Tryz.prog 137 [.pointer (some ⟨b, off, none⟩), .int .i64 a, .int .i64 s, .agg (wv x).toArray] [blk b C 34] w (RE (gvR ns a s x).2 (.tuple #[]) [blk b (splice C off (wvs (gvR ns a s x).1 16)) 34]) := by
  obtain ⟨hC, hl, ho, hws, hx⟩ := hw
  refine spec_of Tryz.func137 rfl Tryz.ntmps137 rfl (l0 := [(0, .pointer (some ⟨b, off, none⟩)), (1, .int .i64 a), (2, .int .i64 s), (3, .agg (wv x).toArray)]) rfl ?_
  intro fp
  repeat' first
    | (with_reducible first | apply J.then_panic | apply J.blk_panic | apply J.sco_panic)
    | ((with_reducible apply J.panic); exact rfl)
    | (refine J.qr ?_; (with_reducible apply exq); focus (first
      | ((with_reducible apply Qr.loadFull); exact rfl; (first | exact in_au | fail); (exact wvs_length _ _))
      | ((with_reducible apply Qr.loadN); exact rfl; (first | exact in_au | fail); exact hC; exact wvs_length _ _)))
    | (refine J.qo ?_; refine ⟨?_, ?_⟩; focus (first
      | ((with_reducible apply Qr.loadFull); exact rfl; (first | exact in_au | fail); (exact wvs_length _ _))
      | ((with_reducible apply Qr.loadN); exact rfl; (first | exact in_au | fail); exact hC; exact wvs_length _ _)))
    | ((with_reducible apply J.storeFull); exact rfl; exact rfl; (repeat (first | with_reducible exact Upd.here | with_reducible apply Upd.there)); (exact wvs_length _ _); (focus (first | exact wvs_length _ _ | kernel_rfl)); (exact wvs_ones _ _))
    | ((with_reducible apply J.storeN); exact rfl; exact rfl; (repeat (first | with_reducible exact Upd.here | with_reducible apply Upd.there)); exact rfl; exact wvs_length _ _; (focus (rw [hl]; omega)); exact wvs_ones _ _)
    | ((with_reducible apply J.givesP (give _ _ _ _)); exact rfl; exact rfl; exact ⟨hws, hx⟩)
    | ((with_reducible apply J.retER (check_ _)); exact rfl; exact rfl; exact RH.of trivial)
    | refine J.one ?_
    | refine J.loudS ?_
    | (refine J.loudQ ?_; intro _ _)
    | (refine J.loudB ?_; intro _)
    | (with_reducible apply J.list)
    | ((with_reducible apply J.draw (id := 1) [0, 1, 3, 0, 0, 0, 63, 127, 255, 255, 0, 1535, 4095] (.p 0 (.p 1 (.q 2 (.p 3 (.p 4 (.q 5 (.x 6 (.p 7 (.p 8 (.p 9 (.x 10 (.x 11 (.p 12 .nil) .none) .none)))) (.x 10 (.x 6 (.p 7 (.p 8 (.p 9 (.x 11 (.p 12 .nil) .none)))) .none) .none)))))))) (by kernel_rfl) ?_ (by kernel_rfl) ?_); (repeat (with_reducible first | exact PanicFree.body | exact PanicFree.np | exact PanicFree.lvS | apply PanicFree.then_ | apply PanicFree.blk)))
    | ((with_reducible apply J.pl2); exact rfl; (first | exact Gd.none | ((with_reducible apply Gd.on); exact rfl; exact rfl)); (first | exact pend_au | fail))
    | ((with_reducible apply J.pl2_off); exact rfl; ((with_reducible apply Gd.off); exact rfl; exact rfl; exact rfl); exact rfl; (first | exact pend_au | fail))
    | ((with_reducible apply J.pl2_off_none); exact rfl; ((with_reducible apply Gd.off); exact rfl; exact rfl; exact rfl); (first | exact pend_au | fail))
    | ((with_reducible first | apply J.psplit0 | apply J.psplit1 | apply J.psplit2); exact rfl; exact rfl; exact rfl)
    | (with_reducible exact J.pl_none)
    | ((with_reducible apply J.gsplit); exact rfl; exact rfl)
    | ((with_reducible first | apply J.cond | apply JC.cond); exact rfl)
    | (intro h; exfalso; fail)
    | (intro h; (try simp only [decide_eq_true_eq, decide_eq_false_iff_not, beq_iff_eq, beq_eq_false_iff_ne, Bool.not_eq_true', Bool.not_eq_false', bne_iff_ne, bne_eq_false_iff_eq, ne_eq, ge_iff_le, gt_iff_lt] at h))
    | (with_reducible apply J.gave')
    | ((with_reducible apply J.kept'); rotate_left; (first | exact outs_au | fail))
  all_goals
    first
    | ((with_reducible apply J.fine); assumption; exact rfl; (first | exact outs_au | fail))
    | ((with_reducible apply J.stops); assumption; exact rfl)
    | ((with_reducible apply J.stops0); assumption; exact rfl)
    | (trace_state; fail)
/-- More is held; less is held. -/
abbrev holdS (s : SS) (a : Int) (x : Int) : SS := { s with he := upd s.he a.toNat (wadd (s.he a.toNat) x) }
abbrev freeS (s : SS) (a : Int) (x : Int) : SS := { s with he := upd s.he a.toNat (wsub (s.he a.toNat) x) }
theorem hold_ (b : Nat) (s : SS) (lv : Value) (a x : Int) (w : World) (hw : 0 ≤ a ∧ a ≤ 1 ∧ (∀ j, Wd (s.he j)) ∧ Wd x) : CSpec Tryz.prog 138 [.pointer (some ⟨b, 0, none⟩), .int .i64 a, .agg (wv x).toArray] [blk b (s.cells lv) 34] w (RE (if (s.he a.toNat + x < 115792089237316195423570985008687907853269984665640564039457584007913129639936) then 0 else 38) (.tuple #[]) [blk b ((holdS s a x).cells lv) 34]) := by
  obtain ⟨h0, h1, hws, hx⟩ := hw
  refine spec_of Tryz.func138 rfl Tryz.ntmps138 rfl (l0 := [(0, .pointer (some ⟨b, 0, none⟩)), (1, .int .i64 a), (2, .agg (wv x).toArray)]) rfl ?_
  intro fp
  repeat' first
    | (with_reducible first | apply J.then_panic | apply J.blk_panic | apply J.sco_panic)
    | ((with_reducible apply J.panic); exact rfl)
    | (refine J.qv ?_; (with_reducible apply exq); focus (first
      | ((with_reducible apply Qv.indexArr); exact rfl; exact rfl; (constructor <;> omega); exact rfl)))
    | (refine J.qr ?_; (with_reducible apply exq); focus (first
      | ((with_reducible apply Qr.ldHe); exact rfl; (first | exact in_au | fail); exact h0; exact h1)))
    | (refine J.qo ?_; refine ⟨?_, ?_⟩; focus (first
      | ((with_reducible apply Qr.ldHe); exact rfl; (first | exact in_au | fail); exact h0; exact h1)))
    | ((with_reducible apply J.stHe h0 h1); exact rfl; exact rfl; (repeat (first | with_reducible exact Upd.here | with_reducible apply Upd.there)))
    | ((with_reducible apply J.givesP (add _ _)); exact rfl; exact rfl; exact ⟨hws _, hx⟩)
    | ((with_reducible apply J.retER (needP_ _ _ _)); exact rfl; exact rfl; exact RH.of (by decide))
    | refine J.one ?_
    | refine J.loudS ?_
    | (refine J.loudQ ?_; intro _ _)
    | (refine J.loudB ?_; intro _)
    | (with_reducible apply J.list)
    | ((with_reducible apply J.draw (id := 1) [0, 0, 1, 5, 15, 31, 0, 127, 255, 511, 511, 0, 3071, 8191] (.p 0 (.p 1 (.p 2 (.p 3 (.p 4 (.q 5 (.q 6 (.x 7 (.p 8 (.p 9 (.p 10 (.x 11 (.x 12 (.p 13 .nil) .none) .none)))) (.x 11 (.x 7 (.p 8 (.p 9 (.p 10 (.x 12 (.p 13 .nil) .none)))) .none) .none))))))))) (by kernel_rfl) ?_ (by kernel_rfl) ?_); (repeat (with_reducible first | exact PanicFree.body | exact PanicFree.np | exact PanicFree.lvS | apply PanicFree.then_ | apply PanicFree.blk)))
    | ((with_reducible apply J.draw (id := 3) [0, 0, 0, 1, 9, 31, 63] (.p 0 (.p 1 (.q 2 (.p 3 (.p 4 (.p 5 (.x 6 .nil .none))))))) (by kernel_rfl) ?_ (by kernel_rfl) ?_); (repeat (with_reducible first | exact PanicFree.body | exact PanicFree.np | exact PanicFree.lvS | apply PanicFree.then_ | apply PanicFree.blk)))
    | ((with_reducible apply J.pl2); exact rfl; (first | exact Gd.none | ((with_reducible apply Gd.on); exact rfl; exact rfl)); (first | exact pend_au | fail))
    | ((with_reducible apply J.pl2_off); exact rfl; ((with_reducible apply Gd.off); exact rfl; exact rfl; exact rfl); exact rfl; (first | exact pend_au | fail))
    | ((with_reducible apply J.pl2_off_none); exact rfl; ((with_reducible apply Gd.off); exact rfl; exact rfl; exact rfl); (first | exact pend_au | fail))
    | ((with_reducible first | apply J.psplit0 | apply J.psplit1 | apply J.psplit2); exact rfl; exact rfl; exact rfl)
    | (with_reducible exact J.pl_none)
    | ((with_reducible apply J.gsplit); exact rfl; exact rfl)
    | ((with_reducible first | apply J.cond | apply JC.cond); exact rfl)
    | (intro h; exfalso; fail)
    | (intro h; (try simp only [decide_eq_true_eq, decide_eq_false_iff_not, beq_iff_eq, beq_eq_false_iff_ne, Bool.not_eq_true', Bool.not_eq_false', bne_iff_ne, bne_eq_false_iff_eq, ne_eq, ge_iff_le, gt_iff_lt] at h))
    | (with_reducible apply J.gave')
    | ((with_reducible apply J.kept'); rotate_left; (first | exact outs_au | fail))
  all_goals
    first
    | ((with_reducible apply J.fine); assumption; exact rfl; (first | exact outs_au | fail))
    | ((with_reducible apply J.stops); assumption; exact rfl)
    | ((with_reducible apply J.stops0); assumption; exact rfl)
    | (trace_state; fail)
theorem free_ (b : Nat) (s : SS) (lv : Value) (a x : Int) (w : World) (hw : 0 ≤ a ∧ a ≤ 1 ∧ (∀ j, Wd (s.he j)) ∧ Wd x) : CSpec Tryz.prog 141 [.pointer (some ⟨b, 0, none⟩), .int .i64 a, .agg (wv x).toArray] [blk b (s.cells lv) 34] w (RE (if (x ≤ s.he a.toNat) then 0 else 38) (.tuple #[]) [blk b ((freeS s a x).cells lv) 34]) := by
  obtain ⟨h0, h1, hws, hx⟩ := hw
  refine spec_of Tryz.func141 rfl Tryz.ntmps141 rfl (l0 := [(0, .pointer (some ⟨b, 0, none⟩)), (1, .int .i64 a), (2, .agg (wv x).toArray)]) rfl ?_
  intro fp
  repeat' first
    | (with_reducible first | apply J.then_panic | apply J.blk_panic | apply J.sco_panic)
    | ((with_reducible apply J.panic); exact rfl)
    | (refine J.qv ?_; (with_reducible apply exq); focus (first
      | ((with_reducible apply Qv.indexArr); exact rfl; exact rfl; (constructor <;> omega); exact rfl)))
    | (refine J.qr ?_; (with_reducible apply exq); focus (first
      | ((with_reducible apply Qr.ldHe); exact rfl; (first | exact in_au | fail); exact h0; exact h1)))
    | (refine J.qo ?_; refine ⟨?_, ?_⟩; focus (first
      | ((with_reducible apply Qr.ldHe); exact rfl; (first | exact in_au | fail); exact h0; exact h1)))
    | ((with_reducible apply J.stHe h0 h1); exact rfl; exact rfl; (repeat (first | with_reducible exact Upd.here | with_reducible apply Upd.there)))
    | ((with_reducible apply J.givesP (sub _ _)); exact rfl; exact rfl; exact ⟨hws _, hx⟩)
    | ((with_reducible apply J.retER (needP_ _ _ _)); exact rfl; exact rfl; exact RH.of (by decide))
    | refine J.one ?_
    | refine J.loudS ?_
    | (refine J.loudQ ?_; intro _ _)
    | (refine J.loudB ?_; intro _)
    | (with_reducible apply J.list)
    | ((with_reducible apply J.draw (id := 1) [0, 0, 1, 5, 15, 31, 0, 127, 255, 511, 511, 0, 3071, 8191] (.p 0 (.p 1 (.p 2 (.p 3 (.p 4 (.q 5 (.q 6 (.x 7 (.p 8 (.p 9 (.p 10 (.x 11 (.x 12 (.p 13 .nil) .none) .none)))) (.x 11 (.x 7 (.p 8 (.p 9 (.p 10 (.x 12 (.p 13 .nil) .none)))) .none) .none))))))))) (by kernel_rfl) ?_ (by kernel_rfl) ?_); (repeat (with_reducible first | exact PanicFree.body | exact PanicFree.np | exact PanicFree.lvS | apply PanicFree.then_ | apply PanicFree.blk)))
    | ((with_reducible apply J.draw (id := 3) [0, 0, 0, 1, 9, 31, 63] (.p 0 (.p 1 (.q 2 (.p 3 (.p 4 (.p 5 (.x 6 .nil .none))))))) (by kernel_rfl) ?_ (by kernel_rfl) ?_); (repeat (with_reducible first | exact PanicFree.body | exact PanicFree.np | exact PanicFree.lvS | apply PanicFree.then_ | apply PanicFree.blk)))
    | ((with_reducible apply J.pl2); exact rfl; (first | exact Gd.none | ((with_reducible apply Gd.on); exact rfl; exact rfl)); (first | exact pend_au | fail))
    | ((with_reducible apply J.pl2_off); exact rfl; ((with_reducible apply Gd.off); exact rfl; exact rfl; exact rfl); exact rfl; (first | exact pend_au | fail))
    | ((with_reducible apply J.pl2_off_none); exact rfl; ((with_reducible apply Gd.off); exact rfl; exact rfl; exact rfl); (first | exact pend_au | fail))
    | ((with_reducible first | apply J.psplit0 | apply J.psplit1 | apply J.psplit2); exact rfl; exact rfl; exact rfl)
    | (with_reducible exact J.pl_none)
    | ((with_reducible apply J.gsplit); exact rfl; exact rfl)
    | ((with_reducible first | apply J.cond | apply JC.cond); exact rfl)
    | (intro h; exfalso; fail)
    | (intro h; (try simp only [decide_eq_true_eq, decide_eq_false_iff_not, beq_iff_eq, beq_eq_false_iff_ne, Bool.not_eq_true', Bool.not_eq_false', bne_iff_ne, bne_eq_false_iff_eq, ne_eq, ge_iff_le, gt_iff_lt] at h))
    | (with_reducible apply J.gave')
    | ((with_reducible apply J.kept'); rotate_left; (first | exact outs_au | fail))
  all_goals
    first
    | ((with_reducible apply J.fine); assumption; exact rfl; (first | exact outs_au | fail))
    | ((with_reducible apply J.stops); assumption; exact rfl)
    | ((with_reducible apply J.stops0); assumption; exact rfl)
    | (trace_state; fail)
end Go.Proofs.YtljbedladifgmaaGreat.Esc
namespace Go.Proofs.YtljbedladifgmaaGreat.Vau
open Go Go.RowKit Eng
set_option linter.unusedVariables false
set_option maxRecDepth 100000
set_option linter.unusedSimpArgs false
open Wide Purse Tx Sha Ss Esc Deal Mss Ots Hash Bytes
set_option maxHeartbeats 1000000
theorem needE_ (x c e : Int) (w : World) (hw : e ≠ 0) : CSpec Tryz.prog 139 [.bool (x == c), .int .i64 e] [] w (RE (if x = c then 0 else e) (.tuple #[]) []) := by
  have h := need_ (x == c) e w hw
  by_cases hp : x = c <;> simpa [hp] using h
abbrev vaultS (s : SS) (r a x : Int) : SS := { s with va := (tkR s.va r a x).1 }
theorem vault_ (b : Nat) (s : SS) (lv : Value) (r a x : Int) (w : World) (hw : (∀ j, Wd (s.va j)) ∧ Wd x) : CSpec Tryz.prog 140 [.pointer (some ⟨b, 0, none⟩), .int .i64 r, .int .i64 a, .agg (wv x).toArray] [blk b (s.cells lv) 34] w (RE (if (tkR s.va r a x).2 = 0 then 0 else 31) (.tuple #[]) [blk b ((vaultS s r a x).cells lv) 34]) := by
  obtain ⟨hws, hx⟩ := hw
  refine spec_of Tryz.func140 rfl Tryz.ntmps140 rfl (l0 := [(0, .pointer (some ⟨b, 0, none⟩)), (1, .int .i64 r), (2, .int .i64 a), (3, .agg (wv x).toArray)]) rfl ?_
  intro fp
  repeat' first
    | (with_reducible first | apply J.then_panic | apply J.blk_panic | apply J.sco_panic)
    | ((with_reducible apply J.panic); exact rfl)
    | (refine J.qr ?_; (with_reducible apply exq); focus (first
      | ((with_reducible apply Qr.loadFull); exact rfl; (first | exact in_au | fail); (exact wvs_length _ _))
      | ((with_reducible apply Qr.ldVa); exact rfl; (first | exact in_au | fail))))
    | (refine J.qo ?_; refine ⟨?_, ?_⟩; focus (first
      | ((with_reducible apply Qr.loadFull); exact rfl; (first | exact in_au | fail); (exact wvs_length _ _))
      | ((with_reducible apply Qr.ldVa); exact rfl; (first | exact in_au | fail))))
    | ((with_reducible apply J.storeFull); exact rfl; exact rfl; (repeat (first | with_reducible exact Upd.here | with_reducible apply Upd.there)); (exact wvs_length _ _); (focus (first | exact wvs_length _ _ | kernel_rfl)); (exact wvs_ones _ _))
    | ((with_reducible apply J.stVa); exact rfl; exact rfl; (repeat (first | with_reducible exact Upd.here | with_reducible apply Upd.there)))
    | ((with_reducible apply J.givesP (take _ _ _ _)); exact rfl; exact rfl; exact ⟨hws, hx⟩)
    | ((with_reducible apply J.retER (needE_ _ _ _)); exact rfl; exact rfl; exact RH.of (by decide))
    | refine J.one ?_
    | refine J.loudS ?_
    | (refine J.loudQ ?_; intro _ _)
    | (refine J.loudB ?_; intro _)
    | (with_reducible apply J.list)
    | ((with_reducible apply J.draw (id := 1) [0, 1, 3, 7, 0, 0, 0, 127, 255, 511, 511, 0, 3071, 8191] (.p 0 (.p 1 (.p 2 (.q 3 (.p 4 (.p 5 (.q 6 (.x 7 (.p 8 (.p 9 (.p 10 (.x 11 (.x 12 (.p 13 .nil) .none) .none)))) (.x 11 (.x 7 (.p 8 (.p 9 (.p 10 (.x 12 (.p 13 .nil) .none)))) .none) .none))))))))) (by kernel_rfl) ?_ (by kernel_rfl) ?_); (repeat (with_reducible first | exact PanicFree.body | exact PanicFree.np | exact PanicFree.lvS | apply PanicFree.then_ | apply PanicFree.blk)))
    | ((with_reducible apply J.pl2); exact rfl; (first | exact Gd.none | ((with_reducible apply Gd.on); exact rfl; exact rfl)); (first | exact pend_au | fail))
    | ((with_reducible apply J.pl2_off); exact rfl; ((with_reducible apply Gd.off); exact rfl; exact rfl; exact rfl); exact rfl; (first | exact pend_au | fail))
    | ((with_reducible apply J.pl2_off_none); exact rfl; ((with_reducible apply Gd.off); exact rfl; exact rfl; exact rfl); (first | exact pend_au | fail))
    | ((with_reducible first | apply J.psplit0 | apply J.psplit1 | apply J.psplit2); exact rfl; exact rfl; exact rfl)
    | (with_reducible exact J.pl_none)
    | ((with_reducible apply J.gsplit); exact rfl; exact rfl)
    | ((with_reducible first | apply J.cond | apply JC.cond); exact rfl)
    | (intro h; exfalso; fail)
    | (intro h; (try simp only [decide_eq_true_eq, decide_eq_false_iff_not, beq_iff_eq, beq_eq_false_iff_ne, Bool.not_eq_true', Bool.not_eq_false', bne_iff_ne, bne_eq_false_iff_eq, ne_eq, ge_iff_le, gt_iff_lt] at h))
    | (with_reducible apply J.gave')
    | ((with_reducible apply J.kept'); rotate_left; (first | exact outs_au | fail))
  all_goals
    first
    | ((with_reducible apply J.fine); assumption; exact rfl; (first | exact outs_au | fail))
    | ((with_reducible apply J.stops); assumption; exact rfl)
    | ((with_reducible apply J.stops0); assumption; exact rfl)
    | (trace_state; fail)
/-- A lock. -/
structure Lk where
  key : List UInt8
  dig : List UInt8
  st : Int
def Lk.cells (k : Lk) : List Value := [str k.key, str k.dig, .int .i64 k.st]
def lk0 : Lk := ⟨[], [], 0⟩
def lcs (L : List Lk) : List Value := (L.map Lk.cells).flatten
theorem lcs_length : ∀ L : List Lk, (lcs L).length = L.length * 3
  | [] => rfl
  | k :: L => by
    have h := lcs_length L
    unfold lcs at h ⊢
    rw [List.map_cons, List.flatten_cons, List.length_append, h]
    simp [Lk.cells]
    omega
theorem lcs_at : ∀ {L : List Lk} {i : Nat}, i < L.length → ((lcs L).drop (i * 3)).take 3 = (L.getD i lk0).cells
  | k :: L, 0, _ => by simp [lcs, Lk.cells]
  | k :: L, i + 1, h => by
    have h2 := lcs_at (L := L) (i := i) (by simpa using h)
    have e : (lcs (k :: L)).drop ((i + 1) * 3) = (lcs L).drop (i * 3) := by
      rw [show (i + 1) * 3 = 3 + i * 3 by omega, ← List.drop_drop]
      rfl
    rw [e, h2]
    rfl
theorem lcs_ones : ∀ L : List Lk, (lcs L).all (·.oneCell') = true
  | [] => rfl
  | k :: L => by
    have h := lcs_ones L
    unfold lcs at h ⊢
    rw [List.map_cons, List.flatten_cons, List.all_append, h]
    rfl
/-- Which lock is the first one of a key; -1: none. -/
abbrev plc (L : List Lk) (key : List UInt8) : Int := findI (fun i => decide ((L.getD i lk0).key = key)) L.length
theorem place1 (k : Lk) (B : Nat) (key : List UInt8) (w : World) (hw : Rd w (some ⟨B, 0, none⟩) [str key]) : CSpec Tryz.prog 96 [.agg k.cells.toArray, .pointer (some ⟨B, 0, none⟩)] [] w (Gives (.bool (decide (k.key = key)))) := by
  have hr := hw
  refine spec_own0 Tryz.func96 rfl Tryz.ntmps96 rfl (l0 := [(0, .agg k.cells.toArray), (1, .pointer (some ⟨B, 0, none⟩))]) rfl ?_
  repeat' first
    | (refine J.qr ?_; (with_reducible apply exq); focus (first
      | ((with_reducible apply Qr.rd1 (ao := some ⟨B, 0, none⟩) (C := [str key]) (j := 0)); exact rfl; exact RH.old hr; exact rfl)))
    | refine J.one ?_
    | refine J.loudS ?_
    | (refine J.loudQ ?_; intro _ _)
    | (refine J.loudB ?_; intro _)
    | (with_reducible apply J.list)
    | ((with_reducible apply J.gsplit); exact rfl; exact rfl)
    | ((with_reducible first | apply J.cond | apply JC.cond); exact rfl)
    | (intro h; exfalso; fail)
    | (intro h; (try simp only [decide_eq_true_eq, decide_eq_false_iff_not, beq_iff_eq, beq_eq_false_iff_ne, Bool.not_eq_true', Bool.not_eq_false', bne_iff_ne, bne_eq_false_iff_eq, ne_eq, ge_iff_le, gt_iff_lt] at h))
    | (with_reducible apply J.gave')
    | ((with_reducible apply J.kept'); rotate_left; (first | exact outs_au | fail))
  all_goals (rfl)
theorem idx_lock (ao : Option Addr) (n cap : Nat) (C : List Value) (N fb : Nat) (cs : List Value) (x : Nat → List Value) (p : Nat → Bool) [Eng.Enters Tryz.prog fb] (w : World) (hw : Rd w ao C ∧ n = N ∧ C.length = N * 3 ∧ N ≤ maxLen ∧ (∀ i, i < N → (C.drop (i * 3)).take 3 = x i ∧ (x i).length = 3) ∧ ∀ i, i < N → ∀ w2, Fr w [] w2 → CSpec Tryz.prog fb (.agg (x i).toArray :: cs) [] w2 (Gives (.bool (p i)))) : CSpec Tryz.prog 95 [.slice ao n cap, fnv fb cs] [] w (Gives (.int .i64 (findI p N))) := by
  obtain ⟨hr, rfl, hCl, hm, hC, hp⟩ := hw
  refine spec_own0 Tryz.func95 rfl Tryz.ntmps95 rfl (l0 := [(0, .slice ao n cap), (1, fnv fb cs)]) rfl ?_
  repeat' first
    | refine J.one ?_
    | refine J.loudS ?_
    | (refine J.loudQ ?_; intro _ _)
    | (refine J.loudB ?_; intro _)
    | (with_reducible apply J.list)
    | ((with_reducible apply J.gsplit); exact rfl; exact rfl)
    | ((with_reducible first | apply J.cond | apply JC.cond); exact rfl)
    | (intro h; exfalso; fail)
    | (intro h; (try simp only [decide_eq_true_eq, decide_eq_false_iff_not, beq_iff_eq, beq_eq_false_iff_ne, Bool.not_eq_true', Bool.not_eq_false', bne_iff_ne, bne_eq_false_iff_eq, ne_eq, ge_iff_le, gt_iff_lt] at h))
    | (with_reducible apply J.gave')
    | ((with_reducible apply J.kept'); rotate_left; (first | exact outs_au | fail))
  apply J.loopI (σ := Nat) (I := fun q => (q ≤ n ∧ ∀ j, j < q → p j = false)) (L := fun q => [(0, .slice ao n cap), (1, fnv fb cs), (6, .slice ao n cap), (7, .int .i64 (n : Int)), (8, .int .i64 (q : Int))]) (HH := fun q => []) (m := fun q => n - q) (s0 := 0)
  · ((try dsimp only); (exact ⟨Nat.zero_le _, fun j hj => absurd hj (Nat.not_lt_zero _)⟩))
  · ((try dsimp only); repeat (first | exact sub.nil _ | (refine sub.consE rfl ?_ ?_; (first | with_reducible rfl | (fail) | rfl))))
  · ((try dsimp only); (first | exact outs_au | fail))
  rintro i ⟨hI, hno⟩
  try dsimp only at *
  have hm2 := hm
  simp only [maxLen] at hm2
  rcases Nat.lt_or_ge i n with hlt | hge
  · skip
    repeat' first
      | (refine J.qr ?_; (with_reducible apply exq); focus (first
        | ((with_reducible apply Qr.indexRd (k := i) (C := C)); exact rfl; exact rfl; exact rfl; omega; exact RH.old hr; omega)
        | ((with_reducible apply Qr.rdN (C := C)); exact rfl; exact RH.old hr; exact (hC i hlt).1; exact (hC i hlt).2)))
      | ((with_reducible apply J.callV (f := fb) (cs := cs)); exact rfl; exact rfl; exact rfl; exact fun w2 s2 => hp i hlt w2 s2.fr)
      | refine J.one ?_
      | refine J.loudS ?_
      | (refine J.loudQ ?_; intro _ _)
      | (refine J.loudB ?_; intro _)
      | (with_reducible apply J.list)
      | ((with_reducible apply J.gsplit); exact rfl; exact rfl)
      | ((with_reducible first | apply J.cond | apply JC.cond); exact rfl)
      | (intro h; exfalso; (first | (simp at h; done) | (simp at h; omega) | omega))
      | (intro h; (try simp only [decide_eq_true_eq, decide_eq_false_iff_not, beq_iff_eq, beq_eq_false_iff_ne, Bool.not_eq_true', Bool.not_eq_false', bne_iff_ne, bne_eq_false_iff_eq, ne_eq, ge_iff_le, gt_iff_lt] at h))
      | (with_reducible apply J.gave')
      | ((with_reducible apply J.kept'); rotate_left; (first | exact outs_au | fail))
    all_goals
      first
      | (simp only [retv]; rw [findI_at hlt (by assumption) hno]; done)
      | (apply J.againI (s := i) (s' := (i + 1)); (focus (omega)); (focus ((try dsimp only); exact ⟨by omega, fun j hj => (Nat.lt_or_ge j i).elim (hno j) fun h9 => (show j = i from Nat.le_antisymm (Nat.le_of_lt_succ hj) h9).symm ▸ h⟩)); (focus (((try dsimp only); repeat (first | exact sub.nil _ | (refine sub.consE rfl ?_ ?_; (first | with_reducible rfl | ((focus (congr 1; omega))) | rfl)))))); ((try dsimp only); (first | exact outs_au | fail)))
      | (trace_state; fail)
  · obtain rfl : i = n := by omega
    repeat' first
      | (refine J.qr ?_; (with_reducible apply exq); focus (first
        | ((with_reducible apply Qr.indexRd (k := i) (C := C)); exact rfl; exact rfl; exact rfl; omega; exact RH.old hr; omega)
        | ((with_reducible apply Qr.rdN (C := C)); exact rfl; exact RH.old hr; exact (hC i hlt).1; exact (hC i hlt).2)))
      | ((with_reducible apply J.callV (f := fb) (cs := cs)); exact rfl; exact rfl; exact rfl; exact fun w2 s2 => hp i hlt w2 s2.fr)
      | refine J.one ?_
      | refine J.loudS ?_
      | (refine J.loudQ ?_; intro _ _)
      | (refine J.loudB ?_; intro _)
      | (with_reducible apply J.list)
      | ((with_reducible apply J.gsplit); exact rfl; exact rfl)
      | ((with_reducible first | apply J.cond | apply JC.cond); exact rfl)
      | (intro h; exfalso; (first | (simp at h; done) | (simp at h; omega) | omega))
      | (intro h; (try simp only [decide_eq_true_eq, decide_eq_false_iff_not, beq_iff_eq, beq_eq_false_iff_ne, Bool.not_eq_true', Bool.not_eq_false', bne_iff_ne, bne_eq_false_iff_eq, ne_eq, ge_iff_le, gt_iff_lt] at h))
      | (with_reducible apply J.gave')
      | ((with_reducible apply J.kept'); rotate_left; (first | exact outs_au | fail))
    all_goals
      first
      | (simp only [retv]; rw [findI_none hno]; done)
      | (trace_state; fail)
theorem place_ (b : Nat) (s : SS) (ao : Option Addr) (n cap : Nat) (L : List Lk) (key : List UInt8) (w : World) (hw : (Rd w (some ⟨b, 0, none⟩) (s.cells (.slice ao n cap)) ∧ Rd w ao (lcs L)) ∧ n = L.length ∧ L.length ≤ maxLen) : CSpec Tryz.prog 57 [.pointer (some ⟨b, 0, none⟩), str key] [] w (Gives (.int .i64 (plc L key))) := by
  obtain ⟨⟨hS, hL⟩, rfl, hm⟩ := hw
  refine spec_own0 Tryz.func57 rfl Tryz.ntmps57 rfl (l0 := [(0, .pointer (some ⟨b, 0, none⟩)), (1, str key)]) rfl ?_
  repeat' first
    | (refine J.qr ?_; (with_reducible apply exq); focus (first
      | ((with_reducible apply Qr.rd1 (ao := some ⟨b, 0, none⟩) (C := s.cells (.slice ao L.length cap)) (j := 150)); exact rfl; exact RH.old hS; exact s.g7 _)))
    | ((with_reducible apply J.givesR (idx_lock _ _ _ (lcs L) L.length 96 _ (fun i => (L.getD i lk0).cells) (fun i => decide ((L.getD i lk0).key = key)))); exact rfl; exact rfl; focus (exact fun w2 s2 => ⟨RH.old hL w2 s2, rfl, lcs_length L, hm, fun i hi => ⟨lcs_at hi, rfl⟩, fun i hi w3 f3 => place1 _ _ _ w3 (Rd.kept (RH.blk0 (by (first | exact in_au | fail)) w2 s2) f3)⟩))
    | refine J.one ?_
    | refine J.loudS ?_
    | (refine J.loudQ ?_; intro _ _)
    | (refine J.loudB ?_; intro _)
    | (with_reducible apply J.list)
    | ((with_reducible apply J.gsplit); exact rfl; exact rfl)
    | ((with_reducible first | apply J.cond | apply JC.cond); exact rfl)
    | (intro h; exfalso; fail)
    | (intro h; (try simp only [decide_eq_true_eq, decide_eq_false_iff_not, beq_iff_eq, beq_eq_false_iff_ne, Bool.not_eq_true', Bool.not_eq_false', bne_iff_ne, bne_eq_false_iff_eq, ne_eq, ge_iff_le, gt_iff_lt] at h))
    | (with_reducible apply J.gave')
    | ((with_reducible apply J.kept'); rotate_left; (first | exact outs_au | fail))
  all_goals (rfl)
/-- A transaction's key and its data's digest. -/
def keyT (t : Tx) : List UInt8 := keyF t.us t.rt t.ro t.se t.re t.to t.id
def digT (t : Tx) : List UInt8 := digF t.us t.rt t.ro t.se t.re t.to t.id t.va t.ex
/-- Is an act signed? -/
noncomputable def sgF (t : Tx) (act : Int) : Bool := (vrf t.rt (payF act (keyT t) t.fee) t.sg).2
theorem keyT_le (t : Tx) : (keyT t).length ≤ 32 := by
  unfold keyT
  rw [keyF_length]
  split <;> omega
theorem payF_le (act : Int) (k : List UInt8) (fee : Int) : (payF act k fee).length ≤ 77 := by
  unfold payF
  split
  · rename_i h
    rw [payB_length, h.2]
    omega
  · simp
theorem signed_ (t : Tx) (act : Int) (w : World) (hw : 0 ≤ t.fee) : CSpec Tryz.prog 144 [.agg t.cells.toArray, .int .i64 act] [] w (Gives (.bool (sgF t act))) := by
  have hk := keyT_le t
  have hp := payF_le act (keyT t) t.fee
  refine spec_own0 Tryz.func144 rfl Tryz.ntmps144 rfl (l0 := [(0, .agg t.cells.toArray), (1, .int .i64 act)]) rfl ?_
  repeat' first
    | ((with_reducible apply J.givesR (key_ t.us t.rt t.ro t.se t.re t.to t.id)); exact rfl; exact rfl; focus (exact RH.true_))
    | ((with_reducible apply J.freshR (payload_ act (keyT t) t.fee)); exact rfl; exact rfl; (focus ((refine RH.of ⟨hw, ?_⟩; omega))); intro _ _)
    | ((with_reducible apply J.givesR (verify_ _ _ _ _ (payF act (keyT t) t.fee) _)); exact rfl; exact rfl; focus ((refine RH.and (RH.row (by (first | exact in_au | fail))) (RH.of ⟨rfl, ?_⟩); omega)))
    | refine J.one ?_
    | refine J.loudS ?_
    | (refine J.loudQ ?_; intro _ _)
    | (refine J.loudB ?_; intro _)
    | (with_reducible apply J.list)
    | ((with_reducible apply J.draw (id := 1) [0, 1, 3, 0, 0, 16, 48, 0, 128, 504, 0, 1024, 4095, 8191, 16383, 16383, 32767, 131071] (.p 0 (.p 1 (.q 2 (.p 3 (.p 4 (.q 5 (.p 7 (.q 8 (.p 10 (.q 11 (.x 6 (.x 9 (.x 12 (.p 13 (.p 14 (.p 15 (.p 16 (.p 17 .nil))))) .none) .none) .none))))))))))) (by kernel_rfl) ?_ (by kernel_rfl) ?_); (repeat (with_reducible first | exact PanicFree.body | exact PanicFree.np | exact PanicFree.lvS | apply PanicFree.then_ | apply PanicFree.blk)))
    | ((with_reducible apply J.pl2); exact rfl; (first | exact Gd.none | ((with_reducible apply Gd.on); exact rfl; exact rfl)); (first | exact pend_au | fail))
    | ((with_reducible apply J.pl2_off); exact rfl; ((with_reducible apply Gd.off); exact rfl; exact rfl; exact rfl); exact rfl; (first | exact pend_au | fail))
    | ((with_reducible apply J.pl2_off_none); exact rfl; ((with_reducible apply Gd.off); exact rfl; exact rfl; exact rfl); (first | exact pend_au | fail))
    | ((with_reducible first | apply J.psplit0 | apply J.psplit1 | apply J.psplit2); exact rfl; exact rfl; exact rfl)
    | (with_reducible exact J.pl_none)
    | ((with_reducible apply J.gsplit); exact rfl; exact rfl)
    | ((with_reducible first | apply J.cond | apply JC.cond); exact rfl)
    | (intro h; exfalso; fail)
    | (intro h; (try simp only [decide_eq_true_eq, decide_eq_false_iff_not, beq_iff_eq, beq_eq_false_iff_ne, Bool.not_eq_true', Bool.not_eq_false', bne_iff_ne, bne_eq_false_iff_eq, ne_eq, ge_iff_le, gt_iff_lt] at h))
    | (with_reducible apply J.gave')
    | ((with_reducible apply J.kept'); rotate_left; (first | exact outs_au | fail))
  all_goals (rfl)
end Go.Proofs.YtljbedladifgmaaGreat.Vau
