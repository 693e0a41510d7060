/-
  The law ChainNobody. No conditions.
-/
import Derived.Test.YtljbedladifgmaaGreatQAli
import Derived.Test.YtljbedladifgmaaGreatQSam3
namespace Go.Proofs.YtljbedladifgmaaGreat.Nob
open Go Go.RowKit Eng
set_option linter.unusedVariables false
set_option maxRecDepth 100000
set_option linter.unusedSimpArgs false
open Wide Purse Tx Sha Ss Esc Vau Lck Do Prep Ful Doo Tri App Inn Low Gene Alv Kee Txl Cht Chn Chm Chw Chi Chx Civ Ali Deal Mss Ots Hash Bytes
set_option maxHeartbeats 1000000
/-- Nobody made it. -/
def Dead (w : World) (ad : Option Addr) : Prop := ad = none ∨ ∃ b C, ad = some ⟨b, 0, none⟩ ∧ Rd w (some ⟨b, 0, none⟩) C ∧ C[153]? = some (.bool false)
theorem Dead.kept {w w' : World} {ad : Option Addr} (h : Dead w ad) (hf : Fr w [] w') : Dead w' ad := by
  rcases h with h | ⟨b, C, h1, h2, h3⟩
  · exact .inl h
  · exact .inr ⟨b, C, h1, h2.kept hf, h3⟩
theorem RH.deadO {w0 : World} {H : List Asrt} {ad : Option Addr} (h : Dead w0 ad) : RH w0 [] H (fun w => Dead w ad) := fun _ s => h.kept s.fr
theorem RH.deadN {w0 : World} {own : List Nat} {H : List Asrt} : RH w0 own H (fun w => Dead w none) := fun _ _ => .inl rfl
theorem RH.deadB {w0 : World} {own : List Nat} {H : List Asrt} {b E : Nat} {C : List Value} (hm : In (blk b C E) H) (h : C[153]? = some (.bool false)) : RH w0 own H (fun w => Dead w (some ⟨b, 0, none⟩)) := fun w s => .inr ⟨b, C, rfl, RH.blk0 hm w s, h⟩
theorem is_d (ad : Option Addr) (w : World) (hw : Dead w ad) : CSpec Tryz.prog 67 [.pointer ad] [] w (Gives (.bool false)) := by
  rcases hw with rfl | ⟨b, C, rfl, h2, h3⟩
  · exact is_n w trivial
  · exact is_c b C false w ⟨h2, h3⟩
theorem d_rise (ad : Option Addr) (n : Int) (w : World) (hw : Dead w ad) : CSpec Tryz.prog 32 [.pointer ad, .int .i64 n] [] w (Gives (.tuple #[])) := by
  refine spec_own0 Tryz.func32 rfl Tryz.ntmps32 rfl (l0 := [(0, .pointer ad), (1, .int .i64 n)]) rfl ?_
  repeat' first
    | ((with_reducible apply J.givesR (is_d ad)); exact rfl; exact rfl; focus (exact RH.deadO hw))
    | refine J.one ?_
    | refine J.loudS ?_
    | (refine J.loudQ ?_; intro _ _)
    | (refine J.loudB ?_; intro _)
    | (with_reducible apply J.list)
    | ((with_reducible apply J.gsplit); exact rfl; exact rfl)
    | ((with_reducible first | apply J.cond | apply JC.cond); exact rfl)
    | (intro h; exfalso; (simp at h; done))
    | (intro h; (try simp only [decide_eq_true_eq, decide_eq_false_iff_not, beq_iff_eq, beq_eq_false_iff_ne, Bool.not_eq_true', Bool.not_eq_false', bne_iff_ne, bne_eq_false_iff_eq, ne_eq, ge_iff_le, gt_iff_lt] at h))
    | (with_reducible apply J.gave')
    | ((with_reducible apply J.kept'); rotate_left; (repeat (first | (with_reducible exact Outs.nil) | ((with_reducible apply Outs.cons); (repeat (first | with_reducible exact Out.here | with_reducible apply Out.there))))))
  all_goals (rfl)
theorem d_sub (ad : Option Addr) (t : Tx) (w : World) (hw : Dead w ad) : CSpec Tryz.prog 26 [.pointer ad, .agg t.cells.toArray] [] w (Gives (.bool false)) := by
  refine spec_own0 Tryz.func26 rfl Tryz.ntmps26 rfl (l0 := [(0, .pointer ad), (1, .agg t.cells.toArray)]) rfl ?_
  repeat' first
    | ((with_reducible apply J.givesR (is_d ad)); exact rfl; exact rfl; focus (exact RH.deadO hw))
    | refine J.one ?_
    | refine J.loudS ?_
    | (refine J.loudQ ?_; intro _ _)
    | (refine J.loudB ?_; intro _)
    | (with_reducible apply J.list)
    | ((with_reducible apply J.draw (id := 1) [0, 1, 3, 7, 15, 31, 63, 127, 255, 511, 1023, 2047, 4095, 8191, 16383, 32767, 65535, 131071, 262143, 524287, 1048575, 131071, 4194303, 8388607] (.p 0 (.x 1 (.p 2 (.p 3 (.q 4 (.x 5 (.p 6 (.p 7 (.p 8 (.p 9 (.p 10 (.p 11 (.q 12 (.p 13 (.p 14 (.p 15 (.p 16 (.p 17 (.p 18 (.p 19 (.q 20 (.q 21 (.x 22 (.p 23 .nil) .none))))))))))))))))) .none)))) .none)) (by kernel_rfl) ?_ (by kernel_rfl) ?_); (repeat (with_reducible first | exact PanicFree.body | exact PanicFree.np | exact PanicFree.lvS | apply PanicFree.then_ | apply PanicFree.blk)))
    | ((with_reducible apply J.draw (id := 3) [0, 0, 2, 6, 14, 0, 32, 126, 255, 511, 1023] (.p 0 (.p 1 (.p 2 (.p 3 (.q 4 (.q 5 (.x 6 (.x 7 (.p 8 (.p 9 (.x 10 .nil .none))) .none) .none))))))) (by kernel_rfl) ?_ (by kernel_rfl) ?_); (repeat (with_reducible first | exact PanicFree.body | exact PanicFree.np | exact PanicFree.lvS | apply PanicFree.then_ | apply PanicFree.blk)))
    | ((with_reducible apply J.pl2); exact rfl; (first | exact Gd.none | ((with_reducible apply Gd.on); exact rfl; exact rfl)); (repeat (first | (with_reducible exact PendF.nil) | ((with_reducible apply PendF.keep); exact rfl) | ((with_reducible apply PendF.gone); exact rfl))))
    | ((with_reducible apply J.pl2_off); exact rfl; ((with_reducible apply Gd.off); exact rfl; exact rfl; exact rfl); exact rfl; (repeat (first | (with_reducible exact PendF.nil) | ((with_reducible apply PendF.keep); exact rfl) | ((with_reducible apply PendF.gone); exact rfl))))
    | ((with_reducible apply J.pl2_off_none); exact rfl; ((with_reducible apply Gd.off); exact rfl; exact rfl; exact rfl); (repeat (first | (with_reducible exact PendF.nil) | ((with_reducible apply PendF.keep); exact rfl) | ((with_reducible apply PendF.gone); exact rfl))))
    | ((with_reducible first | apply J.psplit0 | apply J.psplit1 | apply J.psplit2); exact rfl; exact rfl; exact rfl)
    | (with_reducible exact J.pl_none)
    | ((with_reducible apply J.gsplit); exact rfl; exact rfl)
    | ((with_reducible first | apply J.cond | apply JC.cond); exact rfl)
    | (intro h; exfalso; (simp at h; done))
    | (intro h; (try simp only [decide_eq_true_eq, decide_eq_false_iff_not, beq_iff_eq, beq_eq_false_iff_ne, Bool.not_eq_true', Bool.not_eq_false', bne_iff_ne, bne_eq_false_iff_eq, ne_eq, ge_iff_le, gt_iff_lt] at h))
    | (with_reducible apply J.gave')
    | ((with_reducible apply J.kept'); rotate_left; (repeat (first | (with_reducible exact Outs.nil) | ((with_reducible apply Outs.cons); (repeat (first | with_reducible exact Out.here | with_reducible apply Out.there))))))
  all_goals (rfl)
theorem d_inc (ad : Option Addr) (n : Int) (w : World) (hw : Dead w ad) : CSpec Tryz.prog 27 [.pointer ad, .int .i64 n] [] w (Gives (.bool false)) := by
  refine spec_own0 Tryz.func27 rfl Tryz.ntmps27 rfl (l0 := [(0, .pointer ad), (1, .int .i64 n)]) rfl ?_
  repeat' first
    | ((with_reducible apply J.givesR (is_d ad)); exact rfl; exact rfl; focus (exact RH.deadO hw))
    | refine J.one ?_
    | refine J.loudS ?_
    | (refine J.loudQ ?_; intro _ _)
    | (refine J.loudB ?_; intro _)
    | (with_reducible apply J.list)
    | ((with_reducible apply J.draw (id := 6) [0, 1, 3, 7, 0, 31, 63, 127, 127, 127, 0, 1279, 3583, 8191] (.p 0 (.p 1 (.p 2 (.q 3 (.q 4 (.x 5 (.p 6 (.p 7 (.p 8 (.p 9 (.x 10 (.x 11 (.p 12 (.p 13 .nil)) .none) .none))))) (.x 10 (.x 5 (.p 6 (.p 7 (.p 8 (.p 9 (.x 11 (.p 12 (.p 13 .nil)) .none))))) .none) .none))))))) (by kernel_rfl) ?_ (by kernel_rfl) ?_); (repeat (with_reducible first | exact PanicFree.body | exact PanicFree.np | exact PanicFree.lvS | apply PanicFree.then_ | apply PanicFree.blk)))
    | ((with_reducible apply J.draw (id := 11) [0, 0, 2, 6, 14, 0, 32, 0, 0, 480, 992, 2046, 4095, 8191, 16383] (.p 0 (.p 1 (.p 2 (.p 3 (.q 4 (.p 5 (.q 6 (.p 7 (.q 8 (.p 9 (.x 10 (.x 11 (.p 12 (.p 13 (.x 14 .nil .none))) .none) .none))))))))))) (by kernel_rfl) ?_ (by kernel_rfl) ?_); (repeat (with_reducible first | exact PanicFree.body | exact PanicFree.np | exact PanicFree.lvS | apply PanicFree.then_ | apply PanicFree.blk)))
    | ((with_reducible apply J.pl2); exact rfl; (first | exact Gd.none | ((with_reducible apply Gd.on); exact rfl; exact rfl)); (repeat (first | (with_reducible exact PendF.nil) | ((with_reducible apply PendF.keep); exact rfl) | ((with_reducible apply PendF.gone); exact rfl))))
    | ((with_reducible apply J.pl2_off); exact rfl; ((with_reducible apply Gd.off); exact rfl; exact rfl; exact rfl); exact rfl; (repeat (first | (with_reducible exact PendF.nil) | ((with_reducible apply PendF.keep); exact rfl) | ((with_reducible apply PendF.gone); exact rfl))))
    | ((with_reducible apply J.pl2_off_none); exact rfl; ((with_reducible apply Gd.off); exact rfl; exact rfl; exact rfl); (repeat (first | (with_reducible exact PendF.nil) | ((with_reducible apply PendF.keep); exact rfl) | ((with_reducible apply PendF.gone); exact rfl))))
    | ((with_reducible first | apply J.psplit0 | apply J.psplit1 | apply J.psplit2); exact rfl; exact rfl; exact rfl)
    | (with_reducible exact J.pl_none)
    | ((with_reducible apply J.gsplit); exact rfl; exact rfl)
    | ((with_reducible first | apply J.cond | apply JC.cond); exact rfl)
    | (intro h; exfalso; (simp at h; done))
    | (intro h; (try simp only [decide_eq_true_eq, decide_eq_false_iff_not, beq_iff_eq, beq_eq_false_iff_ne, Bool.not_eq_true', Bool.not_eq_false', bne_iff_ne, bne_eq_false_iff_eq, ne_eq, ge_iff_le, gt_iff_lt] at h))
    | (with_reducible apply J.gave')
    | ((with_reducible apply J.kept'); rotate_left; (repeat (first | (with_reducible exact Outs.nil) | ((with_reducible apply Outs.cons); (repeat (first | with_reducible exact Out.here | with_reducible apply Out.there))))))
  all_goals (rfl)
theorem d_time (ad : Option Addr) (w : World) (hw : Dead w ad) : CSpec Tryz.prog 31 [.pointer ad] [] w (Gives (.int .i64 0)) := by
  refine spec_own0 Tryz.func31 rfl Tryz.ntmps31 rfl (l0 := [(0, .pointer ad)]) rfl ?_
  repeat' first
    | ((with_reducible apply J.givesR (is_d ad)); exact rfl; exact rfl; focus (exact RH.deadO hw))
    | refine J.one ?_
    | refine J.loudS ?_
    | (refine J.loudQ ?_; intro _ _)
    | (refine J.loudB ?_; intro _)
    | (with_reducible apply J.list)
    | ((with_reducible apply J.gsplit); exact rfl; exact rfl)
    | ((with_reducible first | apply J.cond | apply JC.cond); exact rfl)
    | (intro h; exfalso; (simp at h; done))
    | (intro h; (try simp only [decide_eq_true_eq, decide_eq_false_iff_not, beq_iff_eq, beq_eq_false_iff_ne, Bool.not_eq_true', Bool.not_eq_false', bne_iff_ne, bne_eq_false_iff_eq, ne_eq, ge_iff_le, gt_iff_lt] at h))
    | (with_reducible apply J.gave')
    | ((with_reducible apply J.kept'); rotate_left; (repeat (first | (with_reducible exact Outs.nil) | ((with_reducible apply Outs.cons); (repeat (first | with_reducible exact Out.here | with_reducible apply Out.there))))))
  all_goals (rfl)
theorem d_pool (ad : Option Addr) (w : World) (hw : Dead w ad) : CSpec Tryz.prog 28 [.pointer ad] [] w (Gives (.slice none 0 0)) := by
  refine spec_own0 Tryz.func28 rfl Tryz.ntmps28 rfl (l0 := [(0, .pointer ad)]) rfl ?_
  repeat' first
    | ((with_reducible apply J.givesR (is_d ad)); exact rfl; exact rfl; focus (exact RH.deadO hw))
    | refine J.one ?_
    | refine J.loudS ?_
    | (refine J.loudQ ?_; intro _ _)
    | (refine J.loudB ?_; intro _)
    | (with_reducible apply J.list)
    | ((with_reducible apply J.gsplit); exact rfl; exact rfl)
    | ((with_reducible first | apply J.cond | apply JC.cond); exact rfl)
    | (intro h; exfalso; (simp at h; done))
    | (intro h; (try simp only [decide_eq_true_eq, decide_eq_false_iff_not, beq_iff_eq, beq_eq_false_iff_ne, Bool.not_eq_true', Bool.not_eq_false', bne_iff_ne, bne_eq_false_iff_eq, ne_eq, ge_iff_le, gt_iff_lt] at h))
    | (with_reducible apply J.gave')
    | ((with_reducible apply J.kept'); rotate_left; (repeat (first | (with_reducible exact Outs.nil) | ((with_reducible apply Outs.cons); (repeat (first | with_reducible exact Out.here | with_reducible apply Out.there))))))
  all_goals (rfl)
theorem d_ev (ad : Option Addr) (n : Int) (w : World) (hw : Dead w ad) : CSpec Tryz.prog 29 [.pointer ad, .int .i64 n] [] w (Gives (.slice none 0 0)) := by
  refine spec_own0 Tryz.func29 rfl Tryz.ntmps29 rfl (l0 := [(0, .pointer ad), (1, .int .i64 n)]) rfl ?_
  repeat' first
    | ((with_reducible apply J.givesR (is_d ad)); exact rfl; exact rfl; focus (exact RH.deadO hw))
    | refine J.one ?_
    | refine J.loudS ?_
    | (refine J.loudQ ?_; intro _ _)
    | (refine J.loudB ?_; intro _)
    | (with_reducible apply J.list)
    | ((with_reducible apply J.draw (id := 3) [0, 1, 3, 7, 0, 16, 0, 64, 192, 448, 960, 2032, 4095, 8191, 16383] (.p 0 (.p 1 (.p 2 (.q 3 (.p 4 (.p 5 (.p 6 (.p 7 (.p 8 (.q 9 (.p 10 (.p 11 (.p 12 (.x 13 (.p 14 .nil) .none)))))))))))))) (by kernel_rfl) ?_ (by kernel_rfl) ?_); (repeat (with_reducible first | exact PanicFree.body | exact PanicFree.np | exact PanicFree.lvS | apply PanicFree.then_ | apply PanicFree.blk)))
    | ((with_reducible apply J.pl2); exact rfl; (first | exact Gd.none | ((with_reducible apply Gd.on); exact rfl; exact rfl)); (repeat (first | (with_reducible exact PendF.nil) | ((with_reducible apply PendF.keep); exact rfl) | ((with_reducible apply PendF.gone); exact rfl))))
    | ((with_reducible apply J.pl2_off); exact rfl; ((with_reducible apply Gd.off); exact rfl; exact rfl; exact rfl); exact rfl; (repeat (first | (with_reducible exact PendF.nil) | ((with_reducible apply PendF.keep); exact rfl) | ((with_reducible apply PendF.gone); exact rfl))))
    | ((with_reducible apply J.pl2_off_none); exact rfl; ((with_reducible apply Gd.off); exact rfl; exact rfl; exact rfl); (repeat (first | (with_reducible exact PendF.nil) | ((with_reducible apply PendF.keep); exact rfl) | ((with_reducible apply PendF.gone); exact rfl))))
    | ((with_reducible first | apply J.psplit0 | apply J.psplit1 | apply J.psplit2); exact rfl; exact rfl; exact rfl)
    | (with_reducible exact J.pl_none)
    | ((with_reducible apply J.gsplit); exact rfl; exact rfl)
    | ((with_reducible first | apply J.cond | apply JC.cond); exact rfl)
    | (intro h; exfalso; (simp at h; done))
    | (intro h; (try simp only [decide_eq_true_eq, decide_eq_false_iff_not, beq_iff_eq, beq_eq_false_iff_ne, Bool.not_eq_true', Bool.not_eq_false', bne_iff_ne, bne_eq_false_iff_eq, ne_eq, ge_iff_le, gt_iff_lt] at h))
    | (with_reducible apply J.gave')
    | ((with_reducible apply J.kept'); rotate_left; (repeat (first | (with_reducible exact Outs.nil) | ((with_reducible apply Outs.cons); (repeat (first | with_reducible exact Out.here | with_reducible apply Out.there))))))
  all_goals (rfl)
theorem d_next (ad : Option Addr) (n : Int) (w : World) (hw : Dead w ad) : CSpec Tryz.prog 37 [.pointer ad, .int .i64 n] [] w (Gives (.int .i64 0)) := by
  refine spec_own0 Tryz.func37 rfl Tryz.ntmps37 rfl (l0 := [(0, .pointer ad), (1, .int .i64 n)]) rfl ?_
  repeat' first
    | ((with_reducible apply J.givesR (is_d ad)); exact rfl; exact rfl; focus (exact RH.deadO hw))
    | refine J.one ?_
    | refine J.loudS ?_
    | (refine J.loudQ ?_; intro _ _)
    | (refine J.loudB ?_; intro _)
    | (with_reducible apply J.list)
    | ((with_reducible apply J.draw (id := 3) [0, 0, 1, 5, 13, 31, 63, 0, 255] (.p 0 (.q 1 (.p 2 (.p 3 (.p 4 (.p 5 (.q 6 (.x 7 (.x 8 .nil .none) .none)))))))) (by kernel_rfl) ?_ (by kernel_rfl) ?_); (repeat (with_reducible first | exact PanicFree.body | exact PanicFree.np | exact PanicFree.lvS | apply PanicFree.then_ | apply PanicFree.blk)))
    | ((with_reducible apply J.pl2); exact rfl; (first | exact Gd.none | ((with_reducible apply Gd.on); exact rfl; exact rfl)); (repeat (first | (with_reducible exact PendF.nil) | ((with_reducible apply PendF.keep); exact rfl) | ((with_reducible apply PendF.gone); exact rfl))))
    | ((with_reducible apply J.pl2_off); exact rfl; ((with_reducible apply Gd.off); exact rfl; exact rfl; exact rfl); exact rfl; (repeat (first | (with_reducible exact PendF.nil) | ((with_reducible apply PendF.keep); exact rfl) | ((with_reducible apply PendF.gone); exact rfl))))
    | ((with_reducible apply J.pl2_off_none); exact rfl; ((with_reducible apply Gd.off); exact rfl; exact rfl; exact rfl); (repeat (first | (with_reducible exact PendF.nil) | ((with_reducible apply PendF.keep); exact rfl) | ((with_reducible apply PendF.gone); exact rfl))))
    | ((with_reducible first | apply J.psplit0 | apply J.psplit1 | apply J.psplit2); exact rfl; exact rfl; exact rfl)
    | (with_reducible exact J.pl_none)
    | ((with_reducible apply J.gsplit); exact rfl; exact rfl)
    | ((with_reducible first | apply J.cond | apply JC.cond); exact rfl)
    | (intro h; exfalso; (simp at h; done))
    | (intro h; (try simp only [decide_eq_true_eq, decide_eq_false_iff_not, beq_iff_eq, beq_eq_false_iff_ne, Bool.not_eq_true', Bool.not_eq_false', bne_iff_ne, bne_eq_false_iff_eq, ne_eq, ge_iff_le, gt_iff_lt] at h))
    | (with_reducible apply J.gave')
    | ((with_reducible apply J.kept'); rotate_left; (repeat (first | (with_reducible exact Outs.nil) | ((with_reducible apply Outs.cons); (repeat (first | with_reducible exact Out.here | with_reducible apply Out.there))))))
  all_goals (rfl)
theorem d_wait (ad : Option Addr) (n : Int) (k : List UInt8) (m : Int) (w : World) (hw : Dead w ad) : CSpec Tryz.prog 30 [.pointer ad, .int .i64 n, str k, .int .i64 m] [] w (Gives (.bool false)) := by
  refine spec_own0 Tryz.func30 rfl Tryz.ntmps30 rfl (l0 := [(0, .pointer ad), (1, .int .i64 n), (2, str k), (3, .int .i64 m)]) rfl ?_
  repeat' first
    | ((with_reducible apply J.givesR (is_d ad)); exact rfl; exact rfl; focus (exact RH.deadO hw))
    | refine J.one ?_
    | refine J.loudS ?_
    | (refine J.loudQ ?_; intro _ _)
    | (refine J.loudB ?_; intro _)
    | (with_reducible apply J.list)
    | ((with_reducible apply J.gsplit); exact rfl; exact rfl)
    | ((with_reducible first | apply J.cond | apply JC.cond); exact rfl)
    | (intro h; exfalso; (simp at h; done))
    | (intro h; (try simp only [decide_eq_true_eq, decide_eq_false_iff_not, beq_iff_eq, beq_eq_false_iff_ne, Bool.not_eq_true', Bool.not_eq_false', bne_iff_ne, bne_eq_false_iff_eq, ne_eq, ge_iff_le, gt_iff_lt] at h))
    | (with_reducible apply J.gave')
    | ((with_reducible apply J.kept'); rotate_left; (repeat (first | (with_reducible exact Outs.nil) | ((with_reducible apply Outs.cons); (repeat (first | with_reducible exact Out.here | with_reducible apply Out.there))))))
  all_goals (rfl)
theorem d_state (ad : Option Addr) (w : World) (hw : Dead w ad) : CSpec Tryz.prog 33 [.pointer ad] [] w (Gives (.agg (zS.cells (.slice none 0 0)).toArray)) := by
  refine spec_own0 Tryz.func33 rfl Tryz.ntmps33 rfl (l0 := [(0, .pointer ad)]) rfl ?_
  repeat' first
    | ((with_reducible apply J.ret); exact rfl; exact rfl; (repeat (first | (with_reducible exact Res.nil) | ((with_reducible apply Res.tmp); exact rfl) | ((with_reducible apply Res.full); exact rfl; (focus ((repeat (first | with_reducible exact In.here | with_reducible apply In.there)); done)); (with_reducible exact SS.len _ _)) | ((with_reducible apply Res.cell1); exact rfl; (repeat (first | with_reducible exact In.here | with_reducible apply In.there)); exact rfl))); exact rfl)
    | (refine J.qv ?_; (with_reducible apply exq); focus (first
      | ((with_reducible apply Qv.buildS (T := 34)); exact rfl; (show _ = some (zS.cells (.slice none 0 0))); kernel_rfl)))
    | ((with_reducible apply J.storeFull); exact rfl; exact rfl; (repeat (first | with_reducible exact Upd.here | with_reducible apply Upd.there)); (with_reducible exact SS.len _ _); (focus (first | (with_reducible exact SS.len _ _) | kernel_rfl)); with_reducible exact SS.ones _ _ _ _)
    | ((with_reducible apply J.givesR (is_d ad)); exact rfl; exact rfl; focus (exact RH.deadO hw))
    | refine J.one ?_
    | refine J.loudS ?_
    | (refine J.loudQ ?_; intro _ _)
    | (refine J.loudB ?_; intro _)
    | (with_reducible apply J.list)
    | ((with_reducible apply J.gsplit); exact rfl; exact rfl)
    | ((with_reducible first | apply J.cond | apply JC.cond); exact rfl)
    | (intro h; exfalso; (simp at h; done))
    | (intro h; (try simp only [decide_eq_true_eq, decide_eq_false_iff_not, beq_iff_eq, beq_eq_false_iff_ne, Bool.not_eq_true', Bool.not_eq_false', bne_iff_ne, bne_eq_false_iff_eq, ne_eq, ge_iff_le, gt_iff_lt] at h))
    | (with_reducible apply J.gave')
    | ((with_reducible apply J.kept'); rotate_left; (repeat (first | (with_reducible exact Outs.nil) | ((with_reducible apply Outs.cons); (repeat (first | with_reducible exact Out.here | with_reducible apply Out.there))))))
  all_goals (rfl)
theorem zS_in : SIn zS := ⟨i64_0, i64_0, fun _ => wd_n (n := 0) (by decide) (by decide), fun _ => wd_n (n := 0) (by decide) (by decide), fun _ => i64_0, fun _ => wd_n (n := 0) (by decide) (by decide), wd_n (n := 0) (by decide) (by decide)⟩
theorem nobody (t : Tx) (n : Int) (k : List UInt8) (w : World) (hw : True) : CSpec Tryz.prog 8 [.agg t.cells.toArray, .int .i64 n, str k] [] w (Gives (.bool true)) := by
  refine spec_own0 Tryz.func8 rfl Tryz.ntmps8 rfl (l0 := [(0, .agg t.cells.toArray), (1, .int .i64 n), (2, str k)]) rfl ?_
  repeat' first
    | (with_reducible refine J.rounds 3 ?_)
    | (with_reducible apply J.round)
    | (refine J.qv ?_; (with_reducible apply exq); focus (first
      | ((with_reducible apply Qv.buildS (T := 34)); exact rfl; (show _ = some (zS.cells (.slice none 0 0))); kernel_rfl)))
    | ((with_reducible apply J.givesR (d_rise _ _)); exact rfl; exact rfl; (focus (first | exact RH.deadN | exact RH.deadB (by (repeat (first | with_reducible exact In.here | with_reducible apply In.there))) (by kernel_rfl))))
    | ((with_reducible apply J.givesR (d_sub _ _)); exact rfl; exact rfl; (focus (first | exact RH.deadN | exact RH.deadB (by (repeat (first | with_reducible exact In.here | with_reducible apply In.there))) (by kernel_rfl))))
    | ((with_reducible apply J.givesR (d_inc _ _)); exact rfl; exact rfl; (focus (first | exact RH.deadN | exact RH.deadB (by (repeat (first | with_reducible exact In.here | with_reducible apply In.there))) (by kernel_rfl))))
    | ((with_reducible apply J.givesR (d_time _)); exact rfl; exact rfl; (focus (first | exact RH.deadN | exact RH.deadB (by (repeat (first | with_reducible exact In.here | with_reducible apply In.there))) (by kernel_rfl))))
    | ((with_reducible apply J.givesR (d_pool _)); exact rfl; exact rfl; (focus (first | exact RH.deadN | exact RH.deadB (by (repeat (first | with_reducible exact In.here | with_reducible apply In.there))) (by kernel_rfl))))
    | ((with_reducible apply J.givesR (d_ev _ _)); exact rfl; exact rfl; (focus (first | exact RH.deadN | exact RH.deadB (by (repeat (first | with_reducible exact In.here | with_reducible apply In.there))) (by kernel_rfl))))
    | ((with_reducible apply J.givesR (d_next _ _)); exact rfl; exact rfl; (focus (first | exact RH.deadN | exact RH.deadB (by (repeat (first | with_reducible exact In.here | with_reducible apply In.there))) (by kernel_rfl))))
    | ((with_reducible apply J.givesR (d_wait _ _ _ _)); exact rfl; exact rfl; (focus (first | exact RH.deadN | exact RH.deadB (by (repeat (first | with_reducible exact In.here | with_reducible apply In.there))) (by kernel_rfl))))
    | ((with_reducible apply J.givesR (d_state _)); exact rfl; exact rfl; (focus (first | exact RH.deadN | exact RH.deadB (by (repeat (first | with_reducible exact In.here | with_reducible apply In.there))) (by kernel_rfl))))
    | ((with_reducible apply J.givesR (Sam3.same_ zS none none 0 0 [])); exact rfl; exact rfl; (focus (exact RH.and (RH.and RH.nil RH.nil) (RH.of ⟨zS_in, fun k hk => (by cases hk), by decide⟩))))
    | ((with_reducible apply J.givesW (alive13)); exact rfl; exact rfl)
    | refine J.one ?_
    | refine J.loudS ?_
    | (refine J.loudQ ?_; intro _ _)
    | (refine J.loudB ?_; intro _)
    | (with_reducible apply J.list)
    | ((with_reducible apply J.draw (id := 7) [0, 0, 3, 7, 0, 31, 63, 127, 127, 511, 1023, 127, 4095, 8191, 16383, 32767, 32767, 131071, 262143, 524287, 1048575, 2097151, 4194303, 8388607, 8388607, 33554431, 67108863, 134217727, 268435455, 8388607, 8388607, 1619001343, 3766484991, 8388607, 16911433727, 34091302911, 68719476735, 137438953471, 274877906943, 549755813887, 1099511627775, 1099511627775, 4398046511103, 8796093022207, 1099511627775, 35184372088831, 70368744177663, 140737488355327, 281474976710655, 562949953421311, 562949953421311, 2251799813685247, 4503599627370495, 562949953421311, 562949953421311, 562949953421311, 72057594037927935, 144115188075855871, 288230376151711743, 576460752303423487, 576460752303423487, 2305843009213693951, 4611686018427387903, 9223372036854775807, 576460752303423487, 36893488147419103231, 73786976294838206463, 147573952589676412927] (.p 0 (.p 1 (.p 2 (.q 3 (.q 4 (.x 5 (.p 6 (.p 7 (.p 8 (.p 9 (.q 10 (.p 11 (.x 12 (.p 13 (.p 14 (.p 15 (.p 16 (.p 17 (.q 18 (.x 19 (.p 20 (.p 21 (.p 22 (.p 23 (.p 24 (.p 25 (.q 26 (.p 29 (.p 30 (.p 31 (.q 32 (.p 33 (.x 27 (.p 28 (.x 34 (.p 35 (.p 36 (.p 37 (.p 38 (.p 39 (.p 40 (.p 41 (.p 42 (.q 43 (.p 44 (.x 45 (.p 46 (.p 47 (.p 48 (.p 49 (.p 50 (.p 51 (.q 52 (.p 53 (.p 54 (.p 55 (.x 56 (.p 57 (.p 58 (.p 59 (.p 60 (.p 61 (.q 62 (.p 64 (.x 63 (.x 65 (.p 66 (.p 67 .nil)) .none) .none)))))))) .none))))))))))) .none))))))))))) .none)) .none))))))))))))) .none))))))) .none))))))) .none)))))) (by kernel_rfl) ?_ (by kernel_rfl) ?_); (repeat (with_reducible first | exact PanicFree.body | exact PanicFree.np | exact PanicFree.lvS | apply PanicFree.then_ | apply PanicFree.blk)))
    | ((with_reducible apply J.pl2); exact rfl; (first | exact Gd.none | ((with_reducible apply Gd.on); exact rfl; exact rfl)); (repeat (first | (with_reducible exact PendF.nil) | ((with_reducible apply PendF.keep); exact rfl) | ((with_reducible apply PendF.gone); exact rfl))))
    | ((with_reducible apply J.pl2_off); exact rfl; ((with_reducible apply Gd.off); exact rfl; exact rfl; exact rfl); exact rfl; (repeat (first | (with_reducible exact PendF.nil) | ((with_reducible apply PendF.keep); exact rfl) | ((with_reducible apply PendF.gone); exact rfl))))
    | ((with_reducible apply J.pl2_off_none); exact rfl; ((with_reducible apply Gd.off); exact rfl; exact rfl; exact rfl); (repeat (first | (with_reducible exact PendF.nil) | ((with_reducible apply PendF.keep); exact rfl) | ((with_reducible apply PendF.gone); exact rfl))))
    | ((with_reducible first | apply J.psplit0 | apply J.psplit1 | apply J.psplit2); exact rfl; exact rfl; exact rfl)
    | (with_reducible exact J.pl_none)
    | ((with_reducible apply J.gsplit); exact rfl; exact rfl)
    | ((with_reducible first | apply J.cond | apply JC.cond); exact rfl)
    | (intro h; exfalso; (simp at h; done))
    | (intro h; (try simp only [decide_eq_true_eq, decide_eq_false_iff_not, beq_iff_eq, beq_eq_false_iff_ne, Bool.not_eq_true', Bool.not_eq_false', bne_iff_ne, bne_eq_false_iff_eq, ne_eq, ge_iff_le, gt_iff_lt] at h))
    | (with_reducible apply J.gave')
    | ((with_reducible apply J.kept'); rotate_left; (repeat (first | (with_reducible exact Outs.nil) | ((with_reducible apply Outs.cons); (repeat (first | with_reducible exact Out.here | with_reducible apply Out.there))))))
  all_goals
    first
    | rfl
    | (trace_state; fail)
theorem ChainNobody {r : Reach} {b0 : Nat} {H : Type} {enc : TypeId × Value → H} {spare : Nat → Bool} {held : Bool} {d : DataW H} {p : List MemPlace} (v : Value) (n : Int) (s : ByteArray) (W : World) (o : Value.okWide Tryz.prog W r b0 50 v) (t : DataW.Trod enc Tryz.prog W 0 spare held 50 v d p) (g2 : (Lit.int .i64 n).wf = true) (g3 : s.size ≤ maxLen) :
    Calls Tryz.prog 8 #[v, .int .i64 n, .string s] W fun e w' => e = .returned (.bool true) ∧ Below W.heap.size W w' := by
  obtain ⟨u, rfl, h6, h7⟩ := in_tx o t
  have e : Value.string s = str s.data.toList := by cases s; simp [str]
  rw [e]
  exact (nobody u n s.data.toList W trivial).below
end Go.Proofs.YtljbedladifgmaaGreat.Nob
