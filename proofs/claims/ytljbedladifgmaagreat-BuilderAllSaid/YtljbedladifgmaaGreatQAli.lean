/-
  What each law of ledgers begins with. No conditions.
-/
import Derived.Test.YtljbedladifgmaaGreatQCiv
namespace Go.Proofs.YtljbedladifgmaaGreat.Ali
open Go Go.RowKit Eng
set_option linter.unusedVariables false
set_option maxRecDepth 100000
set_option linter.unusedSimpArgs false
open Wide Purse Tx Sha Ss Esc Vau Lck Do Prep Ful Doo Tri App Inn Low Gene Alv Kee Txl Cht Chn Chm Chw Chi Chx Civ Deal Mss Ots Hash Bytes
set_option maxHeartbeats 1000000
def tA : Tx := ⟨0, 0, 1, 0, 1, 0, [], 0, 0, 0, 0, [], 0, 0, 0, []⟩
theorem tA_in : TX tA := ⟨⟨⟨wd_n (n := 1) (by decide) (by decide), wd_n (n := 0) (by decide) (by decide), Nat.zero_le _, Nat.zero_le _, Nat.zero_le _⟩, wd_n (n := 0) (by decide) (by decide)⟩, ⟨i64_0, i64_0, i64_of (x := 1) (by decide) (by decide), i64_0, i64_0, i64_0, i64_0, i64_0, i64_0, i64_0⟩⟩
abbrev kA0 : CS := CS.new 0 7
def kA1 : CS := ⟨genS 0 7, [], [tA], []⟩
noncomputable def sA2 : SS := (doX (s1F (genS 0 7) tA) [] tA).2
noncomputable def kA2 : CS := ⟨sA2, [], [], [⟨7, 0, tA⟩]⟩
theorem ci0 : CI kA0 0 := CI.new 0 7
theorem sub_a1 : subOk kA0 tA = true := subOk_t (by decide) (by decide) (hasT_nil _)
theorem sub_c1 : subC kA0 tA = kA1 := (subC_t sub_a1).trans rfl
theorem ci1 : CI kA1 1 := sub_c1 ▸ ci0.sub tA_in
theorem has_a : hasT [tA] tA = true := hasT_iff.2 ⟨0, by decide, teq_self tA⟩
theorem sub_a2 : subOk kA1 tA = false := subOk_3 has_a
theorem do_a : (doX (s1F (genS 0 7) tA) [] tA).1 = 0 := by
  rw [doX_1 (by rfl)]
  rfl
theorem ap_a : apF (genS 0 7) [] tA = ⟨sA2, [], 0, true⟩ := by
  unfold apF
  rw [if_pos (by decide), if_pos (by rfl), if_pos ⟨by rfl, by decide⟩, if_pos do_a]
  rfl
theorem inc_t : incT kA1 5 = tA := rfl
theorem inc_a : incA kA1 5 = ⟨sA2, [], 0, true⟩ := ap_a
theorem inc_ok : incOk kA1 5 = true := by
  unfold incOk
  rw [inc_a]
  rfl
theorem time_a : sA2.time = 7 := (doX_keep SS.time (fun _ _ _ _ => rfl) _ _ _).trans rfl
theorem inc_c : incC kA1 5 = kA2 := by
  rw [incC_t inc_ok, inc_a, inc_t]
  show (⟨sA2, [], gone [tA] 0, [⟨sA2.time, 0, tA⟩]⟩ : CS) = _
  rw [time_a]
  rfl
theorem ci2 : CI kA2 2 := inc_c ▸ ci1.inc 5
theorem no_a : sA2.no 0 = 1 := (congrFun (doX_keep SS.no (fun _ _ _ _ => rfl) _ _ _) 0).trans rfl
theorem nx_a : NextV kA2 0 1 := by
  unfold NextV
  rw [if_pos (by decide)]
  show IsNext [] 0 (sA2.no 0) 1
  rw [no_a]
  exact ⟨Int.le_refl _, fun j h1 h2 => by omega, fun ⟨i, hi, _⟩ => by simp at hi⟩
theorem c1 (b : Nat) (w : World) : CSpec Tryz.prog 27 [.pointer (some ⟨b, 0, none⟩), .int .i64 0] [chn b kA0] w (ChR (.bool false) b kA0) := by
  have h := include_ b kA0 0 w (ci0.cb (by decide))
  rw [incC_f (incOk_0 (k := kA0) (i := 0) (by decide)), incOk_0 (k := kA0) (i := 0) (by decide)] at h
  exact h
theorem c2 (b : Nat) (w : World) : CSpec Tryz.prog 26 [.pointer (some ⟨b, 0, none⟩), .agg tA.cells.toArray] [chn b kA0] w (ChR (.bool true) b kA1) := by
  have h := submit_ b kA0 tA w ⟨ci0.cb (by decide), tA_in⟩
  rw [sub_a1, sub_c1] at h
  exact h
theorem c3 (b : Nat) (w : World) : CSpec Tryz.prog 26 [.pointer (some ⟨b, 0, none⟩), .agg tA.cells.toArray] [chn b kA1] w (ChR (.bool false) b kA1) := by
  have h := submit_ b kA1 tA w ⟨ci1.cb (by decide), tA_in⟩
  rw [subC_f sub_a2, sub_a2] at h
  exact h
theorem c4 (b : Nat) (w : World) : CSpec Tryz.prog 27 [.pointer (some ⟨b, 0, none⟩), .int .i64 5] [chn b kA1] w (ChR (.bool true) b kA2) := by
  have h := include_ b kA1 5 w (ci1.cb (by decide))
  rw [inc_ok, inc_c] at h
  exact h
theorem c5 (b : Nat) (w : World) (hw : ChRd w b kA2) : CSpec Tryz.prog 29 [.pointer (some ⟨b, 0, none⟩), .int .i64 0] [] w (Fresh 72 27 1 (evc kA2.E) []) := by
  have h := events_ b kA2 0 w ⟨hw, by decide⟩
  rw [fromE_0] at h
  exact h
theorem c6 (b : Nat) (w : World) (hw : ChRd w b kA2) : CSpec Tryz.prog 37 [.pointer (some ⟨b, 0, none⟩), .int .i64 0] [] w (Gives (.int .i64 1)) := next_ b kA2 0 1 w ⟨hw, ci2.cb (by decide), ci2.f, ci2.i.no, nx_a⟩
theorem alive13 (w : World) : CSpec Tryz.prog 24 [] [] w (Gives (.bool true)) := by
  refine spec_own0 Tryz.func24 rfl Tryz.ntmps24 rfl (l0 := []) rfl ?_
  repeat' first
    | (refine J.qv ?_; (with_reducible apply exq); focus (first
      | ((with_reducible apply Qv.buildS (T := 50)); exact rfl; (show _ = some (tA.cells)); kernel_rfl)
      | ((with_reducible apply Qv.buildW); exact rfl; exact rfl; (first | with_reducible assumption | (unfold Wo; omega) | (simp only [Wd, Wo] at *; omega)))
      | ((with_reducible apply Qv.buildW0); exact rfl; exact rfl)))
    | (refine J.qr ?_; (with_reducible apply exq); focus (first
      | ((with_reducible apply Qr.loadFull); exact rfl; (focus ((repeat (first | with_reducible exact In.here | with_reducible apply In.there)); done)); (with_reducible exact tx_len _))))
    | ((with_reducible apply J.storeFull); exact rfl; exact rfl; (repeat (first | with_reducible exact Upd.here | with_reducible apply Upd.there)); (with_reducible exact tx_len _); kernel_rfl; kernel_rfl)
    | ((with_reducible apply J.newE (new_ _ _)); exact rfl; exact rfl; intro b9)
    | ((with_reducible apply J.chE (fun w (_ : True) => c1 _ w)); exact rfl; exact rfl; (repeat (first | (with_reducible exact Outs.nil) | ((with_reducible apply Outs.cons); (repeat (first | with_reducible exact Out.here | with_reducible apply Out.there))))); exact RH.of trivial)
    | ((with_reducible apply J.chE (fun w (_ : True) => c2 _ w)); exact rfl; exact rfl; (repeat (first | (with_reducible exact Outs.nil) | ((with_reducible apply Outs.cons); (repeat (first | with_reducible exact Out.here | with_reducible apply Out.there))))); exact RH.of trivial)
    | ((with_reducible apply J.chE (fun w (_ : True) => c3 _ w)); exact rfl; exact rfl; (repeat (first | (with_reducible exact Outs.nil) | ((with_reducible apply Outs.cons); (repeat (first | with_reducible exact Out.here | with_reducible apply Out.there))))); exact RH.of trivial)
    | ((with_reducible apply J.chE (fun w (_ : True) => c4 _ w)); exact rfl; exact rfl; (repeat (first | (with_reducible exact Outs.nil) | ((with_reducible apply Outs.cons); (repeat (first | with_reducible exact Out.here | with_reducible apply Out.there))))); exact RH.of trivial)
    | ((with_reducible apply J.freshR (c5 _)); exact rfl; exact rfl; (exact RH.chn (by (repeat (first | with_reducible exact In.here | with_reducible apply In.there)))); intro q9 hq9)
    | ((with_reducible apply J.givesR (c6 _)); exact rfl; exact rfl; (focus (exact RH.chn (by (repeat (first | with_reducible exact In.here | with_reducible apply In.there))))))
    | refine J.one ?_
    | refine J.loudS ?_
    | (refine J.loudQ ?_; intro _ _)
    | (refine J.loudB ?_; intro _)
    | (with_reducible apply J.list)
    | ((with_reducible apply J.gsplit); exact rfl; exact rfl)
    | ((with_reducible first | apply J.cond | apply JC.cond); exact rfl)
    | (intro h; exfalso; (simp at h; done))
    | (intro h; (try simp only [decide_eq_true_eq, decide_eq_false_iff_not, beq_iff_eq, beq_eq_false_iff_ne, Bool.not_eq_true', Bool.not_eq_false', bne_iff_ne, bne_eq_false_iff_eq, ne_eq, ge_iff_le, gt_iff_lt] at h))
    | (with_reducible apply J.gave')
    | ((with_reducible apply J.kept'); rotate_left; (repeat (first | (with_reducible exact Outs.nil) | ((with_reducible apply Outs.cons); (repeat (first | with_reducible exact Out.here | with_reducible apply Out.there))))))
  all_goals first
    | rfl
    | (trace_state; fail)
end Go.Proofs.YtljbedladifgmaaGreat.Ali
