/-
  What a user asks. No conditions.
-/
import Derived.Test.YtfcaeifpclpnoaaQCfe
import Derived.Test.YtfcaeifpclpnoaaQMsg
namespace Go.Proofs.Ytfcaeifpclpnoaa.Cas
open Go Go.RowKit Eng
set_option linter.unusedVariables false
set_option maxRecDepth 100000
set_option linter.unusedSimpArgs false
open Sha Iter Hash Bytes Hsum Ots Rsum Rovr Mrt Mrr Wide Tx Cli Cfe Msg
set_option maxHeartbeats 1000000
/-- May an ask be? -/
def rr8 : List UInt8 := [114, 111, 111, 116, 114, 111, 111, 116]
def r18 : List UInt8 := [49, 50, 51, 52, 53, 54, 55, 56]
def staF (a : Ak) (rt : List UInt8) (ro : Int) : Iv := ⟨a.us, rt, ro, a.se, a.re, a.to, a.id⟩
def askE (a : Ak) : Int := if a.am = 0 then 39 else invE a.us rr8 2 a.se a.re a.to a.id
theorem invE_rt {us ro se re to : Int} {rt rt' id : List UInt8} (h : rt.length = rt'.length) : invE us rt ro se re to id = invE us rt' ro se re to id := by unfold invE; rw [h]
theorem invE_or (us ro se re to : Int) (rt id : List UInt8) : invE us rt ro se re to id = 0 ∨ invE us rt ro se re to id = 39 := by
  unfold invE
  split
  · exact .inl rfl
  · exact .inr rfl
theorem askE_or (a : Ak) : askE a = 0 ∨ askE a = 39 := by
  unfold askE
  split
  · exact .inr rfl
  · exact invE_or _ _ _ _ _ _ _
theorem askE_0 {a : Ak} (h : a.am = 0) : askE a = 39 := if_pos h
theorem askE_1 {a : Ak} (h : ¬ a.am = 0) : askE a = invE a.us rr8 2 a.se a.re a.to a.id := if_neg h
theorem askE_2 {a : Ak} (h : ¬ a.am = 0) : askE a = invE a.us r18 2 a.se a.re a.to a.id := (askE_1 h).trans (invE_rt rfl)
/-- A new message of an ask. -/
def mk1 (a : Ak) : Mg := ⟨1, a, bd0, iv0, 0, 0, 0, []⟩
theorem mk1_in {a : Ak} (h : AkIn a) : MgIn (mk1 a) := ⟨i64_of (x := 1) (by decide) (by decide), h, bd0_in, iv0_in, wd_0, i64_0, wd_0, Nat.zero_le _⟩
def entC (b : Ak) (s : Int) : List Value := b.cells ++ [.int .i64 s, .slice none 0 0]
def nowF (n : Int) : Int := if n < 0 ∨ 1099511627776 < n then 0 else n
def okA (u : Int) (a : Ak) : Bool := decide (a.us = u) && decide (askE a = 0)
theorem okA_y {u : Int} {a : Ak} (h1 : a.us = u) (h2 : askE a = 0) : okA u a = true := by simp [okA, h1, h2]
theorem okA_u {u : Int} {a : Ak} (h1 : ¬ a.us = u) : okA u a = false := by simp [okA, h1]
theorem okA_e {u : Int} {a : Ak} (h1 : ¬ askE a = 0) : okA u a = false := by simp [okA, h1]
theorem stand_ (a : Ak) (ro : Int) (w : World) (hw : True) : CSpec Try.prog 101 [.agg a.cells.toArray, .int .i64 ro] [] w (Gives (.agg (Iv.cells (staF a rr8 ro)).toArray)) := by
  refine spec_own0 Try.func101 rfl Try.ntmps101 rfl (l0 := [(0, .agg a.cells.toArray), (1, .int .i64 ro)]) rfl ?_
  repeat' first
    | (refine J.qv ?_; (with_reducible apply exq); focus (first
      | ((with_reducible apply Qv.buildS (T := 43)); exact rfl; (show _ = some (Iv.cells (staF a rr8 ro))); kernel_rfl)))
    | (refine J.qr ?_; (with_reducible apply exq); focus (first
      | ((with_reducible apply Qr.load1); exact rfl; (focus ((repeat (first | with_reducible exact In.here | with_reducible apply In.there)); done)); exact rfl)))
    | ((with_reducible apply J.storeFull); exact rfl; exact rfl; (repeat (first | with_reducible exact Upd.here | with_reducible apply Upd.there)); (with_reducible first | exact mg_len _ | exact iv_len _); (focus kernel_rfl); (with_reducible first | exact mg_ones _ | exact rfl))
    | refine J.one ?_
    | refine J.loudS ?_
    | (refine J.loudQ ?_; intro _ _)
    | (refine J.loudB ?_; intro _)
    | (with_reducible apply J.list)
    | ((with_reducible apply J.gsplit); exact rfl; exact rfl)
    | ((with_reducible first | apply J.cond | apply JC.cond); exact rfl)
    | (intro h; exfalso; fail)
    | (intro h; (try simp only [decide_eq_true_eq, decide_eq_false_iff_not, beq_iff_eq, beq_eq_false_iff_ne, Bool.not_eq_true', Bool.not_eq_false', bne_iff_ne, bne_eq_false_iff_eq, ne_eq, ge_iff_le, gt_iff_lt] at h))
    | (with_reducible apply J.gave')
    | ((with_reducible apply J.kept'); rotate_left; (repeat (first | (with_reducible exact Outs.nil) | ((with_reducible apply Outs.cons); (repeat (first | with_reducible exact Out.here | with_reducible apply Out.there))))))
  all_goals (rfl)
theorem rstand_ (a : Ak) (ro : Int) (w : World) (hw : True) : CSpec Try.prog 42 [.agg a.cells.toArray, .int .i64 ro] [] w (Gives (.agg (Iv.cells (staF a r18 ro)).toArray)) := by
  refine spec_own0 Try.func42 rfl Try.ntmps42 rfl (l0 := [(0, .agg a.cells.toArray), (1, .int .i64 ro)]) rfl ?_
  repeat' first
    | (refine J.qv ?_; (with_reducible apply exq); focus (first
      | ((with_reducible apply Qv.buildS (T := 43)); exact rfl; (show _ = some (Iv.cells (staF a r18 ro))); kernel_rfl)))
    | (refine J.qr ?_; (with_reducible apply exq); focus (first
      | ((with_reducible apply Qr.load1); exact rfl; (focus ((repeat (first | with_reducible exact In.here | with_reducible apply In.there)); done)); exact rfl)))
    | ((with_reducible apply J.storeFull); exact rfl; exact rfl; (repeat (first | with_reducible exact Upd.here | with_reducible apply Upd.there)); (with_reducible first | exact mg_len _ | exact iv_len _); (focus kernel_rfl); (with_reducible first | exact mg_ones _ | exact rfl))
    | refine J.one ?_
    | refine J.loudS ?_
    | (refine J.loudQ ?_; intro _ _)
    | (refine J.loudB ?_; intro _)
    | (with_reducible apply J.list)
    | ((with_reducible apply J.gsplit); exact rfl; exact rfl)
    | ((with_reducible first | apply J.cond | apply JC.cond); exact rfl)
    | (intro h; exfalso; fail)
    | (intro h; (try simp only [decide_eq_true_eq, decide_eq_false_iff_not, beq_iff_eq, beq_eq_false_iff_ne, Bool.not_eq_true', Bool.not_eq_false', bne_iff_ne, bne_eq_false_iff_eq, ne_eq, ge_iff_le, gt_iff_lt] at h))
    | (with_reducible apply J.gave')
    | ((with_reducible apply J.kept'); rotate_left; (repeat (first | (with_reducible exact Outs.nil) | ((with_reducible apply Outs.cons); (repeat (first | with_reducible exact Out.here | with_reducible apply Out.there))))))
  all_goals (rfl)
theorem check_ask (a : Ak) (ha : AkIn a) (w : World) (hw : True) : CSpec Try.prog 68 [.agg a.cells.toArray] [] w (Gives (.int .i64 (askE a))) := by
  refine spec_own0 Try.func68 rfl Try.ntmps68 rfl (l0 := [(0, .agg a.cells.toArray)]) rfl ?_
  repeat' first
    | (refine J.qv ?_; (with_reducible apply exq); focus (first
      | ((with_reducible apply Qv.eqlA); exact rfl; exact rfl; kernel_rfl; (exact fun w => weq a.am 0 ⟨ha.am, wd_0⟩ w))))
    | (refine J.qr ?_; (with_reducible apply exq); focus (first
      | ((with_reducible apply Qr.loadN); exact rfl; (focus ((repeat (first | with_reducible exact In.here | with_reducible apply In.there)); done)); exact (show (a.cells.drop 4).take 4 = wv a.am from rfl); with_reducible exact wv_length _)
      | ((with_reducible apply Qr.loadFull); exact rfl; (focus ((repeat (first | with_reducible exact In.here | with_reducible apply In.there)); done)); (with_reducible first | exact ak_len _ | exact mg_len _ | exact wv_length _ | exact iv_len _))))
    | ((with_reducible apply J.givesR (stand_ a 2)); exact rfl; exact rfl; focus (exact RH.true_))
    | ((with_reducible apply J.givesW (dealCheck a.us rr8 2 a.se a.re a.to a.id)); exact rfl; exact rfl)
    | refine J.one ?_
    | refine J.loudS ?_
    | (refine J.loudQ ?_; intro _ _)
    | (refine J.loudB ?_; intro _)
    | (with_reducible apply J.list)
    | ((with_reducible apply J.gsplit); exact rfl; exact rfl)
    | ((with_reducible first | apply J.cond | apply JC.cond); exact rfl)
    | (intro h; exfalso; (first | (simp at h; done) | omega))
    | (intro h; (try simp only [decide_eq_true_eq, decide_eq_false_iff_not, beq_iff_eq, beq_eq_false_iff_ne, Bool.not_eq_true', Bool.not_eq_false', bne_iff_ne, bne_eq_false_iff_eq, ne_eq, ge_iff_le, gt_iff_lt] at h))
    | (with_reducible apply J.gave')
    | ((with_reducible apply J.kept'); rotate_left; (repeat (first | (with_reducible exact Outs.nil) | ((with_reducible apply Outs.cons); (repeat (first | with_reducible exact Out.here | with_reducible apply Out.there))))))
  all_goals
    first
    | (simp only [retv]; rw [askE_0 (by assumption)]; done)
    | (simp only [retv]; rw [askE_1 (by assumption)]; done)
    | (trace_state; fail)
theorem inB_iff {n a b : Int} : inB n a b = true ↔ a ≤ n ∧ n ≤ b := by unfold inB; simp
theorem invE_yes {us ro se re to : Int} {rt id : List UInt8} (h : 0 ≤ us ∧ us ≤ 1 ∧ 2 ≤ ro ∧ ro ≤ 3 ∧ 0 ≤ se ∧ se ≤ 1 ∧ 0 ≤ re ∧ re ≤ 1 ∧ 0 ≤ to ∧ to ≤ 7 ∧ rt.length = 8 ∧ 1 ≤ id.length ∧ id.length ≤ 16) : Value.int .i64 0 = .int .i64 (invE us rt ro se re to id) := by
  unfold invE
  simp only [inB_iff]
  rw [if_pos (by omega)]
theorem invE_no {us ro se re to : Int} {rt id : List UInt8} (h : ¬(0 ≤ us ∧ us ≤ 1 ∧ 2 ≤ ro ∧ ro ≤ 3 ∧ 0 ≤ se ∧ se ≤ 1 ∧ 0 ≤ re ∧ re ≤ 1 ∧ 0 ≤ to ∧ to ≤ 7 ∧ rt.length = 8 ∧ 1 ≤ id.length ∧ id.length ≤ 16)) : Value.int .i64 39 = .int .i64 (invE us rt ro se re to id) := by
  unfold invE
  simp only [inB_iff]
  rw [if_neg (by omega)]
theorem rinv (us : Int) (rt : List UInt8) (ro se re to : Int) (id : List UInt8) (w : World) (hw : True) : CSpec Try.prog 41 [.agg (invc us rt ro se re to id).toArray] [] w (Gives (.int .i64 (invE us rt ro se re to id))) := by
  refine spec_own0 Try.func41 rfl Try.ntmps41 rfl (l0 := [(0, .agg (invc us rt ro se re to id).toArray)]) rfl ?_
  repeat' first
    | (refine J.qv ?_; (with_reducible apply exq); focus (first
      | ((with_reducible apply Qv.lenS8); exact rfl)))
    | refine J.one ?_
    | refine J.loudS ?_
    | (refine J.loudQ ?_; intro _ _)
    | (refine J.loudB ?_; intro _)
    | (with_reducible apply J.list)
    | ((with_reducible apply J.gsplit); exact rfl; exact rfl)
    | ((with_reducible first | apply J.cond | apply JC.cond); exact rfl)
    | (intro h; exfalso; (first | (simp at h; done) | omega))
    | (intro h; (try simp only [decide_eq_true_eq, decide_eq_false_iff_not, beq_iff_eq, beq_eq_false_iff_ne, Bool.not_eq_true', Bool.not_eq_false', bne_iff_ne, bne_eq_false_iff_eq, ne_eq, ge_iff_le, gt_iff_lt] at h))
    | (with_reducible apply J.gave')
    | ((with_reducible apply J.kept'); rotate_left; (repeat (first | (with_reducible exact Outs.nil) | ((with_reducible apply Outs.cons); (repeat (first | with_reducible exact Out.here | with_reducible apply Out.there))))))
  all_goals ((first | exact invE_no (by omega) | exact invE_yes (by omega) | (trace_state; fail)))
theorem askE_n {a : Ak} (h : ¬ a.am = 0) (h2 : ¬ invE a.us r18 2 a.se a.re a.to a.id = 0) : askE a = 39 := (askE_2 h).trans ((invE_or _ _ _ _ _ _ _).resolve_left h2)
theorem askE_y {a : Ak} (h : ¬ a.am = 0) (h2 : invE a.us r18 2 a.se a.re a.to a.id = 0) : askE a = 0 := (askE_2 h).trans h2
theorem rask_ (a : Ak) (ha : AkIn a) (w : World) (hw : True) : CSpec Try.prog 16 [.agg a.cells.toArray] [] w (Gives (.int .i64 (askE a))) := by
  refine spec_own0 Try.func16 rfl Try.ntmps16 rfl (l0 := [(0, .agg a.cells.toArray)]) rfl ?_
  repeat' first
    | (refine J.qv ?_; (with_reducible apply exq); focus (first
      | ((with_reducible apply Qv.eqlA); exact rfl; exact rfl; kernel_rfl; (exact fun w => weq a.am 0 ⟨ha.am, wd_0⟩ w))))
    | (refine J.qr ?_; (with_reducible apply exq); focus (first
      | ((with_reducible apply Qr.loadN); exact rfl; (focus ((repeat (first | with_reducible exact In.here | with_reducible apply In.there)); done)); exact (show (a.cells.drop 4).take 4 = wv a.am from rfl); with_reducible exact wv_length _)
      | ((with_reducible apply Qr.loadFull); exact rfl; (focus ((repeat (first | with_reducible exact In.here | with_reducible apply In.there)); done)); (with_reducible first | exact ak_len _ | exact mg_len _ | exact wv_length _ | exact iv_len _))))
    | ((with_reducible apply J.givesR (rstand_ a 2)); exact rfl; exact rfl; focus (exact RH.true_))
    | ((with_reducible apply J.givesR (rinv a.us r18 2 a.se a.re a.to a.id)); exact rfl; exact rfl; focus (exact RH.true_))
    | refine J.one ?_
    | refine J.loudS ?_
    | (refine J.loudQ ?_; intro _ _)
    | (refine J.loudB ?_; intro _)
    | (with_reducible apply J.list)
    | ((with_reducible apply J.gsplit); exact rfl; exact rfl)
    | ((with_reducible first | apply J.cond | apply JC.cond); exact rfl)
    | (intro h; exfalso; (first | (simp at h; done) | omega))
    | (intro h; (try simp only [decide_eq_true_eq, decide_eq_false_iff_not, beq_iff_eq, beq_eq_false_iff_ne, Bool.not_eq_true', Bool.not_eq_false', bne_iff_ne, bne_eq_false_iff_eq, ne_eq, ge_iff_le, gt_iff_lt] at h))
    | (with_reducible apply J.gave')
    | ((with_reducible apply J.kept'); rotate_left; (repeat (first | (with_reducible exact Outs.nil) | ((with_reducible apply Outs.cons); (repeat (first | with_reducible exact Out.here | with_reducible apply Out.there))))))
  all_goals
    first
    | (simp only [retv]; rw [askE_0 (by assumption)]; done)
    | (simp only [retv]; rw [askE_n (by assumption) (by assumption)]; done)
    | (simp only [retv]; rw [askE_y (by assumption) (by assumption)]; done)
    | (trace_state; fail)
end Go.Proofs.Ytfcaeifpclpnoaa.Cas
