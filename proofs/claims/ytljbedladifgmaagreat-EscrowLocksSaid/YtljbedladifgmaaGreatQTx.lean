/-
  Transactions, and which may be. No conditions.
-/
import Derived.Test.YtljbedladifgmaaGreatQWide
namespace Go.Proofs.YtljbedladifgmaaGreat.Tx
open Go Go.RowKit Eng
set_option linter.unusedVariables false
set_option maxRecDepth 100000
set_option linter.unusedSimpArgs false
open Wide
set_option maxHeartbeats 2000000
/-- A transaction's parts. -/
structure Tx where
  fr : Int
  no : Int
  ki : Int
  at_ : Int
  am : Int
  us : Int
  rt : List UInt8
  ro : Int
  se : Int
  re : Int
  to : Int
  id : List UInt8
  va : Int
  ex : Int
  fee : Int
  sg : List UInt8
def invc (us : Int) (rt : List UInt8) (ro se re to : Int) (id : List UInt8) : List Value := [.int .i64 us, str rt, .int .i64 ro, .int .i64 se, .int .i64 re, .int .i64 to, str id]
def varc (va ex : Int) : List Value := wv va ++ [.int .i64 ex]
def Tx.cells (t : Tx) : List Value := [.int .i64 t.fr, .int .i64 t.no, .int .i64 t.ki, .int .i64 t.at_] ++ wv t.am ++ invc t.us t.rt t.ro t.se t.re t.to t.id ++ varc t.va t.ex ++ wv t.fee ++ [str t.sg]
def inB (n a b : Int) : Bool := decide (a ≤ n) && decide (n ≤ b)
def invE (us : Int) (rt : List UInt8) (ro se re to : Int) (id : List UInt8) : Int :=
  if inB us 0 1 = true ∧ inB ro 2 3 = true ∧ inB se 0 1 = true ∧ inB re 0 1 = true ∧ inB to 0 7 = true ∧ rt.length = 8 ∧ inB (id.length : Int) 1 16 = true then 0 else 39
def sndE (va ex : Int) : Int := if va ≠ 0 ∧ inB ex 0 1099511627776 = true then 0 else 36
def rtE (t : Tx) : Int := if t.am = 0 then 36 else if t.ki = 1 ∧ inB t.to 0 7 = false then 39 else if t.ki = 2 ∧ inB t.ro 2 3 = false then 39 else 0
/-- May it be? -/
def chk (t : Tx) : Int :=
  if inB t.ki 1 6 = false then 12
  else if inB t.fr 0 7 = false ∨ inB t.no 0 1099511627776 = false ∨ inB t.at_ 0 1 = false then 4
  else if t.ki < 4 then rtE t
  else if invE t.us t.rt t.ro t.se t.re t.to t.id ≠ 0 then invE t.us t.rt t.ro t.se t.re t.to t.id
  else if sndE t.va t.ex ≠ 0 then sndE t.va t.ex
  else if 1024 < t.sg.length then 5
  else 0
/-- What a transaction that comes in is. -/
structure Tx.In (t : Tx) : Prop where
  am : Wd t.am
  va : Wd t.va
  rt : t.rt.length ≤ maxLen
  id : t.id.length ≤ maxLen
  sg : t.sg.length ≤ maxLen
theorem chk_fr {t : Tx} (h : chk t = 0) : 0 ≤ t.fr ∧ t.fr ≤ 7 := by
  unfold chk at h
  split at h
  · omega
  · split at h
    · omega
    · rename_i h1 h2
      simp only [not_or, Bool.not_eq_false] at h2
      have := h2.1
      unfold inB at this
      simpa using this
theorem in_ (n a b : Int) (w : World) : CSpec Tryz.prog 97 [.int .i64 n, .int .i64 a, .int .i64 b] [] w (Gives (.bool (inB n a b))) := by
  refine spec_of Tryz.func97 rfl Tryz.ntmps97 rfl (l0 := [(0, .int .i64 n), (1, .int .i64 a), (2, .int .i64 b)]) rfl ?_
  intro fp
  repeat' first
    | refine J.one ?_
    | refine J.loudS ?_
    | (refine J.loudQ ?_; intro _ _)
    | (refine J.loudB ?_; intro _)
    | (with_reducible apply J.list)
    | ((with_reducible apply J.gsplit); exact rfl; exact rfl)
    | ((with_reducible first | apply J.cond | apply JC.cond); exact rfl)
    | (intro h; exfalso; (first | (simp at h; done) | (simp at h; omega) | omega))
    | (intro h; (try simp only [decide_eq_true_eq, decide_eq_false_iff_not, beq_iff_eq, beq_eq_false_iff_ne, Bool.not_eq_true', Bool.not_eq_false', bne_iff_ne, bne_eq_false_iff_eq, ne_eq, ge_iff_le, gt_iff_lt] at h))
    | (with_reducible apply J.gave')
    | ((with_reducible apply J.kept'); rotate_left; (repeat (first | (with_reducible exact Outs.nil) | ((with_reducible apply Outs.cons); (repeat (first | with_reducible exact Out.here | with_reducible apply Out.there))))))
  all_goals ((first | (simp [retv, inB, *]; done) | (simp [retv, inB]; omega) | (trace_state; fail)))
theorem dealCheck (us : Int) (rt : List UInt8) (ro se re to : Int) (id : List UInt8) (w : World) : CSpec Tryz.prog 58 [.agg (invc us rt ro se re to id).toArray] [] w (Gives (.int .i64 (invE us rt ro se re to id))) := by
  refine spec_of Tryz.func58 rfl Tryz.ntmps58 rfl (l0 := [(0, .agg (invc us rt ro se re to id).toArray)]) rfl ?_
  intro fp
  repeat' first
    | (refine J.qv ?_; (with_reducible apply exq); focus (first
      | ((with_reducible apply Qv.lenS8); exact rfl)))
    | ((with_reducible apply J.givesW (in_ _ _ _)); exact rfl; exact rfl)
    | refine J.one ?_
    | refine J.loudS ?_
    | (refine J.loudQ ?_; intro _ _)
    | (refine J.loudB ?_; intro _)
    | (with_reducible apply J.list)
    | ((with_reducible apply J.gsplit); exact rfl; exact rfl)
    | ((with_reducible first | apply J.cond | apply JC.cond); exact rfl)
    | (intro h; exfalso; (first | (simp at h; done) | omega))
    | (intro h; (try simp only [decide_eq_true_eq, decide_eq_false_iff_not, beq_iff_eq, beq_eq_false_iff_ne, Bool.not_eq_true', Bool.not_eq_false', bne_iff_ne, bne_eq_false_iff_eq, ne_eq, ge_iff_le, gt_iff_lt] at h))
    | (with_reducible apply J.gave')
    | ((with_reducible apply J.kept'); rotate_left; (repeat (first | (with_reducible exact Outs.nil) | ((with_reducible apply Outs.cons); (repeat (first | with_reducible exact Out.here | with_reducible apply Out.there))))))
  all_goals ((first | rfl | (simp_all [retv, invE]; done) | (simp_all [retv, invE]; omega) | (trace_state; fail)))
theorem sound (va ex : Int) (hv : Wd va) (w : World) : CSpec Tryz.prog 75 [.agg (varc va ex).toArray] [] w (Gives (.int .i64 (sndE va ex))) := by
  refine spec_of Tryz.func75 rfl Tryz.ntmps75 rfl (l0 := [(0, .agg (varc va ex).toArray)]) rfl ?_
  intro fp
  repeat' first
    | (refine J.qv ?_; (with_reducible apply exq); focus (first
      | ((with_reducible apply Qv.buildW); exact rfl; exact rfl; (first | with_reducible assumption | (unfold Wo; omega) | (simp only [Wd, Wo] at *; omega)))
      | ((with_reducible apply Qv.buildW0); exact rfl; exact rfl)
      | ((with_reducible apply Qv.eqlA); exact rfl; exact rfl; (kernel_rfl); (refine weq _ _ (And.intro ?_ ?_) <;> (first | with_reducible assumption | exact ht.am | exact ht.va | (unfold Wd; omega))))))
    | ((with_reducible apply J.givesW (in_ _ _ _)); exact rfl; exact rfl)
    | refine J.one ?_
    | refine J.loudS ?_
    | (refine J.loudQ ?_; intro _ _)
    | (refine J.loudB ?_; intro _)
    | (with_reducible apply J.list)
    | ((with_reducible apply J.gsplit); exact rfl; exact rfl)
    | ((with_reducible first | apply J.cond | apply JC.cond); exact rfl)
    | (intro h; exfalso; (first | (simp at h; done) | omega))
    | (intro h; (try simp only [decide_eq_true_eq, decide_eq_false_iff_not, beq_iff_eq, beq_eq_false_iff_ne, Bool.not_eq_true', Bool.not_eq_false', bne_iff_ne, bne_eq_false_iff_eq, ne_eq, ge_iff_le, gt_iff_lt] at h))
    | (with_reducible apply J.gave')
    | ((with_reducible apply J.kept'); rotate_left; (repeat (first | (with_reducible exact Outs.nil) | ((with_reducible apply Outs.cons); (repeat (first | with_reducible exact Out.here | with_reducible apply Out.there))))))
  all_goals ((first | rfl | (simp_all [retv, sndE]; done) | (trace_state; fail)))
theorem route (t : Tx) (ht : t.In) (w : World) : CSpec Tryz.prog 74 [.agg t.cells.toArray] [] w (Gives (.int .i64 (rtE t))) := by
  refine spec_of Tryz.func74 rfl Tryz.ntmps74 rfl (l0 := [(0, .agg t.cells.toArray)]) rfl ?_
  intro fp
  repeat' first
    | (refine J.qv ?_; (with_reducible apply exq); focus (first
      | ((with_reducible apply Qv.buildW); exact rfl; exact rfl; (first | with_reducible assumption | (unfold Wo; omega) | (simp only [Wd, Wo] at *; omega)))
      | ((with_reducible apply Qv.buildW0); exact rfl; exact rfl)
      | ((with_reducible apply Qv.eqlA); exact rfl; exact rfl; (kernel_rfl); (refine weq _ _ (And.intro ?_ ?_) <;> (first | with_reducible assumption | exact ht.am | exact ht.va | (unfold Wd; omega))))))
    | refine J.one ?_
    | refine J.loudS ?_
    | (refine J.loudQ ?_; intro _ _)
    | (refine J.loudB ?_; intro _)
    | (with_reducible apply J.list)
    | ((with_reducible apply J.gsplit); exact rfl; exact rfl)
    | ((with_reducible first | apply J.cond | apply JC.cond); exact rfl)
    | (intro h; exfalso; (first | (simp at h; done) | omega))
    | (intro h; (try simp only [decide_eq_true_eq, decide_eq_false_iff_not, beq_iff_eq, beq_eq_false_iff_ne, Bool.not_eq_true', Bool.not_eq_false', bne_iff_ne, bne_eq_false_iff_eq, ne_eq, ge_iff_le, gt_iff_lt] at h))
    | (with_reducible apply J.gave')
    | ((with_reducible apply J.kept'); rotate_left; (repeat (first | (with_reducible exact Outs.nil) | ((with_reducible apply Outs.cons); (repeat (first | with_reducible exact Out.here | with_reducible apply Out.there))))))
  all_goals ((first | rfl | (simp_all [retv, rtE, inB]; done) | (simp_all [retv, rtE, inB]; omega) | (trace_state; fail)))
theorem check (t : Tx) (ht : t.In) (w : World) : CSpec Tryz.prog 34 [.agg t.cells.toArray] [] w (Gives (.int .i64 (chk t))) := by
  refine spec_of Tryz.func34 rfl Tryz.ntmps34 rfl (l0 := [(0, .agg t.cells.toArray)]) rfl ?_
  intro fp
  repeat' first
    | (refine J.qv ?_; (with_reducible apply exq); focus (first
      | ((with_reducible apply Qv.buildW); exact rfl; exact rfl; (first | with_reducible assumption | (unfold Wo; omega) | (simp only [Wd, Wo] at *; omega)))
      | ((with_reducible apply Qv.buildW0); exact rfl; exact rfl)
      | ((with_reducible apply Qv.eqlA); exact rfl; exact rfl; (kernel_rfl); (refine weq _ _ (And.intro ?_ ?_) <;> (first | with_reducible assumption | exact ht.am | exact ht.va | (unfold Wd; omega))))
      | ((with_reducible apply Qv.lenS8); exact rfl)))
    | ((with_reducible apply J.givesP (route _)); exact rfl; exact rfl; (exact ht))
    | ((with_reducible apply J.givesW (dealCheck _ _ _ _ _ _ _)); exact rfl; exact rfl)
    | ((with_reducible apply J.givesP (sound _ _)); exact rfl; exact rfl; (exact ht.va))
    | refine J.one ?_
    | refine J.loudS ?_
    | (refine J.loudQ ?_; intro _ _)
    | (refine J.loudB ?_; intro _)
    | (with_reducible apply J.list)
    | ((with_reducible apply J.gsplit); exact rfl; exact rfl)
    | ((with_reducible first | apply J.cond | apply JC.cond); exact rfl)
    | (intro h; exfalso; (first | (simp at h; done) | omega))
    | (intro h; (try simp only [decide_eq_true_eq, decide_eq_false_iff_not, beq_iff_eq, beq_eq_false_iff_ne, Bool.not_eq_true', Bool.not_eq_false', bne_iff_ne, bne_eq_false_iff_eq, ne_eq, ge_iff_le, gt_iff_lt] at h))
    | (with_reducible apply J.gave')
    | ((with_reducible apply J.kept'); rotate_left; (repeat (first | (with_reducible exact Outs.nil) | ((with_reducible apply Outs.cons); (repeat (first | with_reducible exact Out.here | with_reducible apply Out.there))))))
  all_goals
    (simp only [retv, Value.int.injEq, true_and]
     unfold chk inB
     simp only [Bool.and_eq_false_iff, decide_eq_false_iff_not]
     first
     | (rw [if_pos (by omega)]; done)
     | (rw [if_neg (by omega), if_pos (by omega)]; done)
     | (rw [if_neg (by omega), if_neg (by omega), if_pos (by omega)]; done)
     | (rw [if_neg (by omega), if_neg (by omega), if_neg (by omega), if_pos (by assumption)]; done)
     | (rw [if_neg (by omega), if_neg (by omega), if_neg (by omega), if_neg (by simp_all), if_pos (by assumption)]; done)
     | (rw [if_neg (by omega), if_neg (by omega), if_neg (by omega), if_neg (by simp_all), if_neg (by simp_all), if_pos (by omega)]; done)
     | (rw [if_neg (by omega), if_neg (by omega), if_neg (by omega), if_neg (by simp_all), if_neg (by simp_all), if_neg (by omega)]; done)
     | (trace_state; fail))
end Go.Proofs.YtljbedladifgmaaGreat.Tx
